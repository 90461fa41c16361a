/- Words and walks for the proof. -/
import Derived.Test.YtipadliffadhkaaDoorOrdC
import Derived.ProofKit
import Derived.OpenShut
import Derived.ReadAgain
import Derived.Carry
import Derived.Deep.Slices
import Derived.SizedLaws
set_option linter.unusedVariables false
set_option linter.unusedSimpArgs false
set_option linter.unusedSectionVars false
/-! Printed by wip/tools/walk.py. -/
namespace Go.Proofs.PanK
open Go.Vs
set_option maxRecDepth 8000
def i_HistStart : Option (HistState) :=
  some ({ Next := 1, Servers := 3, Disks := [], Pieces := [] } : HistState)
theorem i_HistStart_c {r : HistState} (hF : i_HistStart = some r) : Con Tryd.prog 50 [] [] (.val true (HistState.L r)) [] := by
  refine Con.of_Dz tabOk Tryd.func50 rfl rfl rfl ?_
  delta i_HistStart at hF
  refine Dz.seq ?_
  refine Dz.reg ?_
  refine Dz.seq ?_
  refine Dz.reg ?_
  refine Dz.ret ?_
  cases hF
  exact finG [] [] rfl rfl (⟨rfl, LeU.refl _, LeU.refl _, ⟨_, _, _, rfl⟩, ⟨_, _, _, rfl⟩, trivial⟩) trivial rfl
end Go.Proofs.PanK

/-! Printed by wip/tools/walk.py. -/
namespace Go.Proofs.PanK
open Go.Vs
set_option maxRecDepth 8000
def i_HistOrder (a0 : (List PanCall)) : Option ((List Int) × Bool) :=
  (i_callsOk a0 99999).bind (fun y1 => cond (!y1) (some (([] : List Int), false)) ((i_HistStart).bind (fun y2 => ck (0 ≤ ((a0.length : Nat) : Int) ∧ ((a0.length : Nat) : Int) * 1 ≤ 140737488355328) ((i_search_find ((List.replicate a0.length (false : Bool)).length + 1) ({ calls := a0, tried := ([] : List (ByteArray × Bool)) } : search) y2 (List.replicate a0.length (false : Bool)) []).bind (fun y3 => (i_copied_int y3.1).bind (fun y4 => some (y4, y3.2.1)))))))
theorem i_HistOrder_c {t0_0 : Bool} {a0 : (List PanCall)} {r : (List Int) × Bool} (hF : i_HistOrder a0 = some r) : Con Tryd.prog 22 [.val false [.u (ul PanCall.c 12 t0_0 a0)]] [] (.tup [(false, [.row 0]), (false, [.u (.bool r.2)])]) [.row 3 r.1.length 1 (gl cInt r.1)] := by
  refine Con.of_Dz tabOk Tryd.func22 rfl rfl rfl ?_
  delta i_HistOrder at hF
  refine Dz.seq ?_
  refine Dz.reg ?_
  refine Dz.seq ?_
  refine Dz.seq ?_
  refine Dz.reg ?_
  refine bdE hF (fun y1 hy1 hF => ?_)
  refine callG [] (i_callsOk_c hy1) ⟨m_val rfl, m_val rfl, trivial⟩ trivial rfl ?_
  refine Dz.ite rfl hF (fun _ hF => ?_) (fun _ hF => ?_)
  · refine Dz.seq ?_
    refine Dz.reg ?_
    refine Dz.ret ?_
    cases hF
    exact finG [.slot 2 3 1] [0] rfl rfl ⟨⟨rfl, ⟨rfl, trivial⟩⟩, ⟨rfl, mls_same rfl⟩, trivial⟩ ⟨⟨rfl, o_rowE (by simp <;> omega) EqG.nilr⟩, trivial⟩ rfl
  · refine Dz.skip ?_
    refine Dz.seq ?_
    refine Dz.reg ?_
    refine Dz.seq ?_
    refine Dz.drw 2 [⟨[16,17,18,19], [], 2, 2⟩, ⟨[15,17,18,19], [], 2, 2⟩, ⟨[15,16], [], 2, 2⟩, ⟨[15,16], [], 2, 2⟩, ⟨[15,16], [], 2, 3⟩, ⟨[], [0,1,2], 3, 3⟩, ⟨[], [], 3, 3⟩, ⟨[22], [], 3, 3⟩, ⟨[21,5], [], 3, 3⟩, ⟨[22], [], 3, 3⟩, ⟨[], [], 3, 3⟩] ⟨by kernel_rfl, by kernel_rfl, rfl⟩ ?_
    refine bdE hF (fun y2 hy2 hF => ?_)
    refine callG [] (i_HistStart_c hy2) trivial trivial rfl ?_
    refine vck hF (fun h => ⟨rfl, h⟩) (fun hk hF => ?_)
    refine bdE hF (fun y3 hy3 hF => ?_)
    refine callG [1, 0, 2] (i_search_find_c hy3) ⟨m_ptr rfl, m_val rfl, ⟨rfl, rfl, trivial⟩, ⟨rfl, ⟨_, _, _, rfl⟩, trivial⟩, trivial⟩ ⟨⟨rfl, ⟨rfl, LeU.refl _, rfl, trivial⟩⟩, ⟨rfl, rfl⟩, ⟨rfl, o_rowE (by simp <;> omega) (EqG.rep' (c := cBool) (sz := 1) _ ⟨LeU.refl _, trivial⟩)⟩, trivial⟩ rfl ?_
    refine Dz.seq ?_
    refine Dz.reg ?_
    refine bdE hF (fun y4 hy4 hF => ?_)
    refine callG [] (i_copied_int_c hy4) ⟨m_val rfl, trivial⟩ trivial rfl ?_
    refine Dz.ret ?_
    cases hF
    exact finG [] [3] rfl rfl ⟨⟨rfl, ⟨rfl, trivial⟩⟩, ⟨rfl, mls_same rfl⟩, trivial⟩ ⟨⟨rfl, o_row⟩, trivial⟩ rfl
end Go.Proofs.PanK

/-! Printed by wip/tools/walk.py. -/
namespace Go.Proofs.PanK
open Go.Vs
set_option maxRecDepth 8000
def i_HistOk (a0 : (List PanCall)) : Option (Bool) :=
  (i_HistOrder a0).bind (fun y1 => some y1.2)
theorem i_HistOk_c {t0_0 : Bool} {a0 : (List PanCall)} {r : Bool} (hF : i_HistOk a0 = some r) : Con Tryd.prog 19 [.val false [.u (ul PanCall.c 12 t0_0 a0)]] [] (vbool r) [] := by
  refine Con.of_Dz tabOk Tryd.func19 rfl rfl rfl ?_
  delta i_HistOk at hF
  refine Dz.seq ?_
  refine Dz.reg ?_
  refine Dz.seq ?_
  refine Dz.reg ?_
  refine bdE hF (fun y1 hy1 hF => ?_)
  refine callG [] (i_HistOrder_c hy1) ⟨m_val rfl, trivial⟩ trivial rfl ?_
  refine Dz.seq ?_
  refine Dz.reg ?_
  refine Dz.ret ?_
  cases hF
  exact finG [] [] rfl rfl (m_val rfl) trivial rfl
end Go.Proofs.PanK

/-! Printed by wip/tools/walk.py. -/
namespace Go.Proofs.PanK
open Go.Vs
set_option maxRecDepth 8000
def l_eqPanCall (a0 : PanCall) (a1 : PanCall) : Option (Bool) :=
  cond (!decide (a0.Client = a1.Client)) (some false) (cond (!decide (a0.Call = a1.Call)) (some false) (cond (!decide (a0.Op = a1.Op)) (some false) (cond (!decide (a0.Disk = a1.Disk)) (some false) (cond (!decide (a0.Block = a1.Block)) (some false) (cond (!decide (a0.Epoch = a1.Epoch)) (some false) (cond (!decide (a0.Data = a1.Data)) (some false) (cond (!decide (a0.Begin = a1.Begin)) (some false) (cond (!decide (a0.End = a1.End)) (some false) (cond (!(a0.Over == a1.Over)) (some false) (cond (!decide (a0.Code = a1.Code)) (some false) (cond (!decide (a0.Value = a1.Value)) (some false) (some true))))))))))))
theorem l_eqPanCall_c {a0 : PanCall} {a1 : PanCall} {r : Bool} (hF : l_eqPanCall a0 a1 = some r) : Con Tryd.prog 44 [.val true (PanCall.L a0), .val true (PanCall.L a1)] [] (vbool r) [] := by
  refine Con.of_Dz tabOk Tryd.func44 rfl rfl rfl ?_
  delta l_eqPanCall at hF
  refine Dz.seq ?_
  refine Dz.reg ?_
  refine Dz.seq ?_
  refine Dz.seq ?_
  refine Dz.reg ?_
  refine Dz.ite rfl hF (fun _ hF => ?_) (fun _ hF => ?_)
  · refine Dz.seq ?_
    refine Dz.reg ?_
    refine Dz.ret ?_
    cases hF
    exact finG [] [] rfl rfl (m_val rfl) trivial rfl
  · refine Dz.skip ?_
    refine Dz.seq ?_
    refine Dz.seq ?_
    refine Dz.reg ?_
    refine Dz.ite rfl hF (fun _ hF => ?_) (fun _ hF => ?_)
    · refine Dz.seq ?_
      refine Dz.reg ?_
      refine Dz.ret ?_
      cases hF
      exact finG [] [] rfl rfl (m_val rfl) trivial rfl
    · refine Dz.skip ?_
      refine Dz.seq ?_
      refine Dz.seq ?_
      refine Dz.reg ?_
      refine Dz.ite rfl hF (fun _ hF => ?_) (fun _ hF => ?_)
      · refine Dz.seq ?_
        refine Dz.reg ?_
        refine Dz.ret ?_
        cases hF
        exact finG [] [] rfl rfl (m_val rfl) trivial rfl
      · refine Dz.skip ?_
        refine Dz.seq ?_
        refine Dz.seq ?_
        refine Dz.reg ?_
        refine Dz.ite rfl hF (fun _ hF => ?_) (fun _ hF => ?_)
        · refine Dz.seq ?_
          refine Dz.reg ?_
          refine Dz.ret ?_
          cases hF
          exact finG [] [] rfl rfl (m_val rfl) trivial rfl
        · refine Dz.skip ?_
          refine Dz.seq ?_
          refine Dz.seq ?_
          refine Dz.reg ?_
          refine Dz.ite rfl hF (fun _ hF => ?_) (fun _ hF => ?_)
          · refine Dz.seq ?_
            refine Dz.reg ?_
            refine Dz.ret ?_
            cases hF
            exact finG [] [] rfl rfl (m_val rfl) trivial rfl
          · refine Dz.skip ?_
            refine Dz.seq ?_
            refine Dz.seq ?_
            refine Dz.reg ?_
            refine Dz.ite rfl hF (fun _ hF => ?_) (fun _ hF => ?_)
            · refine Dz.seq ?_
              refine Dz.reg ?_
              refine Dz.ret ?_
              cases hF
              exact finG [] [] rfl rfl (m_val rfl) trivial rfl
            · refine Dz.skip ?_
              refine Dz.seq ?_
              refine Dz.seq ?_
              refine Dz.reg ?_
              refine Dz.ite rfl hF (fun _ hF => ?_) (fun _ hF => ?_)
              · refine Dz.seq ?_
                refine Dz.reg ?_
                refine Dz.ret ?_
                cases hF
                exact finG [] [] rfl rfl (m_val rfl) trivial rfl
              · refine Dz.skip ?_
                refine Dz.seq ?_
                refine Dz.seq ?_
                refine Dz.ent (x := ([(2, .ptr 0 0), (3, .ptr 1 0)], [.box 78 (PanCall.L a0), .box 78 (PanCall.L a1)])) (entG [0, 1] ⟨m_ptr rfl, m_ptr rfl, trivial⟩ ⟨⟨rfl, o_box rfl⟩, ⟨rfl, o_box rfl⟩, trivial⟩ rfl) ?_
                refine Dz.reg ?_
                refine Dz.ite rfl hF (fun _ hF => ?_) (fun _ hF => ?_)
                · refine Dz.seq ?_
                  refine Dz.reg ?_
                  refine Dz.ret ?_
                  cases hF
                  exact finG [] [] rfl rfl (m_val rfl) trivial rfl
                · refine Dz.skip ?_
                  refine Dz.seq ?_
                  refine Dz.seq ?_
                  refine Dz.reg ?_
                  refine Dz.ite rfl hF (fun _ hF => ?_) (fun _ hF => ?_)
                  · refine Dz.seq ?_
                    refine Dz.reg ?_
                    refine Dz.ret ?_
                    cases hF
                    exact finG [] [] rfl rfl (m_val rfl) trivial rfl
                  · refine Dz.skip ?_
                    refine Dz.seq ?_
                    refine Dz.seq ?_
                    refine Dz.reg ?_
                    refine Dz.ite rfl hF (fun _ hF => ?_) (fun _ hF => ?_)
                    · refine Dz.seq ?_
                      refine Dz.reg ?_
                      refine Dz.ret ?_
                      cases hF
                      exact finG [] [] rfl rfl (m_val rfl) trivial rfl
                    · refine Dz.skip ?_
                      refine Dz.seq ?_
                      refine Dz.seq ?_
                      refine Dz.reg ?_
                      refine Dz.ite rfl hF (fun _ hF => ?_) (fun _ hF => ?_)
                      · refine Dz.seq ?_
                        refine Dz.reg ?_
                        refine Dz.ret ?_
                        cases hF
                        exact finG [] [] rfl rfl (m_val rfl) trivial rfl
                      · refine Dz.skip ?_
                        refine Dz.seq ?_
                        refine Dz.seq ?_
                        refine Dz.reg ?_
                        refine Dz.ite rfl hF (fun _ hF => ?_) (fun _ hF => ?_)
                        · refine Dz.seq ?_
                          refine Dz.reg ?_
                          refine Dz.ret ?_
                          cases hF
                          exact finG [] [] rfl rfl (m_val rfl) trivial rfl
                        · refine Dz.skip ?_
                          refine Dz.seq ?_
                          refine Dz.reg ?_
                          refine Dz.ret ?_
                          cases hF
                          exact finG [] [] rfl rfl (m_val rfl) trivial rfl
end Go.Proofs.PanK

/-! Printed by wip/tools/walk.py. -/
namespace Go.Proofs.PanK
open Go.Vs
set_option maxRecDepth 8000
def l_eqPanCallS (a0 : (List PanCall)) (a1 : (List PanCall)) : Option (Bool) :=
  cond (!decide (((a0.length : Nat) : Int) = ((a1.length : Nat) : Int))) (some false) (loopN (fun i3 (v8 : Unit) κ9 => lt (a0.getD i3 default) (fun x11 => ix a1 ((i3 : Nat) : Int) (fun x12 => (l_eqPanCall x11 x12).bind (fun y13 => cond (!y13) (some false) (κ9 ()))))) (fun (v8 : Unit) => some true) a0.length 0 ())
theorem l_eqPanCallS_c {t0_0 t1_0 : Bool} {a0 : (List PanCall)} {a1 : (List PanCall)} {r : Bool} (hF : l_eqPanCallS a0 a1 = some r) : Con Tryd.prog 20 [.val false [.u (ul PanCall.c 12 t0_0 a0)], .val false [.u (ul PanCall.c 12 t1_0 a1)]] [] (vbool r) [] := by
  refine Con.of_Dz tabOk Tryd.func20 rfl rfl rfl ?_
  delta l_eqPanCallS at hF
  refine Dz.seq ?_
  refine Dz.reg ?_
  refine Dz.seq ?_
  refine Dz.seq ?_
  refine Dz.reg ?_
  intro hb1; replace hb1 : a0.length ≤ 140737488355328 := hb1
  intro hb2; replace hb2 : a1.length ≤ 140737488355328 := hb2
  refine Dz.ite rfl hF (fun _ hF => ?_) (fun _ hF => ?_)
  · refine Dz.seq ?_
    refine Dz.reg ?_
    refine Dz.ret ?_
    cases hF
    exact finG [] [] rfl rfl (m_val rfl) trivial rfl
  · refine Dz.skip ?_
    refine Dz.seq ?_
    refine Dz.seq ?_
    refine Dz.reg ?_
    refine Dz.blk ?_
    refine Dz.cnt hF (fun i3 v8 => ([(0, .val false [.u (ul PanCall.c 12 t0_0 a0)]), (1, .val false [.u (ul PanCall.c 12 t1_0 a1)]), (5, vint .i64 ((i3 : Nat) : Int))], [])) (entG [] ⟨m_val rfl, m_val rfl, m_val rfl, trivial⟩ trivial rfl) (fun v8 hF => ?_) (fun i3 v8 κ9 hi0i3 hi1i3 hF => ?_)
    · refine Dz.seq ?_
      refine Dz.seq ?_
      refine Dz.reg ?_
      intro hb14; replace hb14 : a0.length ≤ 140737488355328 := hb14
      refine Dz.ff (b := decide (((0 + a0.length : Nat) : Int) < ((a0.length : Nat) : Int))) rfl (decide_eq_false (by omega)) ?_
      refine Dz.exit ?_
      refine Dz.seq ?_
      refine Dz.reg ?_
      refine Dz.ret ?_
      cases hF
      exact finG [] [] rfl rfl (m_val rfl) trivial rfl
    · refine Dz.seq ?_
      refine Dz.seq ?_
      refine Dz.reg ?_
      intro hb10; replace hb10 : a0.length ≤ 140737488355328 := hb10
      refine Dz.tt (b := decide (((i3 : Nat) : Int) < ((a0.length : Nat) : Int))) rfl (decide_eq_true (by omega)) ?_
      refine Dz.skip ?_
      refine Dz.seq ?_
      refine Dz.blk ?_
      refine Dz.seq ?_
      refine Dz.drw 0 [⟨[18,21,22,23,24], [], 0, 0⟩, ⟨[17,21,22,23,24], [], 0, 0⟩, ⟨[21,22,23,24], [], 0, 0⟩, ⟨[21,22,23,24], [], 0, 0⟩, ⟨[17,18,19,20,22], [], 0, 0⟩, ⟨[17,18,19,20,21], [], 0, 0⟩, ⟨[17,18,19,20], [], 0, 0⟩, ⟨[17,18,19,20], [], 0, 0⟩, ⟨[], [], 0, 0⟩, ⟨[], [], 0, 0⟩] ⟨by kernel_rfl, by kernel_rfl, rfl⟩ ?_
      refine vge (n := ((i3 : Nat) : Int)) (hi := (a0.length : Int)) (by omega) (by omega) ?_
      have hF := ltE hF
      refine vix hF (fun _ _ hF => ?_)
      refine bdE hF (fun y13 hy13 hF => ?_)
      refine callG [] (l_eqPanCall_c hy13) ⟨m_val rfl, m_val rfl, trivial⟩ trivial rfl ?_
      refine Dz.ite rfl hF (fun _ hF => ?_) (fun _ hF => ?_)
      · refine Dz.seq ?_
        refine Dz.reg ?_
        refine Dz.ret ?_
        cases hF
        exact finG [] [] rfl rfl (m_val rfl) trivial rfl
      · refine Dz.skip ?_
        refine Dz.reg ?_
        refine vsucc (by omega) ?_
        exact ⟨(), entG [] ⟨m_val rfl, m_val rfl, m_val rfl, trivial⟩ trivial rfl, hF⟩
end Go.Proofs.PanK

/-! Printed by wip/tools/walk.py. -/
namespace Go.Proofs.PanK
open Go.Vs
set_option maxRecDepth 8000
def l_FnExactHistOk (a0 : (List PanCall)) : Option (Bool) :=
  (l_szPanCallS a0 1048576).bind (fun y1 => cond (decide (y1 < 0)) (some true) ((l_toPanCallS a0).bind (fun y2 => (s_HistOk y2).bind (fun y3 => (l_toPanCallS a0).bind (fun y4 => (i_HistOk y4).bind (fun y5 => cond (!(y5 == y3)) (some false) ((l_toPanCallS a0).bind (fun y6 => (l_eqPanCallS y4 y6).bind (fun y7 => cond (!y7) (some false) (some true))))))))))
theorem l_FnExactHistOk_c {t0_0 : Bool} {a0 : (List PanCall)} {r : Bool} (hF : l_FnExactHistOk a0 = some r) : Con Tryd.prog 5 [.val false [.u (ul PanCall.c 12 t0_0 a0)]] [] (vbool r) [] := by
  refine Con.of_Dz tabOk Tryd.func5 rfl rfl rfl ?_
  delta l_FnExactHistOk at hF
  refine Dz.seq ?_
  refine Dz.reg ?_
  refine Dz.seq ?_
  refine Dz.reg ?_
  refine Dz.seq ?_
  refine Dz.reg ?_
  refine bdE hF (fun y1 hy1 hF => ?_)
  refine callG [] (l_szPanCallS_c hy1) ⟨m_val rfl, m_val rfl, trivial⟩ trivial rfl ?_
  refine Dz.seq ?_
  refine Dz.seq ?_
  refine Dz.reg ?_
  refine Dz.ite rfl hF (fun _ hF => ?_) (fun _ hF => ?_)
  · refine Dz.seq ?_
    refine Dz.reg ?_
    refine Dz.ret ?_
    cases hF
    exact finG [] [] rfl rfl (m_val rfl) trivial rfl
  · refine Dz.skip ?_
    refine Dz.seq ?_
    refine Dz.reg ?_
    refine bdE hF (fun y2 hy2 hF => ?_)
    refine callG [] (l_toPanCallS_c hy2) ⟨m_val rfl, trivial⟩ trivial rfl ?_
    refine bdE hF (fun y3 hy3 hF => ?_)
    refine callL [] (s_HistOk_c hy3) ⟨⟨rfl, ⟨rfl, rfl, LeU.refl _⟩, trivial⟩, trivial⟩ trivial rfl ⟨⟨trivial, trivial⟩, trivial⟩ ?_
    refine Dz.seq ?_
    refine Dz.reg ?_
    refine bdE hF (fun y4 hy4 hF => ?_)
    refine callG [] (l_toPanCallS_c hy4) ⟨m_val rfl, trivial⟩ trivial rfl ?_
    refine Dz.seq ?_
    refine Dz.reg ?_
    refine bdE hF (fun y5 hy5 hF => ?_)
    refine callL [] (i_HistOk_c hy5) ⟨⟨rfl, ⟨rfl, rfl, LeU.refl _⟩, trivial⟩, trivial⟩ trivial rfl ⟨⟨trivial, trivial⟩, trivial⟩ ?_
    refine Dz.seq ?_
    refine Dz.seq ?_
    refine Dz.reg ?_
    refine Dz.ite rfl hF (fun _ hF => ?_) (fun _ hF => ?_)
    · refine Dz.seq ?_
      refine Dz.reg ?_
      refine Dz.ret ?_
      cases hF
      exact finG [] [] rfl rfl (m_val rfl) trivial rfl
    · refine Dz.skip ?_
      refine Dz.seq ?_
      refine Dz.seq ?_
      refine Dz.reg ?_
      refine bdE hF (fun y6 hy6 hF => ?_)
      refine callG [] (l_toPanCallS_c hy6) ⟨m_val rfl, trivial⟩ trivial rfl ?_
      refine bdE hF (fun y7 hy7 hF => ?_)
      refine callL [] (l_eqPanCallS_c hy7) ⟨⟨rfl, ⟨rfl, rfl, LeU.refl _⟩, trivial⟩, ⟨rfl, ⟨rfl, rfl, LeU.refl _⟩, trivial⟩, trivial⟩ trivial rfl ⟨⟨trivial, trivial⟩, trivial⟩ ?_
      refine Dz.ite rfl hF (fun _ hF => ?_) (fun _ hF => ?_)
      · refine Dz.seq ?_
        refine Dz.ent (x := ([], [])) (entG [] trivial trivial rfl) ?_
        refine Dz.reg ?_
        refine Dz.ret ?_
        cases hF
        exact finG [] [] rfl rfl (m_val rfl) trivial rfl
      · refine Dz.skip ?_
        refine Dz.seq ?_
        refine Dz.ent (x := ([], [])) (entG [] trivial trivial rfl) ?_
        refine Dz.reg ?_
        refine Dz.ret ?_
        cases hF
        exact finG [] [] rfl rfl (m_val rfl) trivial rfl
end Go.Proofs.PanK

/-! Printed by wip/tools/walk.py. -/
namespace Go.Proofs.PanK
open Go.Vs
set_option maxRecDepth 8000
def l_eqIntS (a0 : (List Int)) (a1 : (List Int)) : Option (Bool) :=
  cond (!decide (((a0.length : Nat) : Int) = ((a1.length : Nat) : Int))) (some false) (loopN (fun i3 (v6 : Unit) κ7 => ix a1 ((i3 : Nat) : Int) (fun x9 => cond (!decide ((a0.getD i3 default) = x9)) (some false) (κ7 ()))) (fun (v6 : Unit) => some true) a0.length 0 ())
theorem l_eqIntS_c {t0_0 t1_0 : Bool} {a0 : (List Int)} {a1 : (List Int)} {r : Bool} (hF : l_eqIntS a0 a1 = some r) : Con Tryd.prog 23 [.val false [.u (ul cInt 1 t0_0 a0)], .val false [.u (ul cInt 1 t1_0 a1)]] [] (vbool r) [] := by
  refine Con.of_Dz tabOk Tryd.func23 rfl rfl rfl ?_
  delta l_eqIntS at hF
  refine Dz.seq ?_
  refine Dz.reg ?_
  refine Dz.seq ?_
  refine Dz.seq ?_
  refine Dz.reg ?_
  intro hb1; replace hb1 : a0.length ≤ 140737488355328 := hb1
  intro hb2; replace hb2 : a1.length ≤ 140737488355328 := hb2
  refine Dz.ite rfl hF (fun _ hF => ?_) (fun _ hF => ?_)
  · refine Dz.seq ?_
    refine Dz.reg ?_
    refine Dz.ret ?_
    cases hF
    exact finG [] [] rfl rfl (m_val rfl) trivial rfl
  · refine Dz.skip ?_
    refine Dz.seq ?_
    refine Dz.seq ?_
    refine Dz.reg ?_
    refine Dz.blk ?_
    refine Dz.cnt hF (fun i3 v6 => ([(0, .val false [.u (ul cInt 1 t0_0 a0)]), (1, .val false [.u (ul cInt 1 t1_0 a1)]), (5, vint .i64 ((i3 : Nat) : Int))], [])) (entG [] ⟨m_val rfl, m_val rfl, m_val rfl, trivial⟩ trivial rfl) (fun v6 hF => ?_) (fun i3 v6 κ7 hi0i3 hi1i3 hF => ?_)
    · refine Dz.seq ?_
      refine Dz.seq ?_
      refine Dz.reg ?_
      intro hb10; replace hb10 : a0.length ≤ 140737488355328 := hb10
      refine Dz.ff (b := decide (((0 + a0.length : Nat) : Int) < ((a0.length : Nat) : Int))) rfl (decide_eq_false (by omega)) ?_
      refine Dz.exit ?_
      refine Dz.seq ?_
      refine Dz.reg ?_
      refine Dz.ret ?_
      cases hF
      exact finG [] [] rfl rfl (m_val rfl) trivial rfl
    · refine Dz.seq ?_
      refine Dz.seq ?_
      refine Dz.reg ?_
      intro hb8; replace hb8 : a0.length ≤ 140737488355328 := hb8
      refine Dz.tt (b := decide (((i3 : Nat) : Int) < ((a0.length : Nat) : Int))) rfl (decide_eq_true (by omega)) ?_
      refine Dz.skip ?_
      refine Dz.seq ?_
      refine Dz.blk ?_
      refine Dz.seq ?_
      refine Dz.drw 0 [⟨[18,21,22,23,24], [], 0, 0⟩, ⟨[17,21,22,23,24], [], 0, 0⟩, ⟨[21,22,23,24], [], 0, 0⟩, ⟨[21,22,23,24], [], 0, 0⟩, ⟨[17,18,19,20,22], [], 0, 0⟩, ⟨[17,18,19,20,21], [], 0, 0⟩, ⟨[17,18,19,20], [], 0, 0⟩, ⟨[17,18,19,20], [], 0, 0⟩, ⟨[], [], 0, 0⟩] ⟨by kernel_rfl, by kernel_rfl, rfl⟩ ?_
      refine vge (n := ((i3 : Nat) : Int)) (hi := (a0.length : Int)) (by omega) (by omega) ?_
      refine vix hF (fun _ _ hF => ?_)
      refine Dz.ite rfl hF (fun _ hF => ?_) (fun _ hF => ?_)
      · refine Dz.seq ?_
        refine Dz.reg ?_
        refine Dz.ret ?_
        cases hF
        exact finG [] [] rfl rfl (m_val rfl) trivial rfl
      · refine Dz.skip ?_
        refine Dz.reg ?_
        refine vsucc (by omega) ?_
        exact ⟨(), entG [] ⟨m_val rfl, m_val rfl, m_val rfl, trivial⟩ trivial rfl, hF⟩
end Go.Proofs.PanK

/-! Printed by wip/tools/walk.py. -/
namespace Go.Proofs.PanK
open Go.Vs
set_option maxRecDepth 8000
def l_markPanCallS (a0 : (List PanCall)) (a1 : Int) : Option (Int × List PanCall) :=
  loopF (fun (v64 : Int × Int × List PanCall) κ65 => cond (decide (v64.2.1 < ((v64.2.2.length : Nat) : Int))) (ix v64.2.2 v64.2.1 (fun _ => lt (v64.2.2.set v64.2.1.toNat ({ Client := v64.1, Call := (v64.2.2.getD v64.2.1.toNat default).Call, Op := (v64.2.2.getD v64.2.1.toNat default).Op, Disk := (v64.2.2.getD v64.2.1.toNat default).Disk, Block := (v64.2.2.getD v64.2.1.toNat default).Block, Epoch := (v64.2.2.getD v64.2.1.toNat default).Epoch, Data := (v64.2.2.getD v64.2.1.toNat default).Data, Begin := (v64.2.2.getD v64.2.1.toNat default).Begin, End := (v64.2.2.getD v64.2.1.toNat default).End, Over := (v64.2.2.getD v64.2.1.toNat default).Over, Code := (v64.2.2.getD v64.2.1.toNat default).Code, Value := (v64.2.2.getD v64.2.1.toNat default).Value } : PanCall)) (fun r67 => ix r67 v64.2.1 (fun _ => lt (r67.set v64.2.1.toNat ({ Client := (r67.getD v64.2.1.toNat default).Client, Call := (w64 (v64.1 + 1)), Op := (r67.getD v64.2.1.toNat default).Op, Disk := (r67.getD v64.2.1.toNat default).Disk, Block := (r67.getD v64.2.1.toNat default).Block, Epoch := (r67.getD v64.2.1.toNat default).Epoch, Data := (r67.getD v64.2.1.toNat default).Data, Begin := (r67.getD v64.2.1.toNat default).Begin, End := (r67.getD v64.2.1.toNat default).End, Over := (r67.getD v64.2.1.toNat default).Over, Code := (r67.getD v64.2.1.toNat default).Code, Value := (r67.getD v64.2.1.toNat default).Value } : PanCall)) (fun r68 => ix r68 v64.2.1 (fun _ => lt (r68.set v64.2.1.toNat ({ Client := (r68.getD v64.2.1.toNat default).Client, Call := (r68.getD v64.2.1.toNat default).Call, Op := (w64 ((w64 (v64.1 + 1)) + 1)), Disk := (r68.getD v64.2.1.toNat default).Disk, Block := (r68.getD v64.2.1.toNat default).Block, Epoch := (r68.getD v64.2.1.toNat default).Epoch, Data := (r68.getD v64.2.1.toNat default).Data, Begin := (r68.getD v64.2.1.toNat default).Begin, End := (r68.getD v64.2.1.toNat default).End, Over := (r68.getD v64.2.1.toNat default).Over, Code := (r68.getD v64.2.1.toNat default).Code, Value := (r68.getD v64.2.1.toNat default).Value } : PanCall)) (fun r69 => ix r69 v64.2.1 (fun _ => lt (r69.set v64.2.1.toNat ({ Client := (r69.getD v64.2.1.toNat default).Client, Call := (r69.getD v64.2.1.toNat default).Call, Op := (r69.getD v64.2.1.toNat default).Op, Disk := (w64 ((w64 ((w64 (v64.1 + 1)) + 1)) + 1)), Block := (r69.getD v64.2.1.toNat default).Block, Epoch := (r69.getD v64.2.1.toNat default).Epoch, Data := (r69.getD v64.2.1.toNat default).Data, Begin := (r69.getD v64.2.1.toNat default).Begin, End := (r69.getD v64.2.1.toNat default).End, Over := (r69.getD v64.2.1.toNat default).Over, Code := (r69.getD v64.2.1.toNat default).Code, Value := (r69.getD v64.2.1.toNat default).Value } : PanCall)) (fun r70 => ix r70 v64.2.1 (fun _ => lt (r70.set v64.2.1.toNat ({ Client := (r70.getD v64.2.1.toNat default).Client, Call := (r70.getD v64.2.1.toNat default).Call, Op := (r70.getD v64.2.1.toNat default).Op, Disk := (r70.getD v64.2.1.toNat default).Disk, Block := (w64 ((w64 ((w64 ((w64 (v64.1 + 1)) + 1)) + 1)) + 1)), Epoch := (r70.getD v64.2.1.toNat default).Epoch, Data := (r70.getD v64.2.1.toNat default).Data, Begin := (r70.getD v64.2.1.toNat default).Begin, End := (r70.getD v64.2.1.toNat default).End, Over := (r70.getD v64.2.1.toNat default).Over, Code := (r70.getD v64.2.1.toNat default).Code, Value := (r70.getD v64.2.1.toNat default).Value } : PanCall)) (fun r71 => ix r71 v64.2.1 (fun _ => lt (r71.set v64.2.1.toNat ({ Client := (r71.getD v64.2.1.toNat default).Client, Call := (r71.getD v64.2.1.toNat default).Call, Op := (r71.getD v64.2.1.toNat default).Op, Disk := (r71.getD v64.2.1.toNat default).Disk, Block := (r71.getD v64.2.1.toNat default).Block, Epoch := (w64 ((w64 ((w64 ((w64 ((w64 (v64.1 + 1)) + 1)) + 1)) + 1)) + 1)), Data := (r71.getD v64.2.1.toNat default).Data, Begin := (r71.getD v64.2.1.toNat default).Begin, End := (r71.getD v64.2.1.toNat default).End, Over := (r71.getD v64.2.1.toNat default).Over, Code := (r71.getD v64.2.1.toNat default).Code, Value := (r71.getD v64.2.1.toNat default).Value } : PanCall)) (fun r72 => ix r72 v64.2.1 (fun _ => lt (r72.set v64.2.1.toNat ({ Client := (r72.getD v64.2.1.toNat default).Client, Call := (r72.getD v64.2.1.toNat default).Call, Op := (r72.getD v64.2.1.toNat default).Op, Disk := (r72.getD v64.2.1.toNat default).Disk, Block := (r72.getD v64.2.1.toNat default).Block, Epoch := (r72.getD v64.2.1.toNat default).Epoch, Data := (w64 ((w64 ((w64 ((w64 ((w64 ((w64 (v64.1 + 1)) + 1)) + 1)) + 1)) + 1)) + 1)), Begin := (r72.getD v64.2.1.toNat default).Begin, End := (r72.getD v64.2.1.toNat default).End, Over := (r72.getD v64.2.1.toNat default).Over, Code := (r72.getD v64.2.1.toNat default).Code, Value := (r72.getD v64.2.1.toNat default).Value } : PanCall)) (fun r73 => ix r73 v64.2.1 (fun _ => lt (r73.set v64.2.1.toNat ({ Client := (r73.getD v64.2.1.toNat default).Client, Call := (r73.getD v64.2.1.toNat default).Call, Op := (r73.getD v64.2.1.toNat default).Op, Disk := (r73.getD v64.2.1.toNat default).Disk, Block := (r73.getD v64.2.1.toNat default).Block, Epoch := (r73.getD v64.2.1.toNat default).Epoch, Data := (r73.getD v64.2.1.toNat default).Data, Begin := (w64 ((w64 ((w64 ((w64 ((w64 ((w64 ((w64 (v64.1 + 1)) + 1)) + 1)) + 1)) + 1)) + 1)) + 1)), End := (r73.getD v64.2.1.toNat default).End, Over := (r73.getD v64.2.1.toNat default).Over, Code := (r73.getD v64.2.1.toNat default).Code, Value := (r73.getD v64.2.1.toNat default).Value } : PanCall)) (fun r74 => ix r74 v64.2.1 (fun _ => lt (r74.set v64.2.1.toNat ({ Client := (r74.getD v64.2.1.toNat default).Client, Call := (r74.getD v64.2.1.toNat default).Call, Op := (r74.getD v64.2.1.toNat default).Op, Disk := (r74.getD v64.2.1.toNat default).Disk, Block := (r74.getD v64.2.1.toNat default).Block, Epoch := (r74.getD v64.2.1.toNat default).Epoch, Data := (r74.getD v64.2.1.toNat default).Data, Begin := (r74.getD v64.2.1.toNat default).Begin, End := (w64 ((w64 ((w64 ((w64 ((w64 ((w64 ((w64 ((w64 (v64.1 + 1)) + 1)) + 1)) + 1)) + 1)) + 1)) + 1)) + 1)), Over := (r74.getD v64.2.1.toNat default).Over, Code := (r74.getD v64.2.1.toNat default).Code, Value := (r74.getD v64.2.1.toNat default).Value } : PanCall)) (fun r75 => ix r75 v64.2.1 (fun _ => lt (r75.set v64.2.1.toNat ({ Client := (r75.getD v64.2.1.toNat default).Client, Call := (r75.getD v64.2.1.toNat default).Call, Op := (r75.getD v64.2.1.toNat default).Op, Disk := (r75.getD v64.2.1.toNat default).Disk, Block := (r75.getD v64.2.1.toNat default).Block, Epoch := (r75.getD v64.2.1.toNat default).Epoch, Data := (r75.getD v64.2.1.toNat default).Data, Begin := (r75.getD v64.2.1.toNat default).Begin, End := (r75.getD v64.2.1.toNat default).End, Over := decide ((Int.tmod (w64 ((w64 ((w64 ((w64 ((w64 ((w64 ((w64 ((w64 ((w64 (v64.1 + 1)) + 1)) + 1)) + 1)) + 1)) + 1)) + 1)) + 1)) + 1)) 3) = 0), Code := (r75.getD v64.2.1.toNat default).Code, Value := (r75.getD v64.2.1.toNat default).Value } : PanCall)) (fun r76 => ix r76 v64.2.1 (fun _ => lt (r76.set v64.2.1.toNat ({ Client := (r76.getD v64.2.1.toNat default).Client, Call := (r76.getD v64.2.1.toNat default).Call, Op := (r76.getD v64.2.1.toNat default).Op, Disk := (r76.getD v64.2.1.toNat default).Disk, Block := (r76.getD v64.2.1.toNat default).Block, Epoch := (r76.getD v64.2.1.toNat default).Epoch, Data := (r76.getD v64.2.1.toNat default).Data, Begin := (r76.getD v64.2.1.toNat default).Begin, End := (r76.getD v64.2.1.toNat default).End, Over := (r76.getD v64.2.1.toNat default).Over, Code := (w64 ((w64 ((w64 ((w64 ((w64 ((w64 ((w64 ((w64 ((w64 ((w64 (v64.1 + 1)) + 1)) + 1)) + 1)) + 1)) + 1)) + 1)) + 1)) + 1)) + 1)), Value := (r76.getD v64.2.1.toNat default).Value } : PanCall)) (fun r77 => ix r77 v64.2.1 (fun _ => lt (r77.set v64.2.1.toNat ({ Client := (r77.getD v64.2.1.toNat default).Client, Call := (r77.getD v64.2.1.toNat default).Call, Op := (r77.getD v64.2.1.toNat default).Op, Disk := (r77.getD v64.2.1.toNat default).Disk, Block := (r77.getD v64.2.1.toNat default).Block, Epoch := (r77.getD v64.2.1.toNat default).Epoch, Data := (r77.getD v64.2.1.toNat default).Data, Begin := (r77.getD v64.2.1.toNat default).Begin, End := (r77.getD v64.2.1.toNat default).End, Over := (r77.getD v64.2.1.toNat default).Over, Code := (r77.getD v64.2.1.toNat default).Code, Value := (w64 ((w64 ((w64 ((w64 ((w64 ((w64 ((w64 ((w64 ((w64 ((w64 ((w64 (v64.1 + 1)) + 1)) + 1)) + 1)) + 1)) + 1)) + 1)) + 1)) + 1)) + 1)) + 1)) } : PanCall)) (fun r78 => κ65 ((w64 ((w64 ((w64 ((w64 ((w64 ((w64 ((w64 ((w64 ((w64 ((w64 ((w64 ((w64 (v64.1 + 1)) + 1)) + 1)) + 1)) + 1)) + 1)) + 1)) + 1)) + 1)) + 1)) + 1)) + 1)), (w64 (v64.2.1 + 1)), r78)))))))))))))))))))))))))) (some (v64.1, v64.2.2))) ((((a0.length : Nat) : Int)).toNat + 1) (a1, 0, a0)
theorem l_markPanCallS_c {a0 : (List PanCall)} {a1 : Int} {r : Int × List PanCall} (hF : l_markPanCallS a0 a1 = some r) : Con Tryd.prog 24 [.val false [.row 0], vint .i64 a1] [.row 78 a0.length 12 (gl PanCall.c a0)] (vint .i64 r.1) [.row 78 r.2.length 12 (gl PanCall.c r.2)] := by
  refine Con.of_Dz tabOk Tryd.func24 rfl rfl rfl ?_
  delta l_markPanCallS at hF
  refine Dz.seq ?_
  refine Dz.reg ?_
  refine Dz.seq ?_
  refine Dz.seq ?_
  refine Dz.reg ?_
  refine Dz.blk ?_
  refine Dz.whl hF (fun v64 => ([(0, .val false [.row 0]), (1, vint .i64 v64.1), (5, vint .i64 v64.2.1)], [.row 78 v64.2.2.length 12 (gl PanCall.c v64.2.2)])) (entG [0] ⟨⟨rfl, rfl, trivial⟩, m_val rfl, m_val rfl, trivial⟩ ⟨⟨rfl, o_row⟩, trivial⟩ rfl) (fun v64 κ65 hF => ?_)
  · refine Dz.seq ?_
    refine Dz.seq ?_
    refine Dz.reg ?_
    intro hb66; replace hb66 : v64.2.2.length ≤ 140737488355328 := hb66
    refine Dz.ite rfl hF (fun _ hF => ?_) (fun _ hF => ?_)
    · refine Dz.skip ?_
      refine Dz.seq ?_
      refine Dz.blk ?_
      refine Dz.seq ?_
      refine Dz.reg ?_
      refine vix hF (fun _ _ hF => ?_)
      refine ltX hF (fun r67 hr67 hF => ?_)
      have hlr67 : r67.length = v64.2.2.length := by rw [hr67]; simp <;> omega
      refine Dz.row 0 r67.length (gl PanCall.c r67) rfl (by rw [hr67]; simp <;> omega) (by rw [hr67]; exact (EqG.set' rfl (EqG.refl _ _ _) ⟨LeU.refl _, LeU.refl _, LeU.refl _, LeU.refl _, LeU.refl _, LeU.refl _, LeU.refl _, LeU.refl _, LeU.refl _, LeU.refl _, LeU.refl _, LeU.refl _, trivial⟩)) ?_
      refine Dz.seq ?_
      refine Dz.reg ?_
      refine vw64 ?_
      refine Dz.seq ?_
      refine Dz.reg ?_
      refine vix hF (fun _ _ hF => ?_)
      refine ltX hF (fun r68 hr68 hF => ?_)
      have hlr68 : r68.length = r67.length := by rw [hr68]; simp <;> omega
      refine Dz.row 0 r68.length (gl PanCall.c r68) rfl (by rw [hr68]; simp <;> omega) (by rw [hr68]; exact (EqG.set' rfl (EqG.refl _ _ _) ⟨LeU.refl _, LeU.refl _, LeU.refl _, LeU.refl _, LeU.refl _, LeU.refl _, LeU.refl _, LeU.refl _, LeU.refl _, LeU.refl _, LeU.refl _, LeU.refl _, trivial⟩)) ?_
      refine Dz.seq ?_
      refine Dz.reg ?_
      refine vw64 ?_
      refine Dz.seq ?_
      refine Dz.reg ?_
      refine vix hF (fun _ _ hF => ?_)
      refine ltX hF (fun r69 hr69 hF => ?_)
      have hlr69 : r69.length = r68.length := by rw [hr69]; simp <;> omega
      refine Dz.row 0 r69.length (gl PanCall.c r69) rfl (by rw [hr69]; simp <;> omega) (by rw [hr69]; exact (EqG.set' rfl (EqG.refl _ _ _) ⟨LeU.refl _, LeU.refl _, LeU.refl _, LeU.refl _, LeU.refl _, LeU.refl _, LeU.refl _, LeU.refl _, LeU.refl _, LeU.refl _, LeU.refl _, LeU.refl _, trivial⟩)) ?_
      refine Dz.seq ?_
      refine Dz.reg ?_
      refine vw64 ?_
      refine Dz.seq ?_
      refine Dz.ent (x := ([(0, .val false [.row 0]), (1, vint .i64 (w64 ((w64 ((w64 (v64.1 + 1)) + 1)) + 1))), (5, vint .i64 v64.2.1)], [.row 78 r69.length 12 (gl PanCall.c r69)])) (entG [0] ⟨⟨rfl, rfl, trivial⟩, m_val rfl, m_val rfl, trivial⟩ ⟨⟨rfl, o_row⟩, trivial⟩ rfl) ?_
      refine Dz.reg ?_
      refine vix hF (fun _ _ hF => ?_)
      refine ltX hF (fun r70 hr70 hF => ?_)
      have hlr70 : r70.length = r69.length := by rw [hr70]; simp <;> omega
      refine Dz.row 0 r70.length (gl PanCall.c r70) rfl (by rw [hr70]; simp <;> omega) (by rw [hr70]; exact (EqG.set' rfl (EqG.refl _ _ _) ⟨LeU.refl _, LeU.refl _, LeU.refl _, LeU.refl _, LeU.refl _, LeU.refl _, LeU.refl _, LeU.refl _, LeU.refl _, LeU.refl _, LeU.refl _, LeU.refl _, trivial⟩)) ?_
      refine Dz.seq ?_
      refine Dz.reg ?_
      refine vw64 ?_
      refine Dz.seq ?_
      refine Dz.reg ?_
      refine vix hF (fun _ _ hF => ?_)
      refine ltX hF (fun r71 hr71 hF => ?_)
      have hlr71 : r71.length = r70.length := by rw [hr71]; simp <;> omega
      refine Dz.row 0 r71.length (gl PanCall.c r71) rfl (by rw [hr71]; simp <;> omega) (by rw [hr71]; exact (EqG.set' rfl (EqG.refl _ _ _) ⟨LeU.refl _, LeU.refl _, LeU.refl _, LeU.refl _, LeU.refl _, LeU.refl _, LeU.refl _, LeU.refl _, LeU.refl _, LeU.refl _, LeU.refl _, LeU.refl _, trivial⟩)) ?_
      refine Dz.seq ?_
      refine Dz.reg ?_
      refine vw64 ?_
      refine Dz.seq ?_
      refine Dz.reg ?_
      refine vix hF (fun _ _ hF => ?_)
      refine ltX hF (fun r72 hr72 hF => ?_)
      have hlr72 : r72.length = r71.length := by rw [hr72]; simp <;> omega
      refine Dz.row 0 r72.length (gl PanCall.c r72) rfl (by rw [hr72]; simp <;> omega) (by rw [hr72]; exact (EqG.set' rfl (EqG.refl _ _ _) ⟨LeU.refl _, LeU.refl _, LeU.refl _, LeU.refl _, LeU.refl _, LeU.refl _, LeU.refl _, LeU.refl _, LeU.refl _, LeU.refl _, LeU.refl _, LeU.refl _, trivial⟩)) ?_
      refine Dz.seq ?_
      refine Dz.reg ?_
      refine vw64 ?_
      refine Dz.seq ?_
      refine Dz.reg ?_
      refine vix hF (fun _ _ hF => ?_)
      refine ltX hF (fun r73 hr73 hF => ?_)
      have hlr73 : r73.length = r72.length := by rw [hr73]; simp <;> omega
      refine Dz.row 0 r73.length (gl PanCall.c r73) rfl (by rw [hr73]; simp <;> omega) (by rw [hr73]; exact (EqG.set' rfl (EqG.refl _ _ _) ⟨LeU.refl _, LeU.refl _, LeU.refl _, LeU.refl _, LeU.refl _, LeU.refl _, LeU.refl _, LeU.refl _, LeU.refl _, LeU.refl _, LeU.refl _, LeU.refl _, trivial⟩)) ?_
      refine Dz.seq ?_
      refine Dz.ent (x := ([(0, .val false [.row 0]), (1, vint .i64 (w64 ((w64 ((w64 ((w64 ((w64 ((w64 (v64.1 + 1)) + 1)) + 1)) + 1)) + 1)) + 1))), (5, vint .i64 v64.2.1)], [.row 78 r73.length 12 (gl PanCall.c r73)])) (entG [0] ⟨⟨rfl, rfl, trivial⟩, m_val rfl, m_val rfl, trivial⟩ ⟨⟨rfl, o_row⟩, trivial⟩ rfl) ?_
      refine Dz.reg ?_
      refine vw64 ?_
      refine Dz.seq ?_
      refine Dz.reg ?_
      refine vix hF (fun _ _ hF => ?_)
      refine ltX hF (fun r74 hr74 hF => ?_)
      have hlr74 : r74.length = r73.length := by rw [hr74]; simp <;> omega
      refine Dz.row 0 r74.length (gl PanCall.c r74) rfl (by rw [hr74]; simp <;> omega) (by rw [hr74]; exact (EqG.set' rfl (EqG.refl _ _ _) ⟨LeU.refl _, LeU.refl _, LeU.refl _, LeU.refl _, LeU.refl _, LeU.refl _, LeU.refl _, LeU.refl _, LeU.refl _, LeU.refl _, LeU.refl _, LeU.refl _, trivial⟩)) ?_
      refine Dz.seq ?_
      refine Dz.reg ?_
      refine vw64 ?_
      refine Dz.seq ?_
      refine Dz.reg ?_
      refine vix hF (fun _ _ hF => ?_)
      refine ltX hF (fun r75 hr75 hF => ?_)
      have hlr75 : r75.length = r74.length := by rw [hr75]; simp <;> omega
      refine Dz.row 0 r75.length (gl PanCall.c r75) rfl (by rw [hr75]; simp <;> omega) (by rw [hr75]; exact (EqG.set' rfl (EqG.refl _ _ _) ⟨LeU.refl _, LeU.refl _, LeU.refl _, LeU.refl _, LeU.refl _, LeU.refl _, LeU.refl _, LeU.refl _, LeU.refl _, LeU.refl _, LeU.refl _, LeU.refl _, trivial⟩)) ?_
      refine Dz.seq ?_
      refine Dz.reg ?_
      refine vw64 ?_
      refine Dz.seq ?_
      refine Dz.reg ?_
      refine ⟨by decide, _, rfl, ?_⟩
      refine vix hF (fun _ _ hF => ?_)
      refine ltX hF (fun r76 hr76 hF => ?_)
      have hlr76 : r76.length = r75.length := by rw [hr76]; simp <;> omega
      refine Dz.row 0 r76.length (gl PanCall.c r76) rfl (by rw [hr76]; simp <;> omega) (by rw [hr76]; exact (EqG.set' rfl (EqG.refl _ _ _) ⟨LeU.refl _, LeU.refl _, LeU.refl _, LeU.refl _, LeU.refl _, LeU.refl _, LeU.refl _, LeU.refl _, LeU.refl _, LeU.refl _, LeU.refl _, LeU.refl _, trivial⟩)) ?_
      refine Dz.seq ?_
      refine Dz.reg ?_
      refine vw64 ?_
      refine Dz.seq ?_
      refine Dz.ent (x := ([(0, .val false [.row 0]), (1, vint .i64 (w64 ((w64 ((w64 ((w64 ((w64 ((w64 ((w64 ((w64 ((w64 ((w64 (v64.1 + 1)) + 1)) + 1)) + 1)) + 1)) + 1)) + 1)) + 1)) + 1)) + 1))), (5, vint .i64 v64.2.1)], [.row 78 r76.length 12 (gl PanCall.c r76)])) (entG [0] ⟨⟨rfl, rfl, trivial⟩, m_val rfl, m_val rfl, trivial⟩ ⟨⟨rfl, o_row⟩, trivial⟩ rfl) ?_
      refine Dz.reg ?_
      refine vix hF (fun _ _ hF => ?_)
      refine ltX hF (fun r77 hr77 hF => ?_)
      have hlr77 : r77.length = r76.length := by rw [hr77]; simp <;> omega
      refine Dz.row 0 r77.length (gl PanCall.c r77) rfl (by rw [hr77]; simp <;> omega) (by rw [hr77]; exact (EqG.set' rfl (EqG.refl _ _ _) ⟨LeU.refl _, LeU.refl _, LeU.refl _, LeU.refl _, LeU.refl _, LeU.refl _, LeU.refl _, LeU.refl _, LeU.refl _, LeU.refl _, LeU.refl _, LeU.refl _, trivial⟩)) ?_
      refine Dz.seq ?_
      refine Dz.reg ?_
      refine vw64 ?_
      refine Dz.seq ?_
      refine Dz.reg ?_
      refine vix hF (fun _ _ hF => ?_)
      refine ltX hF (fun r78 hr78 hF => ?_)
      have hlr78 : r78.length = r77.length := by rw [hr78]; simp <;> omega
      refine Dz.row 0 r78.length (gl PanCall.c r78) rfl (by rw [hr78]; simp <;> omega) (by rw [hr78]; exact (EqG.set' rfl (EqG.refl _ _ _) ⟨LeU.refl _, LeU.refl _, LeU.refl _, LeU.refl _, LeU.refl _, LeU.refl _, LeU.refl _, LeU.refl _, LeU.refl _, LeU.refl _, LeU.refl _, LeU.refl _, trivial⟩)) ?_
      refine Dz.reg ?_
      refine vw64 ?_
      refine Dz.reg ?_
      refine vw64 ?_
      exact ⟨((w64 ((w64 ((w64 ((w64 ((w64 ((w64 ((w64 ((w64 ((w64 ((w64 ((w64 ((w64 (v64.1 + 1)) + 1)) + 1)) + 1)) + 1)) + 1)) + 1)) + 1)) + 1)) + 1)) + 1)) + 1)), (w64 (v64.2.1 + 1)), r78), entG [0] ⟨⟨rfl, rfl, trivial⟩, m_val rfl, m_val rfl, trivial⟩ ⟨⟨rfl, o_row⟩, trivial⟩ rfl, hF⟩
    · refine Dz.exit ?_
      refine Dz.seq ?_
      refine Dz.reg ?_
      refine Dz.ret ?_
      cases hF
      exact finG [] [0] rfl rfl (m_val rfl) ⟨⟨rfl, o_row⟩, trivial⟩ rfl
end Go.Proofs.PanK

/-! Printed by wip/tools/walk.py. -/
namespace Go.Proofs.PanK
open Go.Vs
set_option maxRecDepth 8000
def l_markIntS (a0 : (List Int)) (a1 : Int) : Option (Int × List Int) :=
  loopF (fun (v20 : Int × Int × List Int) κ21 => cond (decide (v20.2.1 < ((v20.2.2.length : Nat) : Int))) (ix v20.2.2 v20.2.1 (fun _ => lt (v20.2.2.set v20.2.1.toNat v20.1) (fun r23 => κ21 ((w64 (v20.1 + 1)), (w64 (v20.2.1 + 1)), r23)))) (some (v20.1, v20.2.2))) ((((a0.length : Nat) : Int)).toNat + 1) (a1, 0, a0)
theorem l_markIntS_c {a0 : (List Int)} {a1 : Int} {r : Int × List Int} (hF : l_markIntS a0 a1 = some r) : Con Tryd.prog 25 [.val false [.row 0], vint .i64 a1] [.row 3 a0.length 1 (gl cInt a0)] (vint .i64 r.1) [.row 3 r.2.length 1 (gl cInt r.2)] := by
  refine Con.of_Dz tabOk Tryd.func25 rfl rfl rfl ?_
  delta l_markIntS at hF
  refine Dz.seq ?_
  refine Dz.reg ?_
  refine Dz.seq ?_
  refine Dz.seq ?_
  refine Dz.reg ?_
  refine Dz.blk ?_
  refine Dz.whl hF (fun v20 => ([(0, .val false [.row 0]), (1, vint .i64 v20.1), (5, vint .i64 v20.2.1)], [.row 3 v20.2.2.length 1 (gl cInt v20.2.2)])) (entG [0] ⟨⟨rfl, rfl, trivial⟩, m_val rfl, m_val rfl, trivial⟩ ⟨⟨rfl, o_row⟩, trivial⟩ rfl) (fun v20 κ21 hF => ?_)
  · refine Dz.seq ?_
    refine Dz.seq ?_
    refine Dz.reg ?_
    intro hb22; replace hb22 : v20.2.2.length ≤ 140737488355328 := hb22
    refine Dz.ite rfl hF (fun _ hF => ?_) (fun _ hF => ?_)
    · refine Dz.skip ?_
      refine Dz.seq ?_
      refine Dz.blk ?_
      refine Dz.seq ?_
      refine Dz.reg ?_
      refine vix hF (fun _ _ hF => ?_)
      refine ltX hF (fun r23 hr23 hF => ?_)
      have hlr23 : r23.length = v20.2.2.length := by rw [hr23]; simp <;> omega
      refine Dz.row 0 r23.length (gl cInt r23) rfl (by rw [hr23]; simp <;> omega) (by rw [hr23]; exact (EqG.set' rfl (EqG.refl _ _ _) ⟨LeU.refl _, trivial⟩)) ?_
      refine Dz.reg ?_
      refine vw64 ?_
      refine Dz.reg ?_
      refine vw64 ?_
      exact ⟨((w64 (v20.1 + 1)), (w64 (v20.2.1 + 1)), r23), entG [0] ⟨⟨rfl, rfl, trivial⟩, m_val rfl, m_val rfl, trivial⟩ ⟨⟨rfl, o_row⟩, trivial⟩ rfl, hF⟩
    · refine Dz.exit ?_
      refine Dz.seq ?_
      refine Dz.reg ?_
      refine Dz.ret ?_
      cases hF
      exact finG [] [0] rfl rfl (m_val rfl) ⟨⟨rfl, o_row⟩, trivial⟩ rfl
end Go.Proofs.PanK

/-! Printed by wip/tools/walk.py. -/
namespace Go.Proofs.PanK
open Go.Vs
set_option maxRecDepth 8000
def l_heldIntS (a0 : (List Int)) (a1 : Int) : Option (Int) :=
  loopN (fun i1 (v6 : Int) κ7 => cond (!decide ((a0.getD i1 default) = v6)) (some (-1)) (κ7 (w64 (v6 + 1)))) (fun (v6 : Int) => some v6) a0.length 0 a1
theorem l_heldIntS_c {t0_0 : Bool} {a0 : (List Int)} {a1 : Int} {r : Int} (hF : l_heldIntS a0 a1 = some r) : Con Tryd.prog 26 [.val false [.u (ul cInt 1 t0_0 a0)], vint .i64 a1] [] (vint .i64 r) [] := by
  refine Con.of_Dz tabOk Tryd.func26 rfl rfl rfl ?_
  delta l_heldIntS at hF
  refine Dz.seq ?_
  refine Dz.reg ?_
  refine Dz.seq ?_
  refine Dz.seq ?_
  refine Dz.reg ?_
  refine Dz.blk ?_
  refine Dz.cnt hF (fun i1 v6 => ([(0, .val false [.u (ul cInt 1 t0_0 a0)]), (1, vint .i64 v6), (5, vint .i64 ((i1 : Nat) : Int))], [])) (entG [] ⟨m_val rfl, m_val rfl, m_val rfl, trivial⟩ trivial rfl) (fun v6 hF => ?_) (fun i1 v6 κ7 hi0i1 hi1i1 hF => ?_)
  · refine Dz.seq ?_
    refine Dz.seq ?_
    refine Dz.reg ?_
    intro hb9; replace hb9 : a0.length ≤ 140737488355328 := hb9
    refine Dz.ff (b := decide (((0 + a0.length : Nat) : Int) < ((a0.length : Nat) : Int))) rfl (decide_eq_false (by omega)) ?_
    refine Dz.exit ?_
    refine Dz.seq ?_
    refine Dz.reg ?_
    refine Dz.ret ?_
    cases hF
    exact finG [] [] rfl rfl (m_val rfl) trivial rfl
  · refine Dz.seq ?_
    refine Dz.seq ?_
    refine Dz.reg ?_
    intro hb8; replace hb8 : a0.length ≤ 140737488355328 := hb8
    refine Dz.tt (b := decide (((i1 : Nat) : Int) < ((a0.length : Nat) : Int))) rfl (decide_eq_true (by omega)) ?_
    refine Dz.skip ?_
    refine Dz.seq ?_
    refine Dz.blk ?_
    refine Dz.seq ?_
    refine Dz.seq ?_
    refine Dz.reg ?_
    refine vge (n := ((i1 : Nat) : Int)) (hi := (a0.length : Int)) (by omega) (by omega) ?_
    refine Dz.ite rfl hF (fun _ hF => ?_) (fun _ hF => ?_)
    · refine Dz.seq ?_
      refine Dz.reg ?_
      refine Dz.ret ?_
      cases hF
      exact finG [] [] rfl rfl (m_val rfl) trivial rfl
    · refine Dz.skip ?_
      refine Dz.reg ?_
      refine vw64 ?_
      refine Dz.reg ?_
      refine vsucc (by omega) ?_
      exact ⟨(w64 (v6 + 1)), entG [] ⟨m_val rfl, m_val rfl, m_val rfl, trivial⟩ trivial rfl, hF⟩
end Go.Proofs.PanK

/-! Printed by wip/tools/walk.py. -/
namespace Go.Proofs.PanK
open Go.Vs
set_option maxRecDepth 8000
def l_FnExactHistOrder (a0 : (List PanCall)) : Option (Bool) :=
  (l_szPanCallS a0 1048576).bind (fun y1 => cond (decide (y1 < 0)) (some true) ((l_toPanCallS a0).bind (fun y2 => (s_HistOrder y2).bind (fun y3 => (l_toPanCallS a0).bind (fun y4 => (i_HistOrder y4).bind (fun y5 => (l_eqIntS y5.1 y3.1).bind (fun y6 => cond (!y6) (some false) (cond (!(y5.2 == y3.2)) (some false) ((l_toPanCallS a0).bind (fun y7 => (l_eqPanCallS y4 y7).bind (fun y8 => cond (!y8) (some false) ((l_markPanCallS y4 1).bind (fun y9 => cond (decide (y9.1 < 0)) (some false) ((l_eqIntS y5.1 y3.1).bind (fun y10 => cond (!y10) (some false) (cond (!(y5.2 == y3.2)) (some false) ((l_markIntS y5.1 1).bind (fun y11 => (l_heldIntS y11.2 1).bind (fun y12 => cond (decide (y12 < 0)) (some false) (cond (!decide (y12 = y11.1)) (some false) ((l_toPanCallS a0).bind (fun y13 => (i_HistOrder y13).bind (fun y14 => (l_eqIntS y14.1 y3.1).bind (fun y15 => cond (!y15) (some false) (cond (!(y14.2 == y3.2)) (some false) ((l_heldIntS y11.2 1).bind (fun y16 => cond (decide (y16 < 0)) (some false) (cond (!decide (y16 = y11.1)) (some false) (some true)))))))))))))))))))))))))))))
theorem l_FnExactHistOrder_c {t0_0 : Bool} {a0 : (List PanCall)} {r : Bool} (hF : l_FnExactHistOrder a0 = some r) : Con Tryd.prog 6 [.val false [.u (ul PanCall.c 12 t0_0 a0)]] [] (vbool r) [] := by
  refine Con.of_Dz tabOk Tryd.func6 rfl rfl rfl ?_
  delta l_FnExactHistOrder at hF
  refine Dz.seq ?_
  refine Dz.reg ?_
  refine Dz.seq ?_
  refine Dz.reg ?_
  refine Dz.seq ?_
  refine Dz.reg ?_
  refine bdE hF (fun y1 hy1 hF => ?_)
  refine callG [] (l_szPanCallS_c hy1) ⟨m_val rfl, m_val rfl, trivial⟩ trivial rfl ?_
  refine Dz.seq ?_
  refine Dz.seq ?_
  refine Dz.reg ?_
  refine Dz.ite rfl hF (fun _ hF => ?_) (fun _ hF => ?_)
  · refine Dz.seq ?_
    refine Dz.reg ?_
    refine Dz.ret ?_
    cases hF
    exact finG [] [] rfl rfl (m_val rfl) trivial rfl
  · refine Dz.skip ?_
    refine Dz.seq ?_
    refine Dz.reg ?_
    refine bdE hF (fun y2 hy2 hF => ?_)
    refine callG [] (l_toPanCallS_c hy2) ⟨m_val rfl, trivial⟩ trivial rfl ?_
    refine bdE hF (fun y3 hy3 hF => ?_)
    refine callL [] (s_HistOrder_c hy3) ⟨⟨rfl, ⟨rfl, rfl, LeU.refl _⟩, trivial⟩, trivial⟩ trivial rfl ⟨⟨⟨ntm_ul, trivial⟩, ⟨trivial, trivial⟩, trivial⟩, trivial⟩ ?_
    refine Dz.seq ?_
    refine Dz.reg ?_
    refine bdE hF (fun y4 hy4 hF => ?_)
    refine callG [] (l_toPanCallS_c hy4) ⟨m_val rfl, trivial⟩ trivial rfl ?_
    refine Dz.seq ?_
    refine Dz.reg ?_
    refine bdE hF (fun y5 hy5 hF => ?_)
    refine callL [] (i_HistOrder_c hy5) ⟨⟨rfl, ⟨rfl, rfl, LeU.refl _⟩, trivial⟩, trivial⟩ trivial rfl ⟨⟨⟨trivial, trivial⟩, ⟨trivial, trivial⟩, trivial⟩, ⟨ntm_gl, trivial⟩⟩ ?_
    refine Dz.seq ?_
    refine Dz.seq ?_
    refine Dz.ent (x := ([(0, .val false [.u (ul PanCall.c 12 t0_0 a0)]), (4, .val false [.u (ul cInt 1 false y3.1)]), (5, vbool y3.2), (6, .val false [.row 0]), (7, .val false [.row 1]), (8, vbool y5.2)], [.row 78 y4.length 12 (gl PanCall.c y4), .row 3 y5.1.length 1 (gl cInt y5.1)])) (entG [1, 2] ⟨m_val rfl, m_val rfl, m_val rfl, ⟨rfl, rfl, trivial⟩, ⟨rfl, rfl, trivial⟩, m_val rfl, trivial⟩ ⟨⟨rfl, o_row⟩, ⟨rfl, o_row⟩, trivial⟩ rfl) ?_
    refine Dz.reg ?_
    refine bdE hF (fun y6 hy6 hF => ?_)
    refine callL [] (l_eqIntS_c hy6) ⟨⟨rfl, ⟨rfl, rfl, LeU.refl _⟩, trivial⟩, m_val rfl, trivial⟩ trivial rfl ⟨⟨trivial, trivial⟩, trivial⟩ ?_
    refine vif hF (fun _ hF => ?_) (fun _ hF => ?_)
    · refine Dz.tt (b := true) rfl rfl ?_
      refine Dz.seq ?_
      refine Dz.reg ?_
      refine Dz.ret ?_
      cases hF
      exact finG [] [] rfl rfl (m_val rfl) trivial rfl
    · refine Dz.ite rfl hF (fun _ hF => ?_) (fun _ hF => ?_)
      · refine Dz.seq ?_
        refine Dz.reg ?_
        refine Dz.ret ?_
        cases hF
        exact finG [] [] rfl rfl (m_val rfl) trivial rfl
      · refine Dz.skip ?_
        refine Dz.seq ?_
        refine Dz.seq ?_
        refine Dz.reg ?_
        refine bdE hF (fun y7 hy7 hF => ?_)
        refine callG [] (l_toPanCallS_c hy7) ⟨m_val rfl, trivial⟩ trivial rfl ?_
        refine bdE hF (fun y8 hy8 hF => ?_)
        refine callL [] (l_eqPanCallS_c hy8) ⟨⟨rfl, ⟨rfl, rfl, LeU.refl _⟩, trivial⟩, ⟨rfl, ⟨rfl, rfl, LeU.refl _⟩, trivial⟩, trivial⟩ trivial rfl ⟨⟨trivial, trivial⟩, trivial⟩ ?_
        refine Dz.ite rfl hF (fun _ hF => ?_) (fun _ hF => ?_)
        · refine Dz.seq ?_
          refine Dz.reg ?_
          refine Dz.ret ?_
          cases hF
          exact finG [] [] rfl rfl (m_val rfl) trivial rfl
        · refine Dz.skip ?_
          refine Dz.seq ?_
          refine Dz.reg ?_
          refine Dz.seq ?_
          refine Dz.reg ?_
          refine bdE hF (fun y9 hy9 hF => ?_)
          refine callG [0] (l_markPanCallS_c hy9) ⟨⟨rfl, rfl, trivial⟩, m_val rfl, trivial⟩ ⟨⟨rfl, o_row⟩, trivial⟩ rfl ?_
          refine Dz.seq ?_
          refine Dz.seq ?_
          refine Dz.reg ?_
          refine vif hF (fun _ hF => ?_) (fun _ hF => ?_)
          · refine Dz.tt (b := true) rfl rfl ?_
            refine Dz.seq ?_
            refine Dz.reg ?_
            refine Dz.ret ?_
            cases hF
            exact finG [] [] rfl rfl (m_val rfl) trivial rfl
          · refine bdE hF (fun y10 hy10 hF => ?_)
            refine callL [] (l_eqIntS_c hy10) ⟨⟨rfl, ⟨rfl, rfl, LeU.refl _⟩, trivial⟩, m_val rfl, trivial⟩ trivial rfl ⟨⟨trivial, trivial⟩, trivial⟩ ?_
            refine vif hF (fun _ hF => ?_) (fun _ hF => ?_)
            · refine Dz.tt (b := true) rfl rfl ?_
              refine Dz.seq ?_
              refine Dz.reg ?_
              refine Dz.ret ?_
              cases hF
              exact finG [] [] rfl rfl (m_val rfl) trivial rfl
            · refine Dz.ent (x := ([(0, .val false [.u (ul PanCall.c 12 t0_0 a0)]), (4, .val false [.u (ul cInt 1 false y3.1)]), (5, vbool y3.2), (7, .val false [.row 0]), (61, vbool (!(y5.2 == y3.2)))], [.row 3 y5.1.length 1 (gl cInt y5.1)])) (entG [1] ⟨m_val rfl, m_val rfl, m_val rfl, ⟨rfl, rfl, trivial⟩, m_val rfl, trivial⟩ ⟨⟨rfl, o_row⟩, trivial⟩ rfl) ?_
              refine Dz.ite rfl hF (fun _ hF => ?_) (fun _ hF => ?_)
              · refine Dz.seq ?_
                refine Dz.reg ?_
                refine Dz.ret ?_
                cases hF
                exact finG [] [] rfl rfl (m_val rfl) trivial rfl
              · refine Dz.skip ?_
                refine Dz.seq ?_
                refine Dz.reg ?_
                refine Dz.seq ?_
                refine Dz.reg ?_
                refine bdE hF (fun y11 hy11 hF => ?_)
                refine callG [0] (l_markIntS_c hy11) ⟨⟨rfl, rfl, trivial⟩, m_val rfl, trivial⟩ ⟨⟨rfl, o_row⟩, trivial⟩ rfl ?_
                refine Dz.seq ?_
                refine Dz.reg ?_
                refine Dz.seq ?_
                refine Dz.reg ?_
                refine bdE hF (fun y12 hy12 hF => ?_)
                refine callL [] (l_heldIntS_c hy12) ⟨⟨rfl, ⟨rfl, rfl, LeU.refl _⟩, trivial⟩, m_val rfl, trivial⟩ trivial rfl ⟨⟨trivial, trivial⟩, trivial⟩ ?_
                refine Dz.seq ?_
                refine Dz.seq ?_
                refine Dz.reg ?_
                refine Dz.ite rfl hF (fun _ hF => ?_) (fun _ hF => ?_)
                · refine Dz.seq ?_
                  refine Dz.reg ?_
                  refine Dz.ret ?_
                  cases hF
                  exact finG [] [] rfl rfl (m_val rfl) trivial rfl
                · refine Dz.skip ?_
                  refine Dz.seq ?_
                  refine Dz.seq ?_
                  refine Dz.reg ?_
                  refine Dz.ite rfl hF (fun _ hF => ?_) (fun _ hF => ?_)
                  · refine Dz.seq ?_
                    refine Dz.reg ?_
                    refine Dz.ret ?_
                    cases hF
                    exact finG [] [] rfl rfl (m_val rfl) trivial rfl
                  · refine Dz.skip ?_
                    refine Dz.seq ?_
                    refine Dz.reg ?_
                    refine bdE hF (fun y13 hy13 hF => ?_)
                    refine callG [] (l_toPanCallS_c hy13) ⟨m_val rfl, trivial⟩ trivial rfl ?_
                    refine bdE hF (fun y14 hy14 hF => ?_)
                    refine callL [] (i_HistOrder_c hy14) ⟨⟨rfl, ⟨rfl, rfl, LeU.refl _⟩, trivial⟩, trivial⟩ trivial rfl ⟨⟨⟨trivial, trivial⟩, ⟨trivial, trivial⟩, trivial⟩, ⟨ntm_gl, trivial⟩⟩ ?_
                    refine Dz.seq ?_
                    refine Dz.seq ?_
                    refine Dz.reg ?_
                    refine bdE hF (fun y15 hy15 hF => ?_)
                    refine callL [] (l_eqIntS_c hy15) ⟨⟨rfl, ⟨rfl, rfl, LeU.refl _⟩, trivial⟩, m_val rfl, trivial⟩ trivial rfl ⟨⟨trivial, trivial⟩, trivial⟩ ?_
                    refine vif hF (fun _ hF => ?_) (fun _ hF => ?_)
                    · refine Dz.tt (b := true) rfl rfl ?_
                      refine Dz.seq ?_
                      refine Dz.reg ?_
                      refine Dz.ret ?_
                      cases hF
                      exact finG [] [] rfl rfl (m_val rfl) trivial rfl
                    · refine Dz.ent (x := ([(7, .val false [.row 0]), (10, vint .i64 y11.1), (87, vbool (!(y14.2 == y3.2)))], [.row 3 y11.2.length 1 (gl cInt y11.2)])) (entG [0] ⟨⟨rfl, rfl, trivial⟩, m_val rfl, m_val rfl, trivial⟩ ⟨⟨rfl, o_row⟩, trivial⟩ rfl) ?_
                      refine Dz.ite rfl hF (fun _ hF => ?_) (fun _ hF => ?_)
                      · refine Dz.seq ?_
                        refine Dz.reg ?_
                        refine Dz.ret ?_
                        cases hF
                        exact finG [] [] rfl rfl (m_val rfl) trivial rfl
                      · refine Dz.skip ?_
                        refine Dz.seq ?_
                        refine Dz.reg ?_
                        refine Dz.seq ?_
                        refine Dz.reg ?_
                        refine bdE hF (fun y16 hy16 hF => ?_)
                        refine callL [] (l_heldIntS_c hy16) ⟨⟨rfl, ⟨rfl, rfl, LeU.refl _⟩, trivial⟩, m_val rfl, trivial⟩ trivial rfl ⟨⟨trivial, trivial⟩, trivial⟩ ?_
                        refine Dz.seq ?_
                        refine Dz.seq ?_
                        refine Dz.reg ?_
                        refine Dz.ite rfl hF (fun _ hF => ?_) (fun _ hF => ?_)
                        · refine Dz.seq ?_
                          refine Dz.reg ?_
                          refine Dz.ret ?_
                          cases hF
                          exact finG [] [] rfl rfl (m_val rfl) trivial rfl
                        · refine Dz.skip ?_
                          refine Dz.seq ?_
                          refine Dz.seq ?_
                          refine Dz.reg ?_
                          refine Dz.ite rfl hF (fun _ hF => ?_) (fun _ hF => ?_)
                          · refine Dz.seq ?_
                            refine Dz.reg ?_
                            refine Dz.ret ?_
                            cases hF
                            exact finG [] [] rfl rfl (m_val rfl) trivial rfl
                          · refine Dz.skip ?_
                            refine Dz.seq ?_
                            refine Dz.reg ?_
                            refine Dz.ret ?_
                            cases hF
                            exact finG [] [] rfl rfl (m_val rfl) trivial rfl
end Go.Proofs.PanK

/-! Plain laws: words. -/
namespace Go.Proofs.PanK
open Go.Vs

section words
variable {α R : Type}
theorem lt_eq (a : α) (f : α → Option R) : lt a f = f a := rfl
theorem jn_eq (rest : α → Option R) (m : (α → Option R) → Option R) : jn rest m = m rest := rfl
theorem ck_pos {p : Prop} [Decidable p] {X : Option R} (h : p) : ck p X = X := if_pos h
theorem ix_pos [Inhabited α] {L : List α} {i : Int} {κ : α → Option R} (h : 0 ≤ i ∧ i < (L.length : Int)) : ix L i κ = κ (L.getD i.toNat default) := if_pos h
theorem ix_nat [Inhabited α] {L : List α} {i : Nat} {κ : α → Option R} (h : i < L.length) : ix L ((i : Nat) : Int) κ = κ (L.getD i default) := by
  rw [ix_pos (by omega)]; rfl
theorem w64_eq {n : Int} (h1 : -9223372036854775808 ≤ n) (h2 : n < 9223372036854775808) : w64 n = n := (wrap64 h1 h2).symm

theorem loopN_ok {body : Nat → Unit → (Unit → Option R) → Option R} {after : Unit → Option R} : ∀ (d i0 : Nat), (∀ i κ, i0 ≤ i → i < i0 + d → body i () κ = κ ()) → loopN body after d i0 () = after ()
  | 0, _, _ => rfl
  | d + 1, i0, hb => by
    show body i0 () (loopN body after d (i0 + 1)) = _
    rw [hb i0 _ (Nat.le_refl _) (by omega)]
    exact loopN_ok d (i0 + 1) fun i κ h1 h2 => hb i κ (by omega) (by omega)
/-- So for all. -/
def allN (p : Nat → Bool) : Nat → Nat → Bool
  | 0, _ => true
  | d + 1, i => p i && allN p d (i + 1)
theorem allN_iff (p : Nat → Bool) : ∀ (d i0 : Nat), allN p d i0 = true ↔ ∀ i, i0 ≤ i → i < i0 + d → p i = true
  | 0, i0 => ⟨fun _ i h1 h2 => by omega, fun _ => rfl⟩
  | d + 1, i0 => by
    simp only [allN, Bool.and_eq_true, allN_iff p d (i0 + 1)]
    constructor
    · rintro ⟨h1, h2⟩ i h3 h4
      rcases Nat.eq_or_lt_of_le h3 with h5 | h5
      · rw [← h5]; exact h1
      · exact h2 i h5 (by omega)
    · intro h
      exact ⟨h i0 (Nat.le_refl _) (by omega), fun i h3 h4 => h i (by omega) (by omega)⟩
theorem loopN_all {body : Nat → Unit → (Unit → Option R) → Option R} {after : Unit → Option R} {r0 : Option R} (p : Nat → Bool) : ∀ (d i0 : Nat),
    (∀ i κ, i0 ≤ i → i < i0 + d → body i () κ = cond (p i) (κ ()) r0) → loopN body after d i0 () = cond (allN p d i0) (after ()) r0
  | 0, i0, _ => rfl
  | d + 1, i0, hb => by
    show body i0 () (loopN body after d (i0 + 1)) = cond (p i0 && allN p d (i0 + 1)) _ _
    rw [hb i0 _ (Nat.le_refl _) (by omega), loopN_all p d (i0 + 1) (fun i κ h1 h2 => hb i κ (by omega) (by omega))]
    cases p i0 <;> rfl

/-- A loop that goes through, and carries something. -/
theorem loopN_inv {body : Nat → α → (α → Option R) → Option R} {after : α → Option R} (I : Nat → α → Prop) : ∀ (d i0 : Nat) (a : α), I i0 a → (∀ i a κ, i0 ≤ i → i < i0 + d → I i a → ∃ a', I (i + 1) a' ∧ body i a κ = κ a') →
    ∃ a', I (i0 + d) a' ∧ loopN body after d i0 a = after a'
  | 0, i0, a, h, _ => ⟨a, h, rfl⟩
  | d + 1, i0, a, h, hb => by
    obtain ⟨a', h1, h2⟩ := hb i0 a (loopN body after d (i0 + 1)) (Nat.le_refl _) (by omega) h
    obtain ⟨a2, h3, h4⟩ := loopN_inv I d (i0 + 1) a' h1 (fun i a κ h5 h6 h7 => hb i a κ (by omega) (by omega) h7)
    exact ⟨a2, by rw [show i0 + (d + 1) = i0 + 1 + d by omega]; exact h3, by show body i0 a (loopN body after d (i0 + 1)) = _; rw [h2, h4]⟩

/-- Two loops side by side. -/
theorem loopN_sim {α β : Type} {b1 : Nat → α → (α → Option R) → Option R} {a1 : α → Option R} {b2 : Nat → β → (β → Option R) → Option R} {a2 : β → Option R} (I : Nat → α → β → Prop) : ∀ (d i0 : Nat) (x : α) (y : β), I i0 x y →
    (∀ i x y κ1 κ2, i0 ≤ i → i < i0 + d → I i x y → (∀ x' y', I (i + 1) x' y' → κ1 x' = κ2 y') → b1 i x κ1 = b2 i y κ2) → (∀ x y, I (i0 + d) x y → a1 x = a2 y) → loopN b1 a1 d i0 x = loopN b2 a2 d i0 y
  | 0, i0, x, y, h, _, ha => ha x y h
  | d + 1, i0, x, y, h, hb, ha => by
    show b1 i0 x (loopN b1 a1 d (i0 + 1)) = b2 i0 y (loopN b2 a2 d (i0 + 1))
    refine hb i0 x y _ _ (Nat.le_refl _) (by omega) h fun x' y' h' => ?_
    exact loopN_sim I d (i0 + 1) x' y' h' (fun i x y κ1 κ2 h1 h2 h3 h4 => hb i x y κ1 κ2 (by omega) (by omega) h3 h4) (fun x y h5 => ha x y (by rw [show i0 + (d + 1) = i0 + 1 + d by omega]; exact h5))
end words

/-! ### Small functions -/
def inB (n lo hi : Int) : Bool := decide (lo ≤ n ∧ n ≤ hi)
theorem s_l6In_eq (a b c : Int) : s_l6In a b c = some (inB a b c) := by
  unfold s_l6In inB
  by_cases h : b ≤ a <;> simp [h]
theorem i_in_eq (a b c : Int) : i_in a b c = some (inB a b c) := by
  unfold i_in inB
  by_cases h : b ≤ a <;> simp [h]
theorem i_isClient_eq (a : Int) : i_isClient a = some (inB a 0 3) := by
  unfold i_isClient; rw [i_in_eq]; rfl

/-! ### Conversions -/
theorem set_take {α : Type} {L1 L2 : List α} {i : Nat} [Inhabited α] (hi : i < L2.length) (hl : L1.length = L2.length) (h : L1.take i = L2.take i) : (L1.set i (L2.getD i default)).take (i + 1) = L2.take (i + 1) := by
  apply List.ext_getElem?
  intro j
  have hj : (L1.take i)[j]? = (L2.take i)[j]? := by rw [h]
  rw [List.getElem?_take, List.getElem?_take] at hj ⊢
  by_cases h1 : j < i + 1
  · rw [if_pos h1, if_pos h1]
    by_cases h2 : j = i
    · subst h2
      rw [List.getElem?_set_self (by omega), List.getD_eq_getElem?_getD, List.getElem?_eq_getElem hi]; rfl
    · rw [List.getElem?_set_ne (fun e => h2 e.symm)]
      rw [if_pos (by omega), if_pos (by omega)] at hj
      exact hj
  · rw [if_neg h1, if_neg h1]

theorem l_toPanCall_eq (a : PanCall) : l_toPanCall a = some a := rfl
theorem loopN_eq {α R : Type} {body : Nat → α → (α → Option R) → Option R} {after : α → Option R} {r : Option R} {d i0 : Nat} {a : α} (I : Nat → α → Prop) (h0 : I i0 a)
    (hb : ∀ i a κ, i0 ≤ i → i < i0 + d → I i a → ∃ a', I (i + 1) a' ∧ body i a κ = κ a') (hf : ∀ a, I (i0 + d) a → after a = r) : loopN body after d i0 a = r := by
  obtain ⟨a', h1, h2⟩ := loopN_inv (after := after) I d i0 a h0 hb
  rw [h2, hf a' h1]
theorem l_toPanCallS_eq (L : List PanCall) (h : L.length * 96 ≤ 140737488355328) : l_toPanCallS L = some L := by
  unfold l_toPanCallS
  rw [ck_pos (by omega)]
  refine loopN_eq (fun i (v : List PanCall) => v.length = L.length ∧ v.take i = L.take i) ⟨List.length_replicate, rfl⟩ (fun i a κ _ hi ⟨h1, h2⟩ => ⟨a.set i (L.getD i default), ⟨by simpa using h1, set_take (by omega) h1 h2⟩, ?_⟩) (fun a ⟨h1, h2⟩ => ?_)
  · simp only [lt_eq, l_toPanCall_eq, Option.bind_some]
    rw [ix_nat (by omega)]
  · rw [Nat.zero_add, List.take_of_length_le (by omega), List.take_of_length_le (by omega)] at h2
    rw [h2]
theorem l_eqPanCall_eq (a : PanCall) : l_eqPanCall a a = some true := by simp [l_eqPanCall]
theorem l_eqPanCallS_eq (L : List PanCall) : l_eqPanCallS L L = some true := by
  unfold l_eqPanCallS
  simp only [decide_true, Bool.not_true, cond_false]
  rw [loopN_ok _ _ (fun i κ _ hi => by
    simp only [lt_eq]
    rw [ix_nat (by omega)]
    simp [l_eqPanCall_eq])]
theorem l_eqIntS_eq (L : List Int) : l_eqIntS L L = some true := by
  unfold l_eqIntS
  simp only [decide_true, Bool.not_true, cond_false]
  rw [loopN_ok _ _ (fun i κ _ hi => by
    rw [ix_nat (by omega)]
    simp)]
theorem l_szPanCallS_eq (L : List PanCall) (h : L.length ≤ 140737488355328) : l_szPanCallS L 1048576 = some (if L.length ≤ 1048576 then 1048576 - (L.length : Int) else -1) := by
  unfold l_szPanCallS
  rw [w64_eq (by omega) (by omega)]
  by_cases h1 : L.length ≤ 1048576
  · rw [if_pos h1, decide_eq_false (by omega)]; rfl
  · rw [if_neg h1, decide_eq_true (by omega)]; rfl
end Go.Proofs.PanK

/-! Plain laws: calls in form, pieces. -/
namespace Go.Proofs.PanK
open Go.Vs

/-- How many of some places. -/
def cntN (q : Nat → Bool) : Nat → Nat → Nat
  | 0, _ => 0
  | d + 1, i => cond (q i) 1 0 + cntN q d (i + 1)
theorem cntN_le (q : Nat → Bool) : ∀ d i, cntN q d i ≤ d
  | 0, _ => Nat.le_refl _
  | d + 1, i => by
    have := cntN_le q d (i + 1)
    simp only [cntN]
    cases q i <;> simp only [cond_true, cond_false] <;> omega
/-- A loop that counts, and may end early. -/
theorem loopN_cnt {R : Type} {body : Nat → Int → (Int → Option R) → Option R} {after : Int → Option R} {r0 : Option R} (p q : Nat → Bool) (n : Nat) (hn : n ≤ 1000000) : ∀ (d i0 : Nat) (v : Nat), i0 + d ≤ n → v ≤ i0 →
    (∀ i (v : Nat) κ, i0 ≤ i → i < i0 + d → v ≤ i → body i v κ = cond (p i) (κ ((v + cond (q i) 1 0 : Nat) : Int)) r0) → loopN body after d i0 v = cond (allN p d i0) (after ((v + cntN q d i0 : Nat) : Int)) r0
  | 0, i0, v, _, _, _ => rfl
  | d + 1, i0, v, h1, h2, hb => by
    show body i0 v (loopN body after d (i0 + 1)) = _
    rw [hb i0 v _ (Nat.le_refl _) (by omega) h2]
    have hle : v + cond (q i0) 1 0 ≤ i0 + 1 := by cases q i0 <;> simp only [cond_true, cond_false] <;> omega
    rw [loopN_cnt p q n hn d (i0 + 1) _ (by omega) hle (fun i v κ h3 h4 h5 => hb i v κ (by omega) (by omega) h5)]
    simp only [allN, cntN, Nat.add_assoc]
    cases p i0 <;> rfl

def nthC (L : List PanCall) (n : Nat) (cl : Int) : Nat := cntN (fun k => decide ((L.getD k default).Client = cl)) n 0
def endB (c : PanCall) : Bool := cond (decide (c.End = 0)) (decide (c.Code = 0) && decide (c.Value = 0)) (!c.Over && (inB c.End (c.Begin + 1) 99999 && (inB c.Code 0 5 && inB c.Value 0 99999)))
def selfB (c : PanCall) : Bool := inB c.Client 0 3 && (inB c.Op 1 6 && (inB c.Disk 0 99999 && (inB c.Block 0 99999 && (inB c.Epoch 0 99999 && (inB c.Data 0 99999 && (inB c.Begin 1 99999 && endB c))))))
def prevB (L : List PanCall) (i : Nat) : Bool := decide (0 < i → (L.getD (i - 1) default).Begin < (L.getD i default).Begin)
def callB (L : List PanCall) (i : Nat) : Bool := selfB (L.getD i default) && (decide ((L.getD i default).Call = (nthC L i (L.getD i default).Client : Int) + 1) && prevB L i)
def pastB (L : List PanCall) (i k : Nat) : Bool := !decide ((L.getD k default).Client = (L.getD i default).Client) || ((L.getD k default).Over || (!decide ((L.getD k default).End = 0) && decide ((L.getD k default).End < (L.getD i default).Begin)))
def callsB (L : List PanCall) : Bool := decide (L.length ≤ 10) && allN (fun i => callB L i && allN (pastB L i) i 0) L.length 0

theorem inB_of {n lo hi : Int} (h : inB n lo hi = true) : lo ≤ n ∧ n ≤ hi := of_decide_eq_true h

theorem s_l61Nth_eq (L : List PanCall) (n : Nat) (cl : Int) (h : n ≤ L.length) (hl : L.length ≤ 10) : s_l61Nth L n cl = some (nthC L n cl : Int) := by
  unfold s_l61Nth
  rw [ck_pos (by omega)]
  have := loopN_cnt (R := Int) (body := fun i1 (v6 : Int) κ7 => ix L ((i1 : Nat) : Int) (fun x8 => cond (decide (x8.Client = cl)) (κ7 (w64 (v6 + 1))) (κ7 v6))) (after := fun v => some v) (r0 := none) (fun _ => true) (fun k => decide ((L.getD k default).Client = cl)) n (by omega) n 0 0 (by omega) (Nat.le_refl _)
    (fun i v κ _ hi hv => by
      rw [ix_nat (by omega), w64_eq (by omega) (by omega)]
      show cond (decide ((L.getD i default).Client = cl)) _ _ = _
      cases decide ((L.getD i default).Client = cl) <;> simp)
  rw [show ((n : Int).toNat) = n from rfl]
  refine this.trans ?_
  rw [show allN (fun _ => true) n 0 = true from (allN_iff _ _ _).2 fun _ _ _ => rfl]
  simp [nthC]

theorem cond_and (a b : Bool) (X : Option Bool) : cond a (cond b X (some false)) (some false) = cond (a && b) X (some false) := by cases a <;> rfl
theorem cond_not {A : Type} (a : Bool) (X Y : A) : cond (!a) X Y = cond a Y X := by cases a <;> rfl
theorem cond_some (a : Bool) (b : Bool) : cond a (some b) (some false) = some (a && b) := by cases a <;> rfl

theorem s_l61CallOk_eq (L : List PanCall) (i : Nat) (hi : i < L.length) (hl : L.length ≤ 10) : s_l61CallOk L i 99999 = some (callB L i) := by
  unfold s_l61CallOk
  have hn := cntN_le (fun k => decide ((L.getD k default).Client = (L.getD i default).Client)) i 0
  rw [ix_nat hi]
  generalize hc : L.getD i default = c at *
  simp only [s_l6In_eq, Option.bind_some, jn_eq, cond_not]
  rw [s_l61Nth_eq L i c.Client (by omega) hl]
  simp only [Option.bind_some]
  have hnn : nthC L i c.Client ≤ i := hn
  rw [w64_eq (n := (nthC L i c.Client : Int) + 1) (by omega) (by omega)]
  unfold callB selfB
  rw [hc]
  cases h1 : inB c.Client 0 3 <;> simp only [cond_true, cond_false, Bool.true_and, Bool.false_and]
  cases h2 : decide (c.Call = (nthC L i c.Client : Int) + 1) <;> simp only [cond_true, cond_false, Bool.false_and, Bool.and_false, Bool.true_and]
  cases h3 : inB c.Op 1 6 <;> simp only [cond_true, cond_false, Bool.false_and, Bool.and_false, Bool.true_and]
  cases h4 : inB c.Disk 0 99999 <;> simp only [cond_true, cond_false, Bool.false_and, Bool.and_false, Bool.true_and]
  cases h5 : inB c.Block 0 99999 <;> simp only [cond_true, cond_false, Bool.false_and, Bool.and_false, Bool.true_and]
  cases h6 : inB c.Epoch 0 99999 <;> simp only [cond_true, cond_false, Bool.false_and, Bool.and_false, Bool.true_and]
  cases h7 : inB c.Data 0 99999 <;> simp only [cond_true, cond_false, Bool.false_and, Bool.and_false, Bool.true_and]
  cases h8 : inB c.Begin 1 99999 <;> simp only [cond_true, cond_false, Bool.false_and, Bool.and_false, Bool.true_and]
  have hb := inB_of h8
  rw [w64_eq (n := c.Begin + 1) (by omega) (by omega)]
  have hend : (cond (decide (c.End = 0)) (cond (decide (c.Code = 0)) (some (decide (c.Value = 0))) (some false)) (cond c.Over (some false) (cond (inB c.End (c.Begin + 1) 99999) (cond (inB c.Code 0 5) (some (inB c.Value 0 99999)) (some false)) (some false)))) = some (endB c) := by
    unfold endB
    cases decide (c.End = 0) <;> cases decide (c.Code = 0) <;> cases c.Over <;> cases inB c.End (c.Begin + 1) 99999 <;> cases inB c.Code 0 5 <;> rfl
  rw [hend]
  unfold prevB
  rw [hc]
  by_cases hp : 0 < i
  · have e : ((i : Int) - 1) = ((i - 1 : Nat) : Int) := by omega
    rw [decide_eq_true (show (0 : Int) < (i : Int) by omega), cond_true, w64_eq (by omega) (by omega), e, ix_nat (by omega)]
    show cond (decide (c.Begin ≤ (L.getD (i - 1) default).Begin)) _ _ = _
    by_cases hq : c.Begin ≤ (L.getD (i - 1) default).Begin
    · rw [decide_eq_true hq, decide_eq_false (fun hh => by have := hh hp; omega)]; simp
    · rw [decide_eq_false hq, decide_eq_true (fun _ => by omega)]; simp
  · rw [decide_eq_false (show ¬ (0 : Int) < (i : Int) by omega), decide_eq_true (fun h => absurd h hp)]; simp

theorem s_l61CallsOk_eq (L : List PanCall) : s_l61CallsOk L 99999 = some (callsB L) := by
  unfold s_l61CallsOk callsB
  by_cases hl : L.length ≤ 10
  · rw [decide_eq_false (by omega), cond_false, decide_eq_true hl, Bool.true_and]
    refine (loopN_all (r0 := some false) (fun i => callB L i && allN (pastB L i) i 0) L.length 0 (fun i κ _ hi => ?_)).trans (by cases allN _ _ _ <;> rfl)
    rw [s_l61CallOk_eq L i (by omega) hl]
    simp only [Option.bind_some, cond_not]
    rw [loopN_all (r0 := some false) (pastB L i) i 0 (fun k κ _ hk => by
      simp only [ix_nat (show k < L.length by omega)]
      unfold pastB
      have e : decide ((L.getD i default).Begin ≤ (L.getD k default).End) = !decide ((L.getD k default).End < (L.getD i default).Begin) := by
        by_cases h : (L.getD k default).End < (L.getD i default).Begin
        · rw [decide_eq_true h, decide_eq_false (by omega)]; rfl
        · rw [decide_eq_false h, decide_eq_true (by omega)]; rfl
      rw [e]
      cases decide ((L.getD k default).Client = (L.getD i default).Client) <;> cases (L.getD k default).Over <;> cases decide ((L.getD k default).End = 0) <;> cases decide ((L.getD k default).End < (L.getD i default).Begin) <;> rfl)]
    cases callB L i <;> rfl
  · rw [decide_eq_true (by omega), decide_eq_false hl]; rfl

theorem i_callsOk_eq (L : List PanCall) : i_callsOk L 99999 = some (callsB L) := by
  unfold i_callsOk callsB
  by_cases hl : L.length ≤ 10
  · rw [decide_eq_false (by omega), cond_false, decide_eq_true hl, Bool.true_and]
    refine (loopN_all (r0 := some false) (fun i => callB L i && allN (pastB L i) i 0) L.length 0 (fun i κ _ hi => ?_)).trans (by cases allN _ _ _ <;> rfl)
    have hn := cntN_le (fun k => decide ((L.getD k default).Client = (L.getD i default).Client)) i 0
    simp only [lt_eq, jn_eq, i_in_eq, i_isClient_eq, Option.bind_some, cond_not]
    rw [ck_pos (by omega)]
    have hloop : ∀ after : Int → Option Bool, loopN (fun i46 (v51 : Int) κ52 => ix (L.take i) ((i46 : Nat) : Int) (fun x53 => cond (decide (x53.Client = (L.getD i default).Client)) (cond x53.Over (κ52 (w64 (v51 + 1))) (cond (decide (x53.End = 0)) (some false) (cond (decide ((L.getD i default).Begin ≤ x53.End)) (some false) (κ52 (w64 (v51 + 1)))))) (κ52 v51))) after (((i : Nat) : Int).toNat) 0 0 =
        cond (allN (pastB L i) i 0) (after ((nthC L i (L.getD i default).Client : Nat) : Int)) (some false) := by
      intro after
      have := loopN_cnt (R := Bool) (body := fun i46 (v51 : Int) κ52 => ix (L.take i) ((i46 : Nat) : Int) (fun x53 => cond (decide (x53.Client = (L.getD i default).Client)) (cond x53.Over (κ52 (w64 (v51 + 1))) (cond (decide (x53.End = 0)) (some false) (cond (decide ((L.getD i default).Begin ≤ x53.End)) (some false) (κ52 (w64 (v51 + 1)))))) (κ52 v51))) (after := after) (r0 := some false) (pastB L i) (fun k => decide ((L.getD k default).Client = (L.getD i default).Client)) i (by omega) i 0 0 (by omega) (Nat.le_refl _)
        (fun k v κ _ hk hv => by
          rw [ix_nat (by rw [List.length_take]; omega), w64_eq (by omega) (by omega)]
          have ex : (L.take i).getD k default = L.getD k default := by
            rw [List.getD_eq_getElem?_getD, List.getD_eq_getElem?_getD, List.getElem?_take_of_lt (by omega)]
          rw [ex]
          unfold pastB
          have e : decide ((L.getD i default).Begin ≤ (L.getD k default).End) = !decide ((L.getD k default).End < (L.getD i default).Begin) := by
            by_cases h : (L.getD k default).End < (L.getD i default).Begin
            · rw [decide_eq_true h, decide_eq_false (by omega)]; rfl
            · rw [decide_eq_false h, decide_eq_true (by omega)]; rfl
          rw [e]
          cases decide ((L.getD k default).Client = (L.getD i default).Client) <;> cases (L.getD k default).Over <;> cases decide ((L.getD k default).End = 0) <;> cases decide ((L.getD k default).End < (L.getD i default).Begin) <;> simp)
      rw [show (((i : Nat) : Int).toNat) = i from rfl]
      refine this.trans ?_
      simp [nthC]
    rw [hloop]
    have hnn : nthC L i (L.getD i default).Client ≤ i := hn
    rw [w64_eq (n := (nthC L i (L.getD i default).Client : Int) + 1) (by omega) (by omega)]
    unfold callB selfB prevB
    generalize L.getD i default = c at *
    generalize allN (pastB L i) i 0 = past at *
    generalize (nthC L i c.Client : Int) = nth at *
    cases h8 : inB c.Begin 1 99999
    · simp
    · have hb := inB_of h8
      rw [w64_eq (n := c.Begin + 1) (by omega) (by omega)]
      simp only [cond_true]
      have key : ∀ (pv : Bool), (cond pv (cond (inB c.Client 0 3) (cond (inB c.Op 1 6) (cond (inB c.Disk 0 99999) (cond (inB c.Block 0 99999) (cond (inB c.Epoch 0 99999) (cond (inB c.Data 0 99999)
          (cond (decide (c.End = 0)) (cond (decide (c.Code = 0)) (cond (decide (c.Value = 0)) (cond (decide (c.End = 0)) (cond past (cond (decide (c.Call = nth + 1)) (κ ()) (some false)) (some false)) (cond (inB c.End (c.Begin + 1) 99999) (cond c.Over (some false) (cond (inB c.Code 0 5) (cond (inB c.Value 0 99999) (cond past (cond (decide (c.Call = nth + 1)) (κ ()) (some false)) (some false)) (some false)) (some false))) (some false))) (some false)) (some false))
            (cond (decide (c.End = 0)) (cond past (cond (decide (c.Call = nth + 1)) (κ ()) (some false)) (some false)) (cond (inB c.End (c.Begin + 1) 99999) (cond c.Over (some false) (cond (inB c.Code 0 5) (cond (inB c.Value 0 99999) (cond past (cond (decide (c.Call = nth + 1)) (κ ()) (some false)) (some false)) (some false)) (some false))) (some false))))
          (some false)) (some false)) (some false)) (some false)) (some false)) (some false)) (some false)) =
          cond ((inB c.Client 0 3 && (inB c.Op 1 6 && (inB c.Disk 0 99999 && (inB c.Block 0 99999 && (inB c.Epoch 0 99999 && (inB c.Data 0 99999 && (true && endB c))))))) && (decide (c.Call = nth + 1) && pv) && past) (κ ()) (some false) := by
        intro pv
        unfold endB
        generalize κ () = X
        cases pv
        · simp
        cases inB c.Client 0 3
        · simp
        cases inB c.Op 1 6
        · simp
        cases inB c.Disk 0 99999
        · simp
        cases inB c.Block 0 99999
        · simp
        cases inB c.Epoch 0 99999
        · simp
        cases inB c.Data 0 99999
        · simp
        cases decide (c.End = 0)
        · cases inB c.End (c.Begin + 1) 99999 <;> cases c.Over <;> cases inB c.Code 0 5 <;> cases inB c.Value 0 99999 <;> cases past <;> cases decide (c.Call = nth + 1) <;> rfl
        · cases decide (c.Code = 0) <;> cases decide (c.Value = 0) <;> cases past <;> cases decide (c.Call = nth + 1) <;> rfl
      by_cases hp : 0 < i
      · have e : ((i : Int) - 1) = ((i - 1 : Nat) : Int) := by omega
        rw [decide_eq_true (show (0 : Int) < (i : Int) by omega)]
        simp only [cond_true]
        rw [e, ix_nat (by omega)]
        by_cases hq : c.Begin ≤ (L.getD (i - 1) default).Begin
        · have hd : decide (0 < i → (L.getD (i - 1) default).Begin < c.Begin) = false := decide_eq_false (fun hh => by have := hh hp; omega)
          rw [decide_eq_true hq, hd]; simp
        · have hd : decide (0 < i → (L.getD (i - 1) default).Begin < c.Begin) = true := decide_eq_true (fun _ => by omega)
          rw [decide_eq_false hq, hd]
          simp only [cond_false]
          exact key true
      · have hd : decide (0 < i → (L.getD (i - 1) default).Begin < c.Begin) = true := decide_eq_true (fun h => absurd h hp)
        rw [decide_eq_false (show ¬ (0 : Int) < (i : Int) by omega), hd]
        simp only [cond_false]
        exact key true
  · rw [decide_eq_true (by omega), decide_eq_false hl]; rfl
end Go.Proofs.PanK

/-! Plain laws: pieces. -/
namespace Go.Proofs.PanK
open Go.Vs

/-- Ahead of another piece. -/
def ahead (a b : BlkPiece) : Bool := cond (decide (a.Disk = b.Disk)) (cond (decide (a.Block = b.Block)) (decide (a.Epoch < b.Epoch)) (decide (a.Block < b.Block))) (decide (a.Disk < b.Disk))
def keyEq (a b : BlkPiece) : Bool := decide (a.Disk = b.Disk) && (decide (a.Block = b.Block) && decide (a.Epoch = b.Epoch))
theorem s_l3Before_eq (a : BlkPiece) (d b e : Int) (x : Int) : s_l3Before a d b e = some (ahead a ⟨d, b, e, x⟩) := by
  unfold s_l3Before ahead
  cases decide (a.Disk = d) <;> cases decide (a.Block = b) <;> rfl
theorem s_l3Before_eq' (a b : BlkPiece) : s_l3Before a b.Disk b.Block b.Epoch = some (ahead a b) := s_l3Before_eq a _ _ _ 0

theorem i_pieceWay_eq (a b : BlkPiece) : i_pieceWay a b = some (cond (keyEq a b) 0 (cond (ahead a b) (-1) 1)) := by
  unfold i_pieceWay
  simp only [loopN]
  rw [ix_pos (by simp), ix_pos (by simp), ix_pos (by simp)]
  simp only [lt_eq]
  unfold keyEq ahead
  show cond (decide (a.Disk < b.Disk)) (some (-1)) (cond (decide (b.Disk < a.Disk)) (some 1) (cond (decide (a.Block < b.Block)) (some (-1)) (cond (decide (b.Block < a.Block)) (some 1) (cond (decide (a.Epoch < b.Epoch)) (some (-1)) (cond (decide (b.Epoch < a.Epoch)) (some 1) (some 0)))))) = _
  have tri : ∀ x y : Int, (x < y ∧ ¬ y < x ∧ ¬ x = y) ∨ (y < x ∧ ¬ x < y ∧ ¬ x = y) ∨ (x = y ∧ ¬ x < y ∧ ¬ y < x) := fun x y => by omega
  rcases tri a.Disk b.Disk with ⟨h1, h2, h3⟩ | ⟨h1, h2, h3⟩ | ⟨h1, h2, h3⟩ <;> simp only [h1, h2, h3, decide_true, decide_false, cond_true, cond_false, Bool.false_and, Bool.true_and] <;> try rfl
  all_goals
    simp only [Int.lt_irrefl, decide_false, cond_false, decide_true, cond_true, Bool.true_and]
    rcases tri a.Block b.Block with ⟨h4, h5, h6⟩ | ⟨h4, h5, h6⟩ | ⟨h4, h5, h6⟩ <;> simp only [h4, h5, h6, decide_true, decide_false, cond_true, cond_false, Bool.false_and, Bool.true_and] <;> try rfl
  all_goals
    simp only [Int.lt_irrefl, decide_false, cond_false, decide_true, cond_true, Bool.true_and]
    rcases tri a.Epoch b.Epoch with ⟨h7, h8, h9⟩ | ⟨h7, h8, h9⟩ | ⟨h7, h8, h9⟩ <;> simp only [h7, h8, h9, decide_true, decide_false, cond_true, cond_false] <;> try rfl
  all_goals simp only [Int.lt_irrefl, decide_false, cond_false]

def pieceB (x : BlkPiece) : Bool := inB x.Disk 1 99999 && (inB x.Block 0 99999 && (inB x.Epoch 1 99999 && inB x.Data 0 99999))
def pieceAt (L : List BlkPiece) (i : Nat) : Bool := pieceB (L.getD i default) && decide (0 < i → ahead (L.getD (i - 1) default) (L.getD i default) = true)
def blkB (L : List BlkPiece) : Bool := decide (L.length ≤ 60) && allN (pieceAt L) L.length 0

theorem keyEq_ahead {a b : BlkPiece} (h : keyEq a b = true) : ahead a b = false := by
  unfold keyEq at h
  simp only [Bool.and_eq_true, decide_eq_true_eq] at h
  unfold ahead
  rw [decide_eq_true h.1, decide_eq_true h.2.1, h.2.2]
  simp

theorem s_BlkOk_eq (L : List BlkPiece) : s_BlkOk L = some (blkB L) := by
  unfold s_BlkOk blkB
  by_cases hl : L.length ≤ 60
  · rw [decide_eq_false (by omega), decide_eq_true hl]
    refine (loopN_all (r0 := some false) (pieceAt L) L.length 0 (fun i κ _ hi => ?_)).trans (by cases allN _ _ _ <;> rfl)
    simp only [lt_eq, s_l6In_eq, Option.bind_some, cond_not, s_l3Before_eq']
    unfold pieceAt pieceB
    generalize hx : L.getD i default = x
    generalize κ () = X
    cases inB x.Disk 1 99999
    · rfl
    cases inB x.Block 0 99999
    · rfl
    cases inB x.Epoch 1 99999
    · rfl
    cases inB x.Data 0 99999
    · rfl
    simp only [cond_true, Bool.true_and]
    by_cases hp : 0 < i
    · have e : ((i : Int) - 1) = ((i - 1 : Nat) : Int) := by omega
      rw [decide_eq_true (show (0 : Int) < (i : Int) by omega), cond_true, e, ix_nat (by omega)]
      cases ha : ahead (L.getD (i - 1) default) x
      · rw [decide_eq_false (fun hh => by have := hh hp; cases this)]
      · rw [decide_eq_true (fun _ => rfl)]
    · rw [decide_eq_false (show ¬ (0 : Int) < (i : Int) by omega), decide_eq_true (fun h => absurd h hp)]; rfl
  · rw [decide_eq_true (by omega), decide_eq_false hl]; rfl

theorem i_BlkOk_eq (L : List BlkPiece) : i_BlkOk L = some (blkB L) := by
  unfold i_BlkOk blkB
  have hlen : decide (((L.length : Nat) : Int) ≤ 60) = decide (L.length ≤ 60) := by
    by_cases h : L.length ≤ 60
    · rw [decide_eq_true h, decide_eq_true (by omega)]
    · rw [decide_eq_false h, decide_eq_false (by omega)]
  rw [hlen]
  refine (loopN_all (r0 := some false) (pieceAt L) L.length 0 (fun i κ _ hi => ?_)).trans (by cases allN _ _ _ <;> cases decide (L.length ≤ 60) <;> rfl)
  simp only [lt_eq, i_in_eq, Option.bind_some, cond_not, i_pieceWay_eq]
  unfold pieceAt pieceB
  generalize hx : L.getD i default = x
  generalize κ () = X
  cases inB x.Disk 1 99999
  · rfl
  cases inB x.Epoch 1 99999
  · cases inB x.Block 0 99999 <;> rfl
  cases inB x.Block 0 99999
  · rfl
  cases inB x.Data 0 99999
  · rfl
  simp only [cond_true, Bool.true_and]
  by_cases hp : 0 < i
  · have e : ((i : Int) - 1) = ((i - 1 : Nat) : Int) := by omega
    rw [decide_eq_true (show (0 : Int) < (i : Int) by omega), cond_true, e, ix_nat (by omega)]
    cases hk : keyEq (L.getD (i - 1) default) x
    · cases ha : ahead (L.getD (i - 1) default) x
      · rw [decide_eq_false (p := 0 < i → _) (fun hh => by have := hh hp; cases this)]; rfl
      · rw [decide_eq_true (p := 0 < i → _) (fun _ => rfl)]; rfl
    · rw [decide_eq_false (p := 0 < i → _) (fun hh => by have := hh hp; rw [keyEq_ahead hk] at this; cases this)]; rfl
  · rw [decide_eq_false (show ¬ (0 : Int) < (i : Int) by omega), decide_eq_true (p := 0 < i → _) (fun h => absurd h hp)]; rfl

theorem cpy_rep {α : Type} (L : List α) (z : α) : cpy (List.replicate L.length z) L = L := by
  unfold cpy; simp
theorem copied_eq {α : Type} (L : List α) (z : α) {b : Int} (h : 0 ≤ ((L.length : Nat) : Int) ∧ ((L.length : Nat) : Int) * b ≤ 140737488355328) :
    cond (decide (((L.length : Nat) : Int) = 0)) (some ([] : List α)) (ck (0 ≤ ((L.length : Nat) : Int) ∧ ((L.length : Nat) : Int) * b ≤ 140737488355328) (some (cpy (List.replicate L.length z) L))) = some L := by
  rw [ck_pos h, cpy_rep]
  by_cases h0 : L = []
  · subst h0; rfl
  · rw [decide_eq_false (by have := List.length_pos_iff.2 h0; omega)]; rfl
theorem i_copied_BlkPiece_eq (L : List BlkPiece) (h : L.length ≤ 1000) : i_copied_BlkPiece L = some L := copied_eq L _ (by omega)
theorem i_copied_MapDisk_eq (L : List MapDisk) (h : L.length ≤ 1000) : i_copied_MapDisk L = some L := copied_eq L _ (by omega)
theorem i_copied_int_eq (L : List Int) (h : L.length ≤ 1000) : i_copied_int L = some L := copied_eq L _ (by omega)

theorem blkB_len {L : List BlkPiece} (h : blkB L = true) : L.length ≤ 60 := by
  unfold blkB at h
  rw [Bool.and_eq_true] at h
  exact of_decide_eq_true h.1

/-- A way of two pieces, out of the one that is ahead. -/
theorem way_facts (p x : BlkPiece) : keyEq p x = keyEq x p ∧ (keyEq p x = true → ahead x p = false) ∧ (keyEq p x = false → ahead p x = !ahead x p) := by
  unfold keyEq ahead
  grind

/-- BlkPut: both put alike; what is made is in form. -/
theorem blkPut_eq (L : List BlkPiece) (d b e x : Int) (hL : blkB L = true) : ∃ r, s_BlkPut L d b e x = some r ∧ i_BlkPut L d b e x = some r ∧ blkB r.1 = true := by
  have hlen := blkB_len hL
  have hinv : ∃ v : Bool × List BlkPiece, v.2.length ≤ 120 ∧
      (∀ after : Bool × List BlkPiece → Option (List BlkPiece × Bool), loopN (fun i2 (v23 : Bool × List BlkPiece) κ24 => lt (L.getD i2 default) (fun x26 => jn (fun (v28 : Bool) => jn (fun (v31 : Bool × List BlkPiece) => cond (!v28) (ck ((v31.2.length + 1) * 32 ≤ 140737488355328) (κ24 (v31.1, (v31.2 ++ ([x26] : List BlkPiece))))) (κ24 (v31.1, v31.2))) (fun j32 => cond (!v23.1) ((s_l3Before x26 d b e).bind (fun y33 => cond (!y33) (ck ((v23.2.length + 1) * 32 ≤ 140737488355328) (j32 (true, (v23.2 ++ ([({ Disk := d, Block := b, Epoch := e, Data := x } : BlkPiece)] : List BlkPiece))))) (j32 (v23.1, v23.2)))) (j32 (v23.1, v23.2)))) (fun j34 => cond (decide (x26.Disk = d)) (cond (decide (x26.Block = b)) (j34 (decide (x26.Epoch = e))) (j34 false)) (j34 false)))) after L.length 0 (false, ([] : List BlkPiece)) = after v) ∧
      (∀ after : Bool × List BlkPiece → Option (List BlkPiece × Bool), loopN (fun i3 (v18 : Bool × List BlkPiece) κ19 => lt (L.getD i3 default) (fun x20 => (i_pieceWay ({ Disk := d, Block := b, Epoch := e, Data := x } : BlkPiece) x20).bind (fun y21 => jn (fun (v24 : Bool × List BlkPiece) => cond (!decide (y21 = 0)) (ck ((v24.2.length + 1) * 32 ≤ 140737488355328) (κ19 (v24.1, (v24.2 ++ ([x20] : List BlkPiece))))) (κ19 (v24.1, v24.2))) (fun j25 => cond (decide (y21 ≤ 0)) (cond (!v18.1) (ck ((v18.2.length + 1) * 32 ≤ 140737488355328) (j25 (true, (v18.2 ++ ([({ Disk := d, Block := b, Epoch := e, Data := x } : BlkPiece)] : List BlkPiece))))) (j25 (v18.1, v18.2))) (j25 (v18.1, v18.2)))))) after L.length 0 (false, ([] : List BlkPiece)) = after v) := by
    let p : BlkPiece := ⟨d, b, e, x⟩
    let F : Nat → Bool × List BlkPiece → Bool × List BlkPiece := fun i v =>
      let y := L.getD i default
      let v1 : Bool × List BlkPiece := cond (!v.1 && !ahead y p) (true, v.2 ++ [p]) v
      cond (keyEq p y) v1 (v1.1, v1.2 ++ [y])
    have step : ∀ i (v : Bool × List BlkPiece), v.2.length ≤ 2 * i → (F i v).2.length ≤ 2 * (i + 1) := by
      intro i v hv
      show (cond (keyEq p (L.getD i default)) _ _ : Bool × List BlkPiece).2.length ≤ _
      cases keyEq p (L.getD i default) <;> cases (!v.1 && !ahead (L.getD i default) p) <;> simp <;> omega
    let v0 : Nat → Nat → Bool × List BlkPiece → Bool × List BlkPiece := fun d => Nat.rec (fun _ v => v) (fun _ ih i v => ih (i + 1) (F i v)) d
    have hv0 : ∀ d i v, v.2.length ≤ 2 * i → (v0 d i v).2.length ≤ 2 * (i + d) := by
      intro d
      induction d with
      | zero => intro i v hv; exact hv
      | succ d ih => intro i v hv; have := ih (i + 1) _ (step i v hv); show (v0 d (i + 1) (F i v)).2.length ≤ _; omega
    have gen : ∀ (body : Nat → Bool × List BlkPiece → (Bool × List BlkPiece → Option (List BlkPiece × Bool)) → Option (List BlkPiece × Bool)) (after : Bool × List BlkPiece → Option (List BlkPiece × Bool)),
        (∀ i v κ, i < L.length → v.2.length ≤ 2 * i → body i v κ = κ (F i v)) → ∀ d i v, i + d ≤ L.length → v.2.length ≤ 2 * i → loopN body after d i v = after (v0 d i v) := by
      intro body after hb d
      induction d with
      | zero => intro i v _ _; rfl
      | succ d ih =>
        intro i v hd hv
        show body i v (loopN body after d (i + 1)) = _
        rw [hb i v _ (by omega) hv, ih (i + 1) _ (by omega) (step i v hv)]
    refine ⟨v0 L.length 0 (false, []), by have := hv0 L.length 0 (false, []) (by simp); omega, fun after => ?_, fun after => ?_⟩
    · refine gen _ after (fun i v κ hi hv => ?_) _ _ _ (by omega) (by simp)
      simp only [lt_eq, jn_eq, cond_not]
      rw [s_l3Before_eq _ d b e x]
      simp only [Option.bind_some]
      show _ = κ (cond (keyEq p (L.getD i default)) (cond (!v.1 && !ahead (L.getD i default) p) (true, v.2 ++ [p]) v) ((cond (!v.1 && !ahead (L.getD i default) p) (true, v.2 ++ [p]) v).1, (cond (!v.1 && !ahead (L.getD i default) p) (true, v.2 ++ [p]) v).2 ++ [L.getD i default]))
      rw [(way_facts p (L.getD i default)).1]
      have hk : keyEq (L.getD i default) p = (decide ((L.getD i default).Disk = d) && (decide ((L.getD i default).Block = b) && decide ((L.getD i default).Epoch = e))) := rfl
      rw [hk]
      obtain ⟨v1, v2⟩ := v
      simp only at hv ⊢
      show _ = κ _
      change _ = κ (cond _ (cond (!v1 && !ahead (L.getD i default) (⟨d, b, e, x⟩ : BlkPiece)) (true, v2 ++ [(⟨d, b, e, x⟩ : BlkPiece)]) (v1, v2)) ((cond (!v1 && !ahead (L.getD i default) (⟨d, b, e, x⟩ : BlkPiece)) (true, v2 ++ [(⟨d, b, e, x⟩ : BlkPiece)]) (v1, v2)).1, (cond (!v1 && !ahead (L.getD i default) (⟨d, b, e, x⟩ : BlkPiece)) (true, v2 ++ [(⟨d, b, e, x⟩ : BlkPiece)]) (v1, v2)).2 ++ [L.getD i default]))
      cases decide ((L.getD i default).Disk = d) <;> cases decide ((L.getD i default).Block = b) <;> cases decide ((L.getD i default).Epoch = e) <;> cases v1 <;> cases ahead (L.getD i default) (⟨d, b, e, x⟩ : BlkPiece) <;>
        simp only [cond_true, cond_false, Bool.true_and, Bool.false_and, Bool.and_false, Bool.not_true, Bool.not_false, Bool.and_true] <;>
        first
          | rfl
          | (rw [ck_pos (by omega)]; done)
          | (rw [ck_pos (by omega), ck_pos (by first | omega | (simp; omega))])
    · refine gen _ after (fun i v κ hi hv => ?_) _ _ _ (by omega) (by simp)
      simp only [lt_eq, jn_eq, cond_not, i_pieceWay_eq, Option.bind_some]
      obtain ⟨w1, w2, w3⟩ := way_facts p (L.getD i default)
      obtain ⟨v1, v2⟩ := v
      simp only at hv ⊢
      change _ = κ (cond (keyEq (⟨d, b, e, x⟩ : BlkPiece) (L.getD i default)) (cond (!v1 && !ahead (L.getD i default) (⟨d, b, e, x⟩ : BlkPiece)) (true, v2 ++ [(⟨d, b, e, x⟩ : BlkPiece)]) (v1, v2)) ((cond (!v1 && !ahead (L.getD i default) (⟨d, b, e, x⟩ : BlkPiece)) (true, v2 ++ [(⟨d, b, e, x⟩ : BlkPiece)]) (v1, v2)).1, (cond (!v1 && !ahead (L.getD i default) (⟨d, b, e, x⟩ : BlkPiece)) (true, v2 ++ [(⟨d, b, e, x⟩ : BlkPiece)]) (v1, v2)).2 ++ [L.getD i default]))
      change keyEq (⟨d, b, e, x⟩ : BlkPiece) (L.getD i default) = true → _ at w2
      change keyEq (⟨d, b, e, x⟩ : BlkPiece) (L.getD i default) = false → _ at w3
      change _ → ahead (L.getD i default) (⟨d, b, e, x⟩ : BlkPiece) = false at w2
      change _ → ahead (⟨d, b, e, x⟩ : BlkPiece) (L.getD i default) = !ahead (L.getD i default) (⟨d, b, e, x⟩ : BlkPiece) at w3
      cases hk : keyEq (⟨d, b, e, x⟩ : BlkPiece) (L.getD i default)
      · rw [w3 hk]
        cases v1 <;> cases ahead (L.getD i default) (⟨d, b, e, x⟩ : BlkPiece) <;> simp <;>
          first
            | rfl
            | (rw [ck_pos (by omega)]; done)
            | (rw [ck_pos (by omega), ck_pos (by first | omega | (simp; omega))])
      · rw [w2 hk]
        cases v1 <;> simp <;>
          first
            | rfl
            | (rw [ck_pos (by omega)]; done)
            | (rw [ck_pos (by omega), ck_pos (by first | omega | (simp; omega))])
  obtain ⟨⟨v1, v2⟩, hv, hs, hi⟩ := hinv
  simp only at hv
  unfold s_BlkPut i_BlkPut
  rw [s_BlkOk_eq, i_BlkOk_eq, hL]
  simp only [Option.bind_some, Bool.not_true, cond_false]
  rw [hs, hi]
  simp only [cond_not]
  have fin : ∀ v : List BlkPiece, v.length ≤ 121 → ∃ r, (s_BlkOk v).bind (fun y => cond y (some (v, true)) (ck ((0 + L.length) * 32 ≤ 140737488355328) (some ((([] : List BlkPiece) ++ L), false)))) = some r ∧
      (i_BlkOk v).bind (fun y => cond y ((i_copied_BlkPiece v).bind (fun y => some (y, true))) ((i_copied_BlkPiece L).bind (fun y => some (y, false)))) = some r ∧ blkB r.1 = true := by
    intro v hv
    rw [s_BlkOk_eq, i_BlkOk_eq, i_copied_BlkPiece_eq v (by omega), i_copied_BlkPiece_eq L (by omega), ck_pos (by omega)]
    cases h : blkB v
    · exact ⟨(L, false), rfl, rfl, hL⟩
    · exact ⟨(v, true), rfl, rfl, h⟩
  cases v1
  · simp only [cond_false, ck_pos (show (v2.length + 1) * 32 ≤ 140737488355328 by omega)]
    refine fin _ ?_
    simp only [List.length_append, List.length_cons, List.length_nil]
    omega
  · simp only [cond_true]
    exact fin v2 (by omega)

theorem blkGet_eq (L : List BlkPiece) (d b e : Int) : s_BlkGet L d b e = i_BlkGet L d b e := by
  unfold s_BlkGet i_BlkGet
  rw [s_BlkOk_eq, i_BlkOk_eq]
  rfl
theorem blkGet_some (L : List BlkPiece) (d b e : Int) : ∃ r, i_BlkGet L d b e = some r := by
  unfold i_BlkGet
  rw [i_BlkOk_eq]
  cases blkB L
  · exact ⟨0, rfl⟩
  · simp only [Option.bind_some, Bool.not_true, cond_false]
    obtain ⟨a, _, h⟩ := loopN_inv (R := Int) (fun _ (_ : Int) => True) (body := fun i3 (v8 : Int) κ9 => lt (L.getD i3 default) (fun x10 => cond (decide (x10.Disk = d)) (cond (decide (x10.Block = b)) (cond (decide (x10.Epoch ≤ e)) (κ9 x10.Data) (κ9 v8)) (κ9 v8)) (κ9 v8))) (after := fun (v8 : Int) => some v8) L.length 0 0 trivial
      (fun i a κ _ _ _ => by
        simp only [lt_eq]
        cases decide ((L.getD i default).Disk = d)
        · exact ⟨a, trivial, rfl⟩
        cases decide ((L.getD i default).Block = b)
        · exact ⟨a, trivial, rfl⟩
        cases decide ((L.getD i default).Epoch ≤ e)
        · exact ⟨a, trivial, rfl⟩
        · exact ⟨_, trivial, rfl⟩)
    exact ⟨a, h⟩
end Go.Proofs.PanK

/-! Plain laws: one server behind a call. -/
namespace Go.Proofs.PanK
open Go.Vs

structure DiskOk (next : Int) (d : MapDisk) : Prop where
  id : 1 ≤ d.Id ∧ d.Id ≤ next - 1
  size : 1 ≤ d.Size ∧ d.Size ≤ 8
  epoch : 1 ≤ d.Epoch ∧ d.Epoch ≤ 99999
  frozen : d.Frozen = 0
  client : d.Client = 0
  call : d.Call = 0
  acks : d.Acks = []
structure StOk (s : HistState) : Prop where
  next : 1 ≤ s.Next ∧ s.Next ≤ 5
  servers : 3 ≤ s.Servers ∧ s.Servers ≤ 5
  pieces : blkB s.Pieces = true
  disks : ∀ i, i < s.Disks.length → DiskOk s.Next (s.Disks.getD i default)
  order : ∀ i j, i < j → j < s.Disks.length → (s.Disks.getD i default).Id < (s.Disks.getD j default).Id

theorem StOk.len {s : HistState} (h : StOk s) : s.Disks.length ≤ 4 ∧ (s.Disks.length : Int) ≤ s.Next - 1 := by
  have key : ∀ i, i < s.Disks.length → (i : Int) + 1 ≤ (s.Disks.getD i default).Id := by
    intro i
    induction i with
    | zero => intro hi; have := (h.disks 0 hi).id; omega
    | succ i ih => intro hi; have h1 := ih (by omega); have h2 := h.order i (i + 1) (by omega) hi; omega
  rcases Nat.eq_zero_or_pos s.Disks.length with h0 | h0
  · have := h.next; omega
  · have h1 := key (s.Disks.length - 1) (by omega)
    have h2 := (h.disks (s.Disks.length - 1) (by omega)).id
    have := h.next
    omega

theorem inB_t {n lo hi : Int} (h : lo ≤ n ∧ n ≤ hi) : inB n lo hi = true := decide_eq_true h
theorem inB_f {n lo hi : Int} (h : ¬ (lo ≤ n ∧ n ≤ hi)) : inB n lo hi = false := decide_eq_false h

theorem s_l31DiskOk_eq {m : MapState} {d : MapDisk} (h : DiskOk m.Next d) (hn : 1 ≤ m.Next ∧ m.Next ≤ 5) : s_l31DiskOk m d = some true := by
  unfold s_l31DiskOk
  simp only [s_l6In_eq, Option.bind_some, cond_not]
  rw [w64_eq (by omega) (by omega), inB_t h.id, inB_t h.size, inB_t h.epoch, inB_t (by rw [h.frozen]; decide)]
  simp [h.frozen, h.client, h.call, h.acks]

theorem s_HistStateOk_eq {s : HistState} (h : StOk s) : s_HistStateOk s = some true := by
  unfold s_HistStateOk
  have hl := h.len
  simp only [s_l6In_eq, Option.bind_some, cond_not, s_BlkOk_eq]
  rw [inB_t h.next, inB_t h.servers, h.pieces, decide_eq_false (by omega)]
  simp only [cond_true, cond_false]
  rw [loopN_ok _ _ (fun i κ _ hi => by
    simp only [lt_eq]
    have hd := h.disks i (by omega)
    rw [s_l31DiskOk_eq (by exact hd) (by exact h.next), decide_eq_true hd.frozen]
    simp only [cond_true, Option.bind_some]
    by_cases hp : 0 < i
    · have e : ((i : Int) - 1) = ((i - 1 : Nat) : Int) := by omega
      rw [decide_eq_true (show (0 : Int) < (i : Int) by omega), cond_true, e, ix_nat (by omega)]
      have := h.order (i - 1) i (by omega) (by omega)
      rw [decide_eq_false (by omega)]; rfl
    · rw [decide_eq_false (show ¬ (0 : Int) < (i : Int) by omega)]; rfl)]

theorem set_self {α : Type} [Inhabited α] (L : List α) (i : Nat) : L.set i (L.getD i default) = L := by
  apply List.ext_getElem?
  intro j
  by_cases h : j = i
  · subst h
    by_cases hl : j < L.length
    · rw [List.getElem?_set_self hl, List.getD_eq_getElem?_getD, List.getElem?_eq_getElem hl]; rfl
    · rw [List.getElem?_eq_none (by simpa using hl), List.getElem?_eq_none (by omega)]
  · rw [List.getElem?_set_ne (fun e => h e.symm)]

theorem s_l63Copy_eq {s : HistState} (h : StOk s) : s_l63Copy s = some s := by
  unfold s_l63Copy
  have hl := h.len
  have hp := blkB_len h.pieces
  rw [ck_pos (by omega)]
  simp only [List.nil_append]
  have key : ∀ d i k, i + d = s.Disks.length → d < k → loopF (fun (v12 : Int × List MapDisk) κ13 => cond (decide (v12.1 < ((v12.2.length : Nat) : Int))) (ix v12.2 v12.1 (fun _ => κ13 ((w64 (v12.1 + 1)), (v12.2.set v12.1.toNat ({ Id := (v12.2.getD v12.1.toNat default).Id, Size := (v12.2.getD v12.1.toNat default).Size, Epoch := (v12.2.getD v12.1.toNat default).Epoch, Frozen := (v12.2.getD v12.1.toNat default).Frozen, Client := (v12.2.getD v12.1.toNat default).Client, Call := (v12.2.getD v12.1.toNat default).Call, Acks := ([] : List Int) } : MapDisk))))) (ck ((0 + s.Pieces.length) * 32 ≤ 140737488355328) (some ({ Next := s.Next, Servers := s.Servers, Disks := v12.2, Pieces := s.Pieces } : HistState)))) k (((i : Nat) : Int), s.Disks) = some s := by
    intro d
    induction d with
    | zero =>
      intro i k hi hk
      obtain ⟨k, rfl⟩ : ∃ m, k = m + 1 := ⟨k - 1, by omega⟩
      simp only [loopF]
      rw [decide_eq_false (by omega), cond_false, ck_pos (by omega)]
    | succ d ih =>
      intro i k hi hk
      obtain ⟨k, rfl⟩ : ∃ m, k = m + 1 := ⟨k - 1, by omega⟩
      simp only [loopF]
      rw [decide_eq_true (by omega), cond_true, ix_nat (by omega), w64_eq (by omega) (by omega)]
      have hd := (h.disks i (by omega)).acks
      have e : (({ Id := (s.Disks.getD ((i : Nat) : Int).toNat default).Id, Size := (s.Disks.getD ((i : Nat) : Int).toNat default).Size, Epoch := (s.Disks.getD ((i : Nat) : Int).toNat default).Epoch, Frozen := (s.Disks.getD ((i : Nat) : Int).toNat default).Frozen, Client := (s.Disks.getD ((i : Nat) : Int).toNat default).Client, Call := (s.Disks.getD ((i : Nat) : Int).toNat default).Call, Acks := ([] : List Int) } : MapDisk)) = s.Disks.getD i default := by
        rw [show ((i : Nat) : Int).toNat = i from rfl]
        rw [← hd]
      rw [e, show ((i : Nat) : Int).toNat = i from rfl, set_self]
      rw [show ((i : Int) + 1) = ((i + 1 : Nat) : Int) by omega]
      exact ih (i + 1) k (by omega) (by omega)
  exact key s.Disks.length 0 _ (by omega) (by omega)

theorem i_disksCopy_eq (D : List MapDisk) (h : D.length ≤ 1000) (ha : ∀ i, i < D.length → (D.getD i default).Acks = []) : i_disksCopy D = some D := by
  unfold i_disksCopy
  rw [i_copied_MapDisk_eq _ h]
  simp only [Option.bind_some]
  refine loopN_eq (fun _ (v : List MapDisk) => v = D) rfl (fun i a κ _ hi ha' => ?_) (fun a ha => by rw [ha])
  subst ha'
  refine ⟨_, rfl, ?_⟩
  rw [ix_nat (by omega), i_copied_int_eq _ (by rw [ha i (by omega)]; decide)]
  simp only [Option.bind_some]
  rw [ix_nat (by omega)]
  simp only [lt_eq]
  congr 1
  exact set_self a i
theorem i_histCopy_eq {s : HistState} (h : StOk s) : i_histCopy s = some s := by
  unfold i_histCopy
  have hl := h.len
  have hp := blkB_len h.pieces
  rw [i_disksCopy_eq _ (by omega) (fun i hi => (h.disks i hi).acks), i_copied_BlkPiece_eq _ (by omega)]
  rfl

theorem diskAt_facts (D : List MapDisk) (id : Int) : ∃ k : Int, i_diskAt D id = some k ∧ (k = -1 ∨ ∃ j : Nat, j < D.length ∧ k = j) := by
  unfold i_diskAt
  have key : ∀ d i, i + d = D.length → ∃ k : Int, loopN (fun i2 (v4 : Unit) κ5 => lt (D.getD i2 default) (fun x6 => cond (decide (x6.Id = id)) (some ((i2 : Nat) : Int)) (κ5 ()))) (fun (v4 : Unit) => some (-1)) d i () = some k ∧ (k = -1 ∨ ∃ j : Nat, j < D.length ∧ k = j) := by
    intro d
    induction d with
    | zero => intro i _; exact ⟨-1, rfl, .inl rfl⟩
    | succ d ih =>
      intro i hi
      simp only [loopN, lt_eq]
      cases decide ((D.getD i default).Id = id)
      · exact ih (i + 1) (by omega)
      · exact ⟨i, rfl, .inr ⟨i, by omega, rfl⟩⟩
  exact key D.length 0 (by omega)
theorem s_l31Disk_eq (m : MapState) (id : Int) : s_l31Disk m id = i_diskAt m.Disks id := rfl
theorem s_l63Disk_eq (s : HistState) (id : Int) : s_l63Disk s id = i_diskAt s.Disks id := by
  unfold s_l63Disk
  rw [s_l31Disk_eq]
  obtain ⟨k, h, _⟩ := diskAt_facts s.Disks id
  rw [h]; rfl

/-- Reading or writing a block. -/
theorem block_eq {s : HistState} (h : StOk s) (c : PanCall) (hop : c.Op = 1 ∨ c.Op = 2) : ∃ r, s_HistStep s c = some r ∧ i_step s c = some r ∧ StOk r.1 := by
  have hl := h.len
  have hop' : 1 ≤ c.Op ∧ c.Op ≤ 6 := by omega
  have hop2' : ¬ 2 < c.Op := by omega
  obtain ⟨k, hk, hkk⟩ := diskAt_facts s.Disks c.Disk
  have hi : i_step s c = (i_histBlock s c).bind fun y => some (y.1, y.2.1, y.2.2) := by
    unfold i_step
    rw [hk]
    simp only [Option.bind_some]
    rcases hop with h1 | h1
    · rw [decide_eq_true h1]; rfl
    · rw [decide_eq_false (by omega), decide_eq_true h1]; rfl
  have hs : s_HistStep s c = (s_l63Judge s c).bind fun y5 => cond (!decide (y5 = 0)) (some (s, y5, 0)) (ix s.Disks k (fun _ => lt (s.Disks.getD k.toNat default) (fun x7 => cond (decide (c.Op = 2)) ((s_BlkPut s.Pieces c.Disk c.Block x7.Epoch c.Data).bind (fun y8 => some (({ Next := s.Next, Servers := s.Servers, Disks := s.Disks, Pieces := y8.1 } : HistState), 0, 0))) (cond (decide (c.Epoch = 0)) ((s_BlkGet s.Pieces c.Disk c.Block x7.Epoch).bind (fun y9 => some (s, 0, y9))) ((s_BlkGet s.Pieces c.Disk c.Block c.Epoch).bind (fun y10 => some (s, 0, y10))))))) := by
    unfold s_HistStep
    rw [s_HistStateOk_eq h, s_l63Copy_eq h, s_l6In_eq, inB_t hop']
    simp only [Option.bind_some, Bool.not_true, cond_false]
    rw [decide_eq_false hop2', cond_false, s_l63Disk_eq, hk]
    rfl
  have hj : s_l63Judge s c = i_judge s.Disks c.Disk c.Block c.Epoch (decide (c.Op = 2)) := by
    unfold s_l63Judge i_judge
    rw [s_l63Disk_eq, hk]
    simp only [Option.bind_some, s_l6In_eq, i_in_eq, cond_not]
    rcases hop with h1 | h1
    · rw [decide_eq_true h1, decide_eq_false (show ¬ c.Op = 2 by omega)]; rfl
    · rw [decide_eq_false (show ¬ c.Op = 1 by omega), decide_eq_true h1]; rfl
  have hjs : ∃ y, i_judge s.Disks c.Disk c.Block c.Epoch (decide (c.Op = 2)) = some y ∧ (y = 0 → 0 ≤ k) := by
    unfold i_judge
    rw [hk]
    simp only [Option.bind_some, i_in_eq, cond_not]
    rcases hkk with rfl | ⟨j, hj, rfl⟩
    · exact ⟨1, rfl, fun h => by omega⟩
    · rw [decide_eq_false (by omega), cond_false, ix_nat hj]
      generalize inB c.Block 0 _ = b1
      generalize hX : (ix s.Disks ((j : Nat) : Int) (fun x4 => cond (inB c.Epoch 1 (w64 (x4.Epoch - 1))) (some 0) (some 3)) : Option Int) = X
      have hXs : ∃ y, X = some y := by
        rw [← hX, ix_nat hj]
        cases inB c.Epoch 1 _
        · exact ⟨3, rfl⟩
        · exact ⟨0, rfl⟩
      obtain ⟨y, rfl⟩ := hXs
      cases b1
      · exact ⟨2, rfl, fun h => by omega⟩
      · simp only [cond_true]
        cases decide (c.Op = 2)
        · cases decide (c.Epoch = 0)
          · exact ⟨y, rfl, fun _ => by omega⟩
          · exact ⟨0, rfl, fun _ => by omega⟩
        · exact ⟨0, rfl, fun _ => by omega⟩
  obtain ⟨y, hy, hy0⟩ := hjs
  rw [hs, hi, hj]
  unfold i_histBlock
  rw [hy, hk]
  simp only [Option.bind_some]
  by_cases h0 : y = 0
  · rw [decide_eq_true h0]
    simp only [Bool.not_true, cond_false]
    rcases hkk with rfl | ⟨j, hjl, rfl⟩
    · have := hy0 h0; omega
    rw [ix_nat hjl, ix_nat hjl]
    simp only [lt_eq, show ((j : Nat) : Int).toNat = j from rfl]
    cases hop2 : decide (c.Op = 2)
    · simp only [cond_false, cond_not]
      rw [blkGet_eq, blkGet_eq]
      obtain ⟨y1, hy1⟩ := blkGet_some s.Pieces c.Disk c.Block (s.Disks.getD j default).Epoch
      obtain ⟨y2, hy2⟩ := blkGet_some s.Pieces c.Disk c.Block c.Epoch
      rw [hy1, hy2]
      cases decide (c.Epoch = 0)
      · exact ⟨_, rfl, rfl, h⟩
      · exact ⟨_, rfl, rfl, h⟩
    · simp only [cond_true]
      obtain ⟨r, h1, h2, h3⟩ := blkPut_eq s.Pieces c.Disk c.Block (s.Disks.getD j default).Epoch c.Data h.pieces
      rw [h1, h2]
      exact ⟨_, rfl, rfl, ⟨h.next, h.servers, h3, h.disks, h.order⟩⟩
  · rw [decide_eq_false h0]
    exact ⟨_, rfl, rfl, h⟩

theorem getD_app_l {α : Type} [Inhabited α] {L M : List α} {i : Nat} (h : i < L.length) : (L ++ M).getD i default = L.getD i default := by
  rw [List.getD_eq_getElem?_getD, List.getD_eq_getElem?_getD, List.getElem?_append_left h]
theorem getD_app_r {α : Type} [Inhabited α] {L : List α} {x : α} : (L ++ [x]).getD L.length default = x := by
  rw [List.getD_eq_getElem?_getD, List.getElem?_append_right (Nat.le_refl _)]; simp
theorem getD_set {α : Type} [Inhabited α] {L : List α} {x : α} {i j : Nat} (h : i < L.length) : (L.set i x).getD j default = if j = i then x else L.getD j default := by
  by_cases e : j = i
  · subst e; rw [if_pos rfl, List.getD_eq_getElem?_getD, List.getElem?_set_self h]; rfl
  · rw [if_neg e, List.getD_eq_getElem?_getD, List.getD_eq_getElem?_getD, List.getElem?_set_ne (fun e' => e e'.symm)]
theorem getD_cut {α : Type} [Inhabited α] {L : List α} {k j : Nat} (h : k < L.length) : (L.take k ++ L.drop (k + 1)).getD j default = if j < k then L.getD j default else L.getD (j + 1) default := by
  by_cases e : j < k
  · rw [if_pos e, getD_app_l (by rw [List.length_take]; omega), List.getD_eq_getElem?_getD, List.getD_eq_getElem?_getD, List.getElem?_take_of_lt e]
  · rw [if_neg e, List.getD_eq_getElem?_getD, List.getD_eq_getElem?_getD, List.getElem?_append_right (by rw [List.length_take]; omega), List.getElem?_drop]
    congr 2
    rw [List.length_take]; omega

/-- What is not of a block. -/
theorem admin_eq {s : HistState} (h : StOk s) (c : PanCall) (hop : 3 ≤ c.Op ∧ c.Op ≤ 6) (hd : 0 ≤ c.Data) : ∃ r, s_HistStep s c = some r ∧ i_step s c = some r ∧ StOk r.1 := by
  have hl := h.len
  have hnx := h.next
  have hsv := h.servers
  obtain ⟨k, hk, hkk⟩ := diskAt_facts s.Disks c.Disk
  have hs : s_HistStep s c = (s_l63Admin s c).bind fun y => some (y.1, y.2.1, y.2.2) := by
    unfold s_HistStep
    rw [s_HistStateOk_eq h, s_l63Copy_eq h, s_l6In_eq, inB_t (show (1 : Int) ≤ c.Op ∧ c.Op ≤ 6 by omega)]
    simp only [Option.bind_some, Bool.not_true, cond_false]
    rw [decide_eq_true (by omega)]; rfl
  rw [hs]
  unfold s_l63Admin i_step
  rw [s_l63Disk_eq, hk]
  simp only [Option.bind_some, s_l6In_eq, i_in_eq, cond_not, jn_eq]
  rw [decide_eq_false (show ¬ c.Op = 1 by omega), decide_eq_false (show ¬ c.Op = 2 by omega)]
  simp only [cond_false]
  by_cases h3 : c.Op = 3
  · rw [decide_eq_true h3, decide_eq_false (show ¬ c.Op = 6 by omega)]
    simp only [cond_true, cond_false]
    cases hin : inB c.Data 1 8
    · exact ⟨_, rfl, rfl, h⟩
    · simp only [cond_true]
      by_cases hn : 4 < s.Next
      · rw [decide_eq_true hn]
        exact ⟨_, rfl, rfl, h⟩
      · rw [decide_eq_false hn]
        simp only [cond_false]
        rw [ck_pos (by omega), w64_eq (n := s.Next + 1) (by omega) (by omega)]
        refine ⟨_, rfl, rfl, ⟨by show 1 ≤ s.Next + 1 ∧ s.Next + 1 ≤ 5; omega, h.servers, h.pieces, fun i hi => ?_, fun i j hij hj => ?_⟩⟩
        · simp only [List.length_append, List.length_cons, List.length_nil] at hi
          show DiskOk (s.Next + 1) ((s.Disks ++ [_]).getD i default)
          rcases Nat.lt_or_ge i s.Disks.length with h1 | h1
          · rw [getD_app_l h1]
            have := h.disks i h1
            exact ⟨by have := this.id; omega, this.size, this.epoch, this.frozen, this.client, this.call, this.acks⟩
          · obtain rfl : i = s.Disks.length := by omega
            rw [getD_app_r]
            exact ⟨by show 1 ≤ s.Next ∧ s.Next ≤ s.Next + 1 - 1; omega, inB_of hin, ⟨show (1 : Int) ≤ 1 by omega, show (1 : Int) ≤ 99999 by omega⟩, rfl, rfl, rfl, rfl⟩
        · simp only [List.length_append, List.length_cons, List.length_nil] at hj
          show ((s.Disks ++ [_]).getD i default).Id < ((s.Disks ++ [_]).getD j default).Id
          rcases Nat.lt_or_ge j s.Disks.length with h1 | h1
          · rw [getD_app_l h1, getD_app_l (by omega)]
            exact h.order i j hij h1
          · obtain rfl : j = s.Disks.length := by omega
            rw [getD_app_r, getD_app_l hij]
            have := (h.disks i hij).id
            show _ < s.Next
            omega
  · rw [decide_eq_false h3]
    simp only [cond_false]
    by_cases h6 : c.Op = 6
    · rw [decide_eq_true h6]
      simp only [cond_true]
      by_cases hn : s.Servers = 5
      · rw [decide_eq_true hn, decide_eq_true (show (5 : Int) ≤ s.Servers by omega)]
        exact ⟨_, rfl, rfl, h⟩
      · rw [decide_eq_false hn, decide_eq_false (show ¬ (5 : Int) ≤ s.Servers by omega)]
        simp only [cond_false]
        rw [w64_eq (n := s.Servers + 1) (by omega) (by omega)]
        exact ⟨_, rfl, rfl, ⟨h.next, by show 3 ≤ s.Servers + 1 ∧ s.Servers + 1 ≤ 5; omega, h.pieces, h.disks, h.order⟩⟩
    · rw [decide_eq_false h6]
      simp only [cond_false]
      rcases hkk with rfl | ⟨j, hj, rfl⟩
      · exact ⟨_, rfl, rfl, h⟩
      rw [decide_eq_false (show ¬ ((j : Nat) : Int) < 0 by omega)]
      simp only [cond_false]
      have hdj := h.disks j hj
      by_cases h4 : c.Op = 4
      · rw [decide_eq_true h4]
        simp only [cond_true]
        simp only [ix_nat hj, show ((j : Nat) : Int).toNat = j from rfl]
        by_cases he : (s.Disks.getD j default).Epoch = 99999
        · rw [decide_eq_true he, decide_eq_true (show (99999 : Int) ≤ (s.Disks.getD j default).Epoch by omega)]
          exact ⟨_, rfl, rfl, h⟩
        · have hep := hdj.epoch
          rw [decide_eq_false he, decide_eq_false (show ¬ (99999 : Int) ≤ (s.Disks.getD j default).Epoch by omega)]
          simp only [cond_false]
          simp only [lt_eq]
          rw [ix_nat (by rw [List.length_set]; exact hj)]
          rw [getD_set hj, if_pos rfl, w64_eq (n := (s.Disks.getD j default).Epoch + 1) (by omega) (by omega), w64_eq (n := (s.Disks.getD j default).Epoch + 1 - 1) (by omega) (by omega), show (s.Disks.getD j default).Epoch + 1 - 1 = (s.Disks.getD j default).Epoch by omega]
          refine ⟨_, rfl, rfl, ⟨h.next, h.servers, h.pieces, fun i hi => ?_, fun i q hiq hq => ?_⟩⟩
          · simp only [List.length_set] at hi
            show DiskOk s.Next ((s.Disks.set j _).getD i default)
            rw [getD_set hj]
            by_cases e : i = j
            · rw [if_pos e]
              exact ⟨hdj.id, hdj.size, by show 1 ≤ (s.Disks.getD j default).Epoch + 1 ∧ (s.Disks.getD j default).Epoch + 1 ≤ 99999; omega, hdj.frozen, hdj.client, hdj.call, hdj.acks⟩
            · rw [if_neg e]; exact h.disks i hi
          · simp only [List.length_set] at hq
            have := h.order i q hiq hq
            show ((s.Disks.set j _).getD i default).Id < ((s.Disks.set j _).getD q default).Id
            rw [getD_set hj, getD_set hj]
            by_cases e : i = j <;> by_cases e2 : q = j
            · omega
            · rw [if_pos e, if_neg e2]; subst e; exact this
            · rw [if_neg e, if_pos e2]; subst e2; exact this
            · rw [if_neg e, if_neg e2]; exact this
      · rw [decide_eq_false h4]
        simp only [cond_false]
        rw [w64_eq (n := ((j : Nat) : Int) + 1) (by omega) (by omega)]
        have e1 : (((j : Nat) : Int) + 1).toNat = j + 1 := by omega
        rw [e1, show ((j : Nat) : Int).toNat = j from rfl]
        simp only [List.nil_append]
        rw [ck_pos (by omega), ck_pos (by omega), ck_pos (by omega), ck_pos (by omega), ck_pos (by omega), ck_pos (by omega), ck_pos (by omega)]
        refine ⟨_, rfl, rfl, ⟨h.next, h.servers, h.pieces, fun i hi => ?_, fun i q hiq hq => ?_⟩⟩
        · simp only [List.length_append, List.length_take, List.length_drop] at hi
          show DiskOk s.Next ((s.Disks.take j ++ s.Disks.drop (j + 1)).getD i default)
          rw [getD_cut hj]
          by_cases e : i < j
          · rw [if_pos e]; exact h.disks i (by omega)
          · rw [if_neg e]; exact h.disks (i + 1) (by omega)
        · simp only [List.length_append, List.length_take, List.length_drop] at hq
          show ((s.Disks.take j ++ s.Disks.drop (j + 1)).getD i default).Id < ((s.Disks.take j ++ s.Disks.drop (j + 1)).getD q default).Id
          rw [getD_cut hj, getD_cut hj]
          by_cases e : i < j <;> by_cases e2 : q < j
          · rw [if_pos e, if_pos e2]; exact h.order i q hiq (by omega)
          · rw [if_pos e, if_neg e2]; exact h.order i (q + 1) (by omega) (by omega)
          · omega
          · rw [if_neg e, if_neg e2]; exact h.order (i + 1) (q + 1) (by omega) (by omega)

/-- A call done: fits alike. -/
theorem fits_eq {s : HistState} (h : StOk s) (c : PanCall) (hc : selfB c = true) : ∃ r, s_l63Fits s c = some r ∧ i_does s c = some r ∧ StOk r.1 := by
  unfold selfB at hc
  simp only [Bool.and_eq_true] at hc
  obtain ⟨_, c2, _, _, _, c6, c7, c8⟩ := hc
  have c2 := inB_of c2
  have c6 := inB_of c6
  have c7 := inB_of c7
  have hend : (c.End = 0 ∧ c.Code = 0) ∨ 0 < c.End := by
    unfold endB at c8
    by_cases h0 : c.End = 0
    · rw [decide_eq_true h0, cond_true] at c8
      simp only [Bool.and_eq_true, decide_eq_true_eq] at c8
      exact .inl ⟨h0, c8.1⟩
    · rw [decide_eq_false h0, cond_false] at c8
      simp only [Bool.and_eq_true] at c8
      have := inB_of c8.2.1
      right; omega
  have hstep : ∃ r, s_HistStep s c = some r ∧ i_step s c = some r ∧ StOk r.1 := by
    by_cases ho : c.Op ≤ 2
    · exact block_eq h c (by omega)
    · exact admin_eq h c (by omega) c6.1
  obtain ⟨r, hs, hi, hr⟩ := hstep
  unfold s_l63Fits i_does
  rw [hs, i_histCopy_eq h]
  simp only [Option.bind_some, jn_eq]
  rw [hi]
  simp only [Option.bind_some]
  rcases hend with ⟨h0, hc0⟩ | h0
  · rw [decide_eq_false (show ¬ (0 : Int) < c.End by omega), decide_eq_false (show ¬ c.Code = 5 by omega), decide_eq_true h0]
    exact ⟨_, rfl, rfl, hr⟩
  · rw [decide_eq_true h0, decide_eq_false (show ¬ c.End = 0 by omega)]
    simp only [cond_true, cond_false]
    cases decide (c.Code = 5)
    · simp only [cond_false]
      cases decide (r.2.1 = c.Code)
      · exact ⟨_, rfl, rfl, hr⟩
      · exact ⟨_, rfl, rfl, hr⟩
    · simp only [cond_true]
      cases decide (c.Op = 4)
      · cases decide (c.Op = 5)
        · exact ⟨_, rfl, rfl, h⟩
        · exact ⟨_, rfl, rfl, h⟩
      · exact ⟨_, rfl, rfl, h⟩
end Go.Proofs.PanK

/-! Plain laws: a text of which calls are used, and of the state behind them. -/
namespace Go.Proofs.PanK
open Go.Vs
open Go.Lib (itoa decDigits)

/-! ### Numerals -/
def valD (l : List UInt8) : Nat := l.foldl (fun a d => 10 * a + (d.toNat - 48)) 0
theorem valD_snoc (l : List UInt8) (d : UInt8) : valD (l ++ [d]) = 10 * valD l + (d.toNat - 48) := by simp [valD]
theorem ofNat_digit {k : Nat} (h : k < 10) : (UInt8.ofNat (48 + k)).toNat = 48 + k := by
  simp [UInt8.toNat_ofNat']; omega
theorem valD_dec (u : Nat) : valD (decDigits u) = u := by
  induction u using Nat.strongRecOn with
  | _ u ih =>
    rw [decDigits]
    by_cases h : u < 10
    · rw [dif_pos h]
      show 10 * 0 + ((UInt8.ofNat (48 + u)).toNat - 48) = u
      rw [ofNat_digit h]; omega
    · rw [dif_neg h, valD_snoc, ih (u / 10) (by omega), ofNat_digit (by omega)]; omega
theorem dec_ge (u : Nat) : ∀ d ∈ decDigits u, 48 ≤ d.toNat ∧ d.toNat ≤ 57 := by
  induction u using Nat.strongRecOn with
  | _ u ih =>
    rw [decDigits]
    by_cases h : u < 10
    · rw [dif_pos h]
      intro d hd
      rw [List.mem_singleton] at hd
      rw [hd, ofNat_digit h]; omega
    · rw [dif_neg h]
      intro d hd
      rcases List.mem_append.1 hd with h1 | h1
      · exact ih (u / 10) (by omega) d h1
      · rw [List.mem_singleton] at h1
        rw [h1, ofNat_digit (by omega)]; omega
theorem dec_ne (u : Nat) : decDigits u ≠ [] := by
  rw [decDigits]
  by_cases h : u < 10
  · rw [dif_pos h]; exact fun e => by cases e
  · rw [dif_neg h]; exact fun e => by simp at e
theorem itoa_sep (n : Int) : ∀ d ∈ itoa n, d ≠ 32 := by
  intro d hd e
  subst e
  unfold itoa at hd
  split at hd
  · rcases List.mem_cons.1 hd with h | h
    · exact absurd h (by decide)
    · exact absurd (dec_ge _ _ h).1 (by decide)
  · exact absurd (dec_ge _ _ hd).1 (by decide)
theorem dec_inj {u v : Nat} (h : decDigits u = decDigits v) : u = v := by rw [← valD_dec u, h, valD_dec]
theorem itoa_inj {m n : Int} (h : itoa m = itoa n) : m = n := by
  have key : ∀ u v : Nat, 45 :: decDigits u ≠ decDigits v := fun u v e => by
    have := (dec_ge v 45 (by rw [← e]; exact List.mem_cons_self ..)).1
    exact absurd this (by decide)
  unfold itoa at h
  split at h <;> split at h
  · have := dec_inj (List.cons.inj h).2; omega
  · exact absurd h (key _ _)
  · exact absurd h.symm (key _ _)
  · have := dec_inj h; omega

/-! ### Tokens -/
def toks (ns : List Int) : List UInt8 := ns.flatMap fun n => 32 :: itoa n
theorem split_sep : ∀ (a b x y : List UInt8), (∀ d ∈ a, d ≠ 32) → (∀ d ∈ b, d ≠ 32) → (x = [] ∨ ∃ r, x = 32 :: r) → (y = [] ∨ ∃ r, y = 32 :: r) → a ++ x = b ++ y → a = b ∧ x = y
  | [], [], x, y, _, _, _, _, h => ⟨rfl, h⟩
  | [], b :: bs, x, y, _, hb, hx, _, h => by
    rcases hx with rfl | ⟨r, rfl⟩
    · cases h
    · have := (List.cons.inj h).1
      exact absurd this.symm (hb b (List.mem_cons_self ..))
  | a :: as', [], x, y, ha, _, _, hy, h => by
    rcases hy with rfl | ⟨r, rfl⟩
    · cases h
    · have := (List.cons.inj h).1
      exact absurd this (ha a (List.mem_cons_self ..))
  | a :: as', b :: bs, x, y, ha, hb, hx, hy, h => by
    obtain ⟨h1, h2⟩ := List.cons.inj h
    obtain ⟨h3, h4⟩ := split_sep as' bs x y (fun d hd => ha d (List.mem_cons_of_mem _ hd)) (fun d hd => hb d (List.mem_cons_of_mem _ hd)) hx hy h2
    exact ⟨by rw [h1, h3], h4⟩
theorem toks_form (ns : List Int) : toks ns = [] ∨ ∃ r, toks ns = 32 :: r := by
  cases ns with
  | nil => exact .inl rfl
  | cons n r => exact .inr ⟨itoa n ++ toks r, by simp [toks]⟩
theorem toks_inj : ∀ (ns ms : List Int), toks ns = toks ms → ns = ms
  | [], [], _ => rfl
  | [], m :: ms, h => by simp [toks] at h
  | n :: ns, [], h => by simp [toks] at h
  | n :: ns, m :: ms, h => by
    have e : ∀ (k : Int) (ks : List Int), toks (k :: ks) = 32 :: (itoa k ++ toks ks) := fun k ks => by simp [toks]
    rw [e, e] at h
    obtain ⟨h1, h2⟩ := split_sep _ _ _ _ (itoa_sep n) (itoa_sep m) (toks_form ns) (toks_form ms) (List.cons.inj h).2
    rw [itoa_inj h1, toks_inj ns ms h2]

theorem flatMap_inj {α β : Type} (f : α → List β) (k : Nat) (hk : ∀ x, (f x).length = k) : ∀ (L M : List α), L.length = M.length → L.flatMap f = M.flatMap f → ∀ i, i < L.length → ∀ [Inhabited α], f (L.getD i default) = f (M.getD i default)
  | [], _, _, _, i, hi, _ => absurd hi (Nat.not_lt_zero i)
  | x :: L, [], h, _, _, _, _ => by simp at h
  | x :: L, y :: M, h, he, i, hi, inh => by
    simp only [List.flatMap_cons] at he
    obtain ⟨h1, h2⟩ := List.append_inj he (by rw [hk, hk])
    cases i with
    | zero => exact h1
    | succ i => exact flatMap_inj f k hk L M (by simpa using h) h2 i (by simpa using hi)
theorem flatMap_len {α β : Type} (f : α → List β) (k : Nat) (hk : ∀ x, (f x).length = k) (L : List α) : (L.flatMap f).length = k * L.length := by
  induction L with
  | nil => rfl
  | cons x L ih => rw [List.flatMap_cons, List.length_append, hk, ih, List.length_cons, Nat.mul_add]; omega

/-! ### The key -/
def dNums (d : MapDisk) : List Int := [d.Id, d.Size, d.Epoch]
def pNums (p : BlkPiece) : List Int := [p.Disk, p.Block, p.Epoch, p.Data]
def keyNums (m : HistState) : List Int := [m.Next, m.Servers, ((m.Disks.length : Nat) : Int)] ++ m.Disks.flatMap dNums ++ m.Pieces.flatMap pNums
def bitL (u : List Bool) : List UInt8 := u.map fun b => cond b 49 48
def keyB (u : List Bool) (m : HistState) : List UInt8 := bitL u ++ toks (keyNums m)
def nums8 (l : List UInt8) : List Int := l.map fun b => (b.toNat : Int)
def keyS (u : List Bool) (m : HistState) : ByteArray := strOfNums (nums8 (keyB u m))

theorem nums8_str (l : List UInt8) : (strOfNums (nums8 l)).data.toList = l := by
  rw [strOfNums_data]
  unfold nums8
  rw [List.map_map]
  refine (List.map_congr_left (g := id) fun b _ => ?_).trans (List.map_id l)
  show UInt8.ofNat (b.toNat : Int).toNat = b
  simp

theorem getD_ext {α : Type} [Inhabited α] {L M : List α} (hl : L.length = M.length) (h : ∀ i, i < L.length → L.getD i default = M.getD i default) : L = M := by
  apply List.ext_getElem hl
  intro i h1 h2
  have := h i h1
  rw [List.getD_eq_getElem?_getD, List.getD_eq_getElem?_getD, List.getElem?_eq_getElem h1, List.getElem?_eq_getElem h2] at this
  exact this

theorem keyNums_inj {m m' : HistState} (h : StOk m) (h' : StOk m') (e : keyNums m = keyNums m') : m = m' := by
  unfold keyNums at e
  rw [List.append_assoc, List.append_assoc] at e
  obtain ⟨e1, e2⟩ := List.append_inj e rfl
  simp only [List.cons.injEq, and_true] at e1
  obtain ⟨e3, e4, e5⟩ := e1
  have hlen : m.Disks.length = m'.Disks.length := by omega
  obtain ⟨e6, e7⟩ := List.append_inj e2 (by rw [flatMap_len dNums 3 (fun _ => rfl), flatMap_len dNums 3 (fun _ => rfl), hlen])
  have hplen : m.Pieces.length = m'.Pieces.length := by
    have := congrArg List.length e7
    rw [flatMap_len pNums 4 (fun _ => rfl), flatMap_len pNums 4 (fun _ => rfl)] at this
    omega
  have hD : m.Disks = m'.Disks := getD_ext hlen fun i hi => by
    have h1 := flatMap_inj dNums 3 (fun _ => rfl) _ _ hlen e6 i hi
    have d1 := h.disks i hi
    have d2 := h'.disks i (by omega)
    generalize m.Disks.getD i default = a at *
    generalize m'.Disks.getD i default = b at *
    obtain ⟨_, _, _, _, _, _, _⟩ := a
    obtain ⟨_, _, _, _, _, _, _⟩ := b
    simp only [dNums, List.cons.injEq, and_true] at h1
    have q1 := d1.frozen; have q2 := d1.client; have q3 := d1.call; have q4 := d1.acks
    have r1 := d2.frozen; have r2 := d2.client; have r3 := d2.call; have r4 := d2.acks
    simp only at q1 q2 q3 q4 r1 r2 r3 r4
    rw [q1, q2, q3, q4, r1, r2, r3, r4, h1.1, h1.2.1, h1.2.2]
  have hP : m.Pieces = m'.Pieces := getD_ext hplen fun i hi => by
    have h1 := flatMap_inj pNums 4 (fun _ => rfl) _ _ hplen e7 i hi
    generalize m.Pieces.getD i default = a at *
    generalize m'.Pieces.getD i default = b at *
    obtain ⟨_, _, _, _⟩ := a
    obtain ⟨_, _, _, _⟩ := b
    simp only [pNums, List.cons.injEq, and_true] at h1
    rw [h1.1, h1.2.1, h1.2.2.1, h1.2.2.2]
  obtain ⟨_, _, _, _⟩ := m
  obtain ⟨_, _, _, _⟩ := m'
  simp only at e3 e4 hD hP
  rw [e3, e4, hD, hP]

theorem bitL_inj : ∀ (u v : List Bool), bitL u = bitL v → u = v
  | [], [], _ => rfl
  | [], _ :: _, h => by simp [bitL] at h
  | _ :: _, [], h => by simp [bitL] at h
  | a :: u, b :: v, h => by
    simp only [bitL, List.map_cons, List.cons.injEq] at h
    have h1 : a = b := by cases a <;> cases b <;> first | rfl | (exact absurd h.1 (by decide))
    rw [h1, bitL_inj u v h.2]

theorem keyS_inj {u v : List Bool} {m m' : HistState} (hl : u.length = v.length) (h : StOk m) (h' : StOk m') (e : keyS u m = keyS v m') : u = v ∧ m = m' := by
  have e1 : keyB u m = keyB v m' := by
    rw [← nums8_str (keyB u m), ← nums8_str (keyB v m')]
    exact congrArg (fun s => s.data.toList) e
  obtain ⟨e2, e3⟩ := List.append_inj e1 (by simp [bitL, hl])
  exact ⟨bitL_inj u v e2, keyNums_inj h h' (toks_inj _ _ e3)⟩

/-! ### The function that makes it -/
theorem take_succ_getD {α : Type} [Inhabited α] {L : List α} {i : Nat} (h : i < L.length) : L.take (i + 1) = L.take i ++ [L.getD i default] := by
  rw [List.take_add_one, List.getD_eq_getElem?_getD, List.getElem?_eq_getElem h]; rfl
/-- A loop that appends. -/
theorem loopN_app {α β R : Type} [Inhabited α] {body : Nat → List β → (List β → Option R) → Option R} {after : List β → Option R} {r : Option R} (L : List α) (f : α → List β) (k : Nat) (hk : ∀ x ∈ L, (f x).length ≤ k) {v : List β}
    (hb : ∀ i (a : List β) κ, i < L.length → a.length ≤ v.length + k * i → body i a κ = κ (a ++ f (L.getD i default))) (hf : after (v ++ L.flatMap f) = r) : loopN body after L.length 0 v = r := by
  refine loopN_eq (fun i (a : List β) => a = v ++ (L.take i).flatMap f ∧ a.length ≤ v.length + k * i) ⟨by simp, by simp⟩ (fun i a κ _ hi ⟨h1, h2⟩ => ⟨_, ⟨?_, ?_⟩, hb i a κ (by omega) h2⟩) (fun a ⟨h1, _⟩ => ?_)
  · rw [h1, take_succ_getD (by omega), List.flatMap_append, List.append_assoc]; simp
  · have : (f (L.getD i default)).length ≤ k := hk _ (by
      rw [List.getD_eq_getElem?_getD, List.getElem?_eq_getElem (show i < L.length by omega)]
      exact List.getElem_mem _)
    rw [List.length_append, Nat.mul_add]; omega
  · rw [h1, Nat.zero_add, List.take_length]; exact hf

theorem okI_small {n : Int} (h : -100000 ≤ n ∧ n ≤ 1000000) : -9223372036854775808 ≤ n ∧ n ≤ 9223372036854775807 := by omega

theorem pieces_facts {m : HistState} (h : StOk m) : m.Pieces.length ≤ 60 ∧ ∀ i, i < m.Pieces.length → pieceB (m.Pieces.getD i default) = true := by
  have hp := h.pieces
  refine ⟨blkB_len hp, fun i hi => ?_⟩
  unfold blkB at hp
  rw [Bool.and_eq_true] at hp
  have := (allN_iff _ _ _).1 hp.2 i (Nat.zero_le _) (by omega)
  unfold pieceAt at this
  rw [Bool.and_eq_true] at this
  exact this.1
theorem mem_getD {α : Type} [Inhabited α] {L : List α} {x : α} (h : x ∈ L) : ∃ i, i < L.length ∧ L.getD i default = x := by
  obtain ⟨i, hi, e⟩ := List.mem_iff_getElem.1 h
  exact ⟨i, hi, by rw [List.getD_eq_getElem?_getD, List.getElem?_eq_getElem hi]; exact e⟩
theorem keyNums_ok {m : HistState} (h : StOk m) : (keyNums m).length ≤ 255 ∧ ∀ n ∈ keyNums m, -100000 ≤ n ∧ n ≤ 1000000 := by
  have hl := h.len
  obtain ⟨p1, p2⟩ := pieces_facts h
  refine ⟨?_, fun n hn => ?_⟩
  · unfold keyNums
    rw [List.length_append, List.length_append, flatMap_len dNums 3 (fun _ => rfl), flatMap_len pNums 4 (fun _ => rfl)]
    simp only [List.length_cons, List.length_nil]
    omega
  · unfold keyNums at hn
    have hnx := h.next
    have hsv := h.servers
    rcases List.mem_append.1 hn with hn | hn
    · rcases List.mem_append.1 hn with hn | hn
      · simp only [List.mem_cons, List.not_mem_nil, or_false] at hn
        omega
      · obtain ⟨d, hd, hn⟩ := List.mem_flatMap.1 hn
        obtain ⟨i, hi, rfl⟩ := mem_getD hd
        have d1 := h.disks i hi
        have := d1.id; have := d1.size; have := d1.epoch
        simp only [dNums, List.mem_cons, List.not_mem_nil, or_false] at hn
        omega
    · obtain ⟨d, hd, hn⟩ := List.mem_flatMap.1 hn
      obtain ⟨i, hi, rfl⟩ := mem_getD hd
      have := p2 i hi
      unfold pieceB at this
      simp only [Bool.and_eq_true] at this
      have q1 := inB_of this.1; have q2 := inB_of this.2.1; have q3 := inB_of this.2.2.1; have q4 := inB_of this.2.2.2
      simp only [pNums, List.mem_cons, List.not_mem_nil, or_false] at hn
      omega

theorem i_histKey_eq (u : List Bool) (m : HistState) (hu : u.length ≤ 10) (h : StOk m) : i_histKey u m = some (keyS u m) := by
  have hl := h.len
  obtain ⟨p1, p2⟩ := pieces_facts h
  obtain ⟨k1, k2⟩ := keyNums_ok h
  unfold i_histKey
  refine loopN_app u (fun b => [cond b 49 48]) 1 (fun _ _ => Nat.le_refl _) (fun i a κ hi ha => ?_) ?_
  · simp only [List.length_nil] at ha
    rw [ck_pos (by omega), ck_pos (by omega)]
    cases u.getD i default <;> rfl
  refine loopN_app m.Disks dNums 3 (fun _ _ => Nat.le_refl _) (fun i a κ hi ha => ?_) ?_
  · simp only [List.length_cons, List.length_nil] at ha
    simp only [lt_eq]
    rw [ck_pos (by omega)]; rfl
  refine loopN_app m.Pieces pNums 4 (fun _ _ => Nat.le_refl _) (fun i a κ hi ha => ?_) ?_
  · have h3 : a.length ≤ 15 + 4 * i := by
      rw [List.length_append, flatMap_len dNums 3 (fun _ => rfl)] at ha
      simp only [List.length_cons, List.length_nil] at ha
      omega
    simp only [lt_eq]
    rw [ck_pos (by omega)]; rfl
  show loopN _ _ (keyNums m).length 0 _ = _
  refine loopN_app (keyNums m) (fun n => nums8 (32 :: itoa n)) 30 (fun n hn => ?_) (fun i a κ hi ha => ?_) ?_
  · have := Go.Lib.itoa_length_le n (okI_small (k2 n hn)).1 (okI_small (k2 n hn)).2
    unfold nums8
    rw [List.length_map, List.length_cons]; omega
  · have h3 : a.length ≤ 10 + 30 * i := by
      simp only [List.nil_append, flatMap_len (fun b : Bool => [(cond b 49 48 : Int)]) 1 (fun _ => rfl)] at ha
      omega
    have hn := okI_small (k2 ((keyNums m).getD i default) (by
      rw [List.getD_eq_getElem?_getD, List.getElem?_eq_getElem hi]
      exact List.getElem_mem _))
    rw [ck_pos (by omega)]
    unfold g_appendInt appNum
    rw [ck_pos ⟨rfl, hn, by rw [List.length_append]; simp only [List.length_cons, List.length_nil]; omega⟩]
    show κ _ = κ _
    congr 1
    show (a ++ [32]) ++ nums8 (itoa ((keyNums m).getD i default)) = _
    rw [List.append_assoc]
    rfl
  · show some (strOfNums _) = some (strOfNums (nums8 (bitL u ++ toks (keyNums m))))
    congr 2
    have e1 : u.flatMap (fun b => [(cond b 49 48 : Int)]) = nums8 (bitL u) := by
      unfold nums8 bitL
      rw [List.map_map]
      induction u with
      | nil => rfl
      | cons b u ih => rw [List.flatMap_cons, List.map_cons, ih (by simp only [List.length_cons] at hu; omega)]; cases b <;> rfl
    have e2 : ∀ ns : List Int, ns.flatMap (fun n => nums8 (32 :: itoa n)) = nums8 (toks ns) := fun ns => by
      induction ns with
      | nil => rfl
      | cons n ns ih =>
        rw [List.flatMap_cons, ih]
        show nums8 (32 :: itoa n) ++ nums8 (toks ns) = nums8 ((32 :: itoa n) ++ toks ns)
        unfold nums8; rw [List.map_append]
    rw [e2, List.nil_append, e1]
    unfold nums8
    rw [List.map_append]
end Go.Proofs.PanK

/-! Plain laws: the search. -/
namespace Go.Proofs.PanK
open Go.Vs

theorem count_set : ∀ (u : List Bool) (k : Nat), k < u.length → u.getD k default = false → (u.set k true).count false + 1 = u.count false
  | [], _, h, _ => by simp at h
  | b :: u, 0, _, h => by simp at h; subst h; simp
  | b :: u, k + 1, h, h2 => by
    have := count_set u k (by simpa using h) (by simpa using h2)
    simp only [List.set_cons_succ, List.count_cons]
    omega
theorem set_back {u : List Bool} {k : Nat} (h : u.getD k default = false) : (u.set k true).set k false = u := by
  rw [List.set_set]
  have := set_self u k
  rw [h] at this
  exact this

theorem calls_facts {L : List PanCall} (h : callsB L = true) : L.length ≤ 10 ∧ ∀ i, i < L.length → selfB (L.getD i default) = true := by
  unfold callsB at h
  rw [Bool.and_eq_true] at h
  refine ⟨of_decide_eq_true h.1, fun i hi => ?_⟩
  have := (allN_iff _ _ _).1 h.2 i (Nat.zero_le _) (by omega)
  rw [Bool.and_eq_true] at this
  unfold callB at this
  rw [Bool.and_eq_true] at this
  exact this.1.1
theorem self_end {c : PanCall} (h : selfB c = true) : 0 ≤ c.End ∧ decide ((0 : Int) < c.End) = !decide (c.End = 0) := by
  unfold selfB at h
  simp only [Bool.and_eq_true] at h
  obtain ⟨_, _, _, _, _, _, c7, c8⟩ := h
  have c7 := inB_of c7
  unfold endB at c8
  by_cases h0 : c.End = 0
  · rw [decide_eq_true h0, decide_eq_false (by omega)]; exact ⟨by omega, rfl⟩
  · rw [decide_eq_false h0, cond_false] at c8
    simp only [Bool.and_eq_true] at c8
    have := inB_of c8.2.1
    rw [decide_eq_false h0, decide_eq_true (by omega)]; exact ⟨by omega, rfl⟩

/-- None that is left had ended when it began. -/
def mayB (L : List PanCall) (u : List Bool) (k i : Nat) : Bool := u.getD i default || (decide (i = k) || (decide ((L.getD i default).End = 0) || !decide ((L.getD i default).End < (L.getD k default).Begin)))
def mayF (L : List PanCall) (u : List Bool) (k : Nat) : Bool := allN (mayB L u k) L.length 0 && !u.getD k default
theorem dec_cast (i k : Nat) : decide (((i : Nat) : Int) = ((k : Nat) : Int)) = decide (i = k) := by
  by_cases h : i = k
  · rw [decide_eq_true h, decide_eq_true (by omega)]
  · rw [decide_eq_false h, decide_eq_false (by omega)]

section
variable {L : List PanCall} (hl : L.length ≤ 10) (hc : ∀ i, i < L.length → selfB (L.getD i default) = true)
include hc
theorem s_l63May_eq (u : List Bool) (k : Nat) (hu : u.length = L.length) (hk : k < L.length) : s_l63May L u k = some (mayF L u k) := by
  unfold s_l63May
  refine (loopN_all (r0 := some false) (mayB L u k) L.length 0 (fun i κ _ hi => ?_)).trans ?_
  · simp only [ix_nat (show i < u.length by omega), ix_nat hk, cond_not]
    rw [(self_end (hc i (by omega))).2, dec_cast]
    unfold mayB
    cases u.getD i default <;> cases decide (i = k) <;> cases decide ((L.getD i default).End = 0) <;> cases decide ((L.getD i default).End < (L.getD k default).Begin) <;> rfl
  · rw [ix_nat (by omega)]
    unfold mayF
    cases allN (mayB L u k) L.length 0 <;> rfl
omit hc in
theorem i_next_eq (D : List (ByteArray × Bool)) (u : List Bool) (k : Nat) (hu : u.length = L.length) (hk : k < L.length) : i_search_next ⟨L, D⟩ u k = some (mayF L u k, ⟨L, D⟩, u) := by
  unfold i_search_next
  rw [ix_nat (by omega)]
  simp only [Int.toNat_natCast]
  have hloop : ∀ (body : Nat → Unit → (Unit → Option (Bool × search × List Bool)) → Option (Bool × search × List Bool)) after, (∀ i κ, 0 ≤ i → i < 0 + L.length → body i () κ = cond (mayB L u k i) (κ ()) (some (false, ⟨L, D⟩, u))) →
      loopN body after L.length 0 () = cond (allN (mayB L u k) L.length 0) (after ()) (some (false, ⟨L, D⟩, u)) := fun body after h => loopN_all (mayB L u k) L.length 0 h
  rw [hloop]
  · unfold mayF
    cases u.getD k default <;> cases allN (mayB L u k) L.length 0 <;> rfl
  · intro i κ _ hi
    simp only [lt_eq, cond_not]
    rw [ix_nat (show i < u.length by omega), ix_nat hk, dec_cast]
    unfold mayB
    cases u.getD i default <;> cases decide (i = k) <;> cases decide ((L.getD i default).End = 0) <;> cases decide ((L.getD i default).End < (L.getD k default).Begin) <;> rfl
end

/-! ### The search, in plain words -/
def firstN {β : Type} (f : Nat → Option β) : Nat → Nat → Option β
  | 0, _ => none
  | d + 1, i => match f i with
    | some r => some r
    | none => firstN f d (i + 1)
theorem loopN_first {σ β R : Type} {body : Nat → σ → (σ → Option R) → Option R} {after : σ → Option R} (f : Nat → Option β) (I : σ → Prop) (G : β → σ → R) : ∀ (d i0 : Nat) (a : σ), I a →
    (∀ i a κ, i0 ≤ i → i < i0 + d → I a → ∃ a', I a' ∧ body i a κ = match f i with | some r => some (G r a') | none => κ a') →
    ∃ a', I a' ∧ loopN body after d i0 a = match firstN f d i0 with | some r => some (G r a') | none => after a'
  | 0, _, a, h, _ => ⟨a, h, rfl⟩
  | d + 1, i0, a, h, hb => by
    obtain ⟨a', h1, h2⟩ := hb i0 a (loopN body after d (i0 + 1)) (Nat.le_refl _) (by omega) h
    show ∃ a', I a' ∧ body i0 a (loopN body after d (i0 + 1)) = _
    rw [h2]
    cases hf : f i0 with
    | some r => exact ⟨a', h1, by simp only [firstN, hf]⟩
    | none =>
      obtain ⟨a2, h3, h4⟩ := loopN_first f I G d (i0 + 1) a' h1 (fun i a κ h5 h6 h7 => hb i a κ (by omega) (by omega) h7)
      exact ⟨a2, h3, by simp only [firstN, hf]; exact h4⟩

def fitF (m : HistState) (c : PanCall) : HistState × Bool := (i_does m c).getD default
def leftF (L : List PanCall) (u : List Bool) : Bool := !allN (fun i => u.getD i default || decide ((L.getD i default).End = 0)) L.length 0
def stepF (L : List PanCall) (rec : List Bool → HistState → Option (List Int)) (u : List Bool) (m : HistState) (i : Nat) : Option (List Int) :=
  bif mayF L u i && (fitF m (L.getD i default)).2 then (rec (u.set i true) (fitF m (L.getD i default)).1).map (fun r => (i : Int) :: r) else none
def srchF (L : List PanCall) : Nat → List Bool → HistState → Option (List Int)
  | 0, _, _ => none
  | k + 1, u, m => bif leftF L u then firstN (stepF L (srchF L k) u m) L.length 0 else some []
theorem firstN_ex {β : Type} {f : Nat → Option β} {r : β} : ∀ {d i : Nat}, firstN f d i = some r → ∃ j, f j = some r
  | 0, _, h => by cases h
  | d + 1, i, h => by
    simp only [firstN] at h
    cases hf : f i with
    | some r' => rw [hf] at h; cases h; exact ⟨i, hf⟩
    | none => rw [hf] at h; exact firstN_ex h
theorem srchF_len (L : List PanCall) : ∀ (k : Nat) (u : List Bool) (m : HistState) (r : List Int), srchF L k u m = some r → r.length ≤ k
  | 0, _, _, _, h => by cases h
  | k + 1, u, m, r, h => by
    simp only [srchF] at h
    cases hb : leftF L u with
    | false => rw [hb] at h; cases h; simp
    | true =>
      rw [hb] at h
      obtain ⟨j, hj⟩ := firstN_ex h
      unfold stepF at hj
      cases hm : (mayF L u j && (fitF m (L.getD j default)).2) with
      | false => rw [hm] at hj; cases hj
      | true =>
        rw [hm] at hj
        obtain ⟨r', h1, rfl⟩ := Option.map_eq_some_iff.1 hj
        have := srchF_len L k _ _ r' h1
        simp only [List.length_cons]; omega

theorem fits_fit {m : HistState} (h : StOk m) (c : PanCall) (hc : selfB c = true) : s_l63Fits m c = some (fitF m c) ∧ i_does m c = some (fitF m c) ∧ StOk (fitF m c).1 := by
  obtain ⟨r, h1, h2, h3⟩ := fits_eq h c hc
  have e : fitF m c = r := by unfold fitF; rw [h2]; rfl
  rw [e]
  exact ⟨h1, h2, h3⟩

theorem allN_snoc (p : Nat → Bool) : ∀ d i, allN p (d + 1) i = (allN p d i && p (i + d))
  | 0, i => by simp [allN]
  | d + 1, i => by
    show (p i && allN p (d + 1) (i + 1)) = (p i && allN p d (i + 1) && p (i + (d + 1)))
    rw [allN_snoc p d (i + 1), Bool.and_assoc, show i + 1 + d = i + (d + 1) by omega]

section
variable {L : List PanCall} (hl : L.length ≤ 10) (hc : ∀ i, i < L.length → selfB (L.getD i default) = true)
include hl hc

theorem s_search_eq : ∀ (k : Nat) (u : List Bool) (m : HistState) (done : List Int), u.length = L.length → StOk m → u.count false + 1 = k → done.length + u.count false ≤ 10 →
    s_l63Search k L u m done = some (match srchF L k u m with | some r => (done ++ r, true) | none => ([], false))
  | 0, _, _, _, _, _, h, _ => by omega
  | k + 1, u, m, done, hu, hm, hk, hd => by
    simp only [s_l63Search, s_l63Search_b, srchF]
    refine loopN_eq (fun i (v : Bool) => v = !allN (fun i => u.getD i default || decide ((L.getD i default).End = 0)) i 0) rfl (fun i v κ _ hi hv => ⟨_, rfl, ?_⟩) (fun v hv => ?_)
    · rw [ix_nat (by omega), (self_end (hc i (by omega))).2, allN_snoc, Nat.zero_add, hv]
      cases allN (fun i => u.getD i default || decide ((L.getD i default).End = 0)) i 0 <;> cases u.getD i default <;> rfl
    rw [Nat.zero_add] at hv
    have hv' : v = leftF L u := hv
    rw [hv']
    cases leftF L u with
    | false => simp only [Bool.not_false, cond_true, cond_false, List.append_nil]
    | true =>
      simp only [Bool.not_true, cond_false, cond_true]
      obtain ⟨a', _, h2⟩ := loopN_first (R := List Int × Bool) (after := fun (_ : Unit) => some (([] : List Int), false)) (stepF L (srchF L k) u m) (fun _ => True) (fun r _ => (done ++ r, true)) L.length 0 () trivial
        (body := fun i13 (v20 : Unit) κ21 => (s_l63May L u ((i13 : Nat) : Int)).bind (fun y23 => cond (!y23) (κ21 ()) (lt (L.getD i13 default) (fun x24 => (s_l63Fits m x24).bind (fun y25 => cond (!y25.2) (κ21 ()) (ck ((0 + u.length) * 1 ≤ 140737488355328) (ix (([] : List Bool) ++ u) ((i13 : Nat) : Int) (fun _ => lt ((([] : List Bool) ++ u).set i13 true) (fun r26 => ck ((0 + done.length) * 8 ≤ 140737488355328) (ck (((0 + done.length) + 1) * 8 ≤ 140737488355328) ((s_l63Search k L r26 y25.1 ((([] : List Int) ++ done) ++ ([((i13 : Nat) : Int)] : List Int))).bind (fun y27 => cond y27.2 (some (y27.1, true)) (κ21 ()))))))))))))) (fun i a κ _ hi _ => ⟨(), trivial, by
          rw [s_l63May_eq hc u i hu (by omega)]
          obtain ⟨f1, _, f3⟩ := fits_fit hm (L.getD i default) (hc i (by omega))
          simp only [Option.bind_some, lt_eq]
          rw [f1]
          simp only [Option.bind_some, List.nil_append]
          unfold stepF
          cases hmay : mayF L u i with
          | false => rfl
          | true =>
            have hui : u.getD i default = false := by
              unfold mayF at hmay
              rw [Bool.and_eq_true, Bool.not_eq_true'] at hmay
              exact hmay.2
            have hcnt := count_set u i (by omega) hui
            cases hfit : (fitF m (L.getD i default)).2 with
            | false => rfl
            | true =>
              rw [ck_pos (by omega), ix_nat (by omega), ck_pos (by omega), ck_pos (by omega), s_search_eq k (u.set i true) _ (done ++ [(i : Int)]) (by simpa using hu) f3 (by omega) (by simp only [List.length_append, List.length_cons, List.length_nil]; omega)]
              simp only [Bool.not_true, cond_false, Bool.true_and, cond_true, Option.bind_some]
              cases srchF L k (u.set i true) (fitF m (L.getD i default)).1 with
              | none => rfl
              | some r => simp⟩)
      refine h2.trans ?_
      cases firstN (stepF L (srchF L k) u m) L.length 0 <;> rfl

/-- What the table of keys says: from there nothing is found. -/
def Good (L : List PanCall) (D : List (ByteArray × Bool)) : Prop := ∀ key, findS D key = true → ∃ u m, u.length = L.length ∧ StOk m ∧ key = keyS u m ∧ srchF L (u.count false + 1) u m = none
omit hl hc in
theorem ba_eq {a b : ByteArray} (h : (a == b) = true) : a = b := by
  obtain ⟨a⟩ := a
  obtain ⟨b⟩ := b
  have : (a == b) = true := h
  rw [eq_of_beq this]
omit hl hc in
theorem find_put (D : List (ByteArray × Bool)) (k k' : ByteArray) (h : findS (putS D k true) k' = true) : k' = k ∨ findS D k' = true := by
  induction D with
  | nil =>
    simp only [putS, findS] at h
    cases he : (k' == k) with
    | true => exact .inl (ba_eq he)
    | false => rw [he] at h; cases h
  | cons p D ih =>
    simp only [putS] at h
    cases hk : (k == p.1) with
    | true =>
      rw [hk] at h
      simp only [cond_true, findS] at h
      cases he : (k' == p.1) with
      | true => exact .inl ((ba_eq he).trans (ba_eq hk).symm)
      | false => rw [he] at h; right; simp only [findS, he]; exact h
    | false =>
      rw [hk] at h
      simp only [cond_false, findS] at h
      cases he : (k' == p.1) with
      | true => rw [he] at h; right; simp only [findS, he]; exact h
      | false =>
        rw [he] at h
        rcases ih h with h1 | h1
        · exact .inl h1
        · right; simp only [findS, he]; exact h1

theorem i_find_eq : ∀ (k : Nat) (u : List Bool) (m : HistState) (order : List Int) (D : List (ByteArray × Bool)), u.length = L.length → StOk m → u.count false + 1 = k → order.length + u.count false ≤ 10 → Good L D →
    ∃ D', Good L D' ∧ i_search_find k ⟨L, D⟩ m u order = some (match srchF L k u m with | some r => (order ++ r, true, ⟨L, D'⟩, u) | none => ([], false, ⟨L, D'⟩, u))
  | 0, _, _, _, _, _, _, h, _, _ => by omega
  | k + 1, u, m, order, D, hu, hm, hk, hd, hD => by
    simp only [i_search_find, i_search_find_b, srchF]
    have hfirst : ∀ {R : Type} (body : Nat → Bool → (Bool → Option R) → Option R) (after : Bool → Option R), (∀ i (v : Bool) κ, i < L.length → body i v κ = κ (v || (!u.getD i default && !decide ((L.getD i default).End = 0)))) → loopN body after L.length 0 false = after (leftF L u) := fun body after hb =>
      loopN_eq (fun i (v : Bool) => v = !allN (fun i => u.getD i default || decide ((L.getD i default).End = 0)) i 0) rfl (fun i v κ _ hi hv => ⟨_, by
        rw [allN_snoc, Nat.zero_add, hv]
        show _ = !(allN _ i 0 && (u.getD i default || decide ((L.getD i default).End = 0)))
        cases allN (fun i => u.getD i default || decide ((L.getD i default).End = 0)) i 0 <;> cases u.getD i default <;> cases decide ((L.getD i default).End = 0) <;> rfl, hb i v κ (by omega)⟩) (fun v hv => by rw [hv, Nat.zero_add]; rfl)
    rw [hfirst _ _ (fun i v κ hi => by
      simp only [lt_eq]
      rw [ix_nat (by omega)]
      cases v <;> cases u.getD i default <;> rfl)]
    cases hleft : leftF L u with
    | false => exact ⟨D, hD, by simp⟩
    | true =>
      simp only [Bool.not_true, cond_false, cond_true]
      rw [i_histKey_eq u m (by omega) hm]
      simp only [Option.bind_some]
      cases hfind : findS D (keyS u m) with
      | true =>
        obtain ⟨u', m', q1, q2, q3, q4⟩ := hD _ hfind
        obtain ⟨rfl, rfl⟩ := keyS_inj (by omega) hm q2 q3
        have : srchF L (k + 1) u m = none := by rw [← hk]; exact q4
        simp only [srchF, hleft, cond_true] at this
        rw [this]
        exact ⟨D, hD, rfl⟩
      | false =>
        simp only [cond_false]
        have hloop := loopN_first (R := List Int × Bool × search × List Bool) (after := fun (v31 : search × List Bool) => some (([] : List Int), false, ({ calls := v31.1.calls, tried := (putS v31.1.tried (keyS u m) true) } : search), v31.2)) (stepF L (srchF L k) u m) (fun v => ∃ D', Good L D' ∧ v = ((⟨L, D'⟩ : search), u)) (fun r v => (order ++ r, true, v.1, v.2)) L.length 0 (⟨L, D⟩, u) ⟨D, hD, rfl⟩
          (body := fun i12 (v31 : search × List Bool) κ32 => lt (L.getD i12 default) (fun x33 => (i_search_next v31.1 v31.2 ((i12 : Nat) : Int)).bind (fun y34 => cond (!y34.1) (κ32 (y34.2.1, y34.2.2)) ((i_does m x33).bind (fun y35 => cond (!y35.2) (κ32 (y34.2.1, y34.2.2)) (ix y34.2.2 ((i12 : Nat) : Int) (fun _ => lt (y34.2.2.set i12 true) (fun r36 => (i_copied_int order).bind (fun y37 => ck ((y37.length + 1) * 8 ≤ 140737488355328) ((i_search_find k y34.2.1 y35.1 r36 (y37 ++ ([((i12 : Nat) : Int)] : List Int))).bind (fun y38 => ix y38.2.2.2 ((i12 : Nat) : Int) (fun _ => lt (y38.2.2.2.set i12 false) (fun r39 => cond y38.2.1 (some (y38.1, true, y38.2.2.1, r39)) (κ32 (y38.2.2.1, r39)))))))))))))))
          (fun i a κ _ hi ⟨D1, hD1, ha⟩ => by
            subst ha
            obtain ⟨_, f2, f3⟩ := fits_fit hm (L.getD i default) (hc i (by omega))
            simp only [lt_eq]
            rw [i_next_eq D1 u i hu (by omega)]
            simp only [Option.bind_some]
            unfold stepF
            cases hmay : mayF L u i with
            | false => exact ⟨_, ⟨D1, hD1, rfl⟩, rfl⟩
            | true =>
              have hui : u.getD i default = false := by
                unfold mayF at hmay
                rw [Bool.and_eq_true, Bool.not_eq_true'] at hmay
                exact hmay.2
              have hcnt := count_set u i (by omega) hui
              rw [f2]
              simp only [Option.bind_some, Bool.not_true, cond_false, Bool.true_and]
              cases hfit : (fitF m (L.getD i default)).2 with
              | false => exact ⟨_, ⟨D1, hD1, rfl⟩, rfl⟩
              | true =>
                simp only [Bool.not_true, cond_false, cond_true]
                rw [ix_nat (by omega), i_copied_int_eq order (by omega)]
                simp only [Option.bind_some]
                rw [ck_pos (by omega)]
                obtain ⟨D2, hD2, e2⟩ := i_find_eq k (u.set i true) _ (order ++ [(i : Int)]) D1 (by simpa using hu) f3 (by omega) (by simp only [List.length_append, List.length_cons, List.length_nil]; omega) hD1
                rw [e2]
                refine ⟨_, ⟨D2, hD2, rfl⟩, ?_⟩
                cases srchF L k (u.set i true) (fitF m (L.getD i default)).1 with
                | none =>
                  simp only [Option.bind_some, Option.map_none]
                  rw [ix_nat (by simp; omega)]
                  simp only [cond_false, set_back hui]
                | some r =>
                  simp only [Option.bind_some, Option.map_some]
                  rw [ix_nat (by simp; omega)]
                  simp only [cond_true, set_back hui, List.append_assoc, List.cons_append, List.nil_append])
        obtain ⟨a', ⟨D1, hD1, ha⟩, h2⟩ := hloop
        subst ha
        cases hfn : firstN (stepF L (srchF L k) u m) L.length 0 with
        | some r =>
          rw [hfn] at h2
          exact ⟨D1, hD1, h2⟩
        | none =>
          rw [hfn] at h2
          refine ⟨putS D1 (keyS u m) true, fun key hkey => ?_, h2⟩
          rcases find_put _ _ _ hkey with h3 | h3
          · refine ⟨u, m, hu, hm, h3, ?_⟩
            rw [hk]
            simp only [srchF, hleft, cond_true]
            exact hfn
          · exact hD1 key h3
end

theorem stOk0 : StOk ({ Next := 1, Servers := 3, Disks := [], Pieces := [] } : HistState) :=
  ⟨⟨by decide, by decide⟩, ⟨by decide, by decide⟩, by decide, fun i hi => absurd hi (Nat.not_lt_zero i), fun i j _ hj => absurd hj (Nat.not_lt_zero j)⟩

theorem histOrder_eq (L : List PanCall) : ∃ r : List Int × Bool, s_HistOrder L = some r ∧ i_HistOrder L = some r ∧ r.1.length ≤ 100 := by
  unfold s_HistOrder i_HistOrder
  rw [s_l61CallsOk_eq, i_callsOk_eq]
  cases hcb : callsB L
  · exact ⟨([], false), rfl, rfl, by simp⟩
  obtain ⟨hl, hc⟩ := calls_facts hcb
  simp only [Option.bind_some, Bool.not_true, cond_false]
  simp only [ck_pos (show 0 ≤ ((L.length : Nat) : Int) ∧ ((L.length : Nat) : Int) * 1 ≤ 140737488355328 by omega)]
  simp only [i_HistStart, s_HistStart, Option.bind_some, List.length_replicate]
  have hcnt : (List.replicate L.length false).count false = L.length := by simp
  rw [s_search_eq hl hc (L.length + 1) (List.replicate L.length false) _ [] (by simp) stOk0 (by rw [hcnt]) (by rw [hcnt]; simpa using hl)]
  obtain ⟨D', _, e⟩ := i_find_eq hl hc (L.length + 1) (List.replicate L.length false) _ [] [] (by simp) stOk0 (by rw [hcnt]) (by rw [hcnt]; simpa using hl) (fun key h => by cases h)
  rw [e]
  have hlen := srchF_len L (L.length + 1) (List.replicate L.length false) ({ Next := 1, Servers := 3, Disks := [], Pieces := [] } : HistState)
  cases hs : srchF L (L.length + 1) (List.replicate L.length false) ({ Next := 1, Servers := 3, Disks := [], Pieces := [] } : HistState) with
  | none => exact ⟨([], false), rfl, rfl, by simp⟩
  | some r =>
    have h1 := hlen r hs
    refine ⟨(r, true), rfl, ?_, by simp only; omega⟩
    simp only [Option.bind_some, List.nil_append]
    rw [i_copied_int_eq r (by omega)]; rfl

/-- THE PLAIN LAW OF FnExactHistOk. -/
theorem law_HistOk (L : List PanCall) (hL : L.length ≤ 140737488355328) : l_FnExactHistOk L = some true := by
  unfold l_FnExactHistOk
  rw [l_szPanCallS_eq L hL]
  simp only [Option.bind_some]
  by_cases h2 : L.length ≤ 1048576
  · rw [if_pos h2, decide_eq_false (by omega), l_toPanCallS_eq L (by omega)]
    obtain ⟨r, hs, hi, _⟩ := histOrder_eq L
    unfold s_HistOk i_HistOk
    simp only [cond_false, Option.bind_some, hs, hi, l_eqPanCallS_eq]
    cases r.2 <;> rfl
  · rw [if_neg h2]; rfl
end Go.Proofs.PanK

/-! Plain laws: what is marked is held; HistOrder. -/
namespace Go.Proofs.PanK
open Go.Vs

theorem loopF_run {α R : Type} {body : α → (α → Option R) → Option R} {r : Option R} (n : Nat) (I : Nat → α → Prop) (hb : ∀ i a κ, i < n → I i a → ∃ a', I (i + 1) a' ∧ body a κ = κ a') (hf : ∀ a κ, I n a → body a κ = r) :
    ∀ (d i k : Nat) (a : α), i + d = n → d < k → I i a → loopF body k a = r
  | 0, i, k, a, h, hk, hI => by
    obtain ⟨k, rfl⟩ : ∃ m, k = m + 1 := ⟨k - 1, by omega⟩
    obtain rfl : i = n := by omega
    exact hf a _ hI
  | d + 1, i, k, a, h, hk, hI => by
    obtain ⟨k, rfl⟩ : ∃ m, k = m + 1 := ⟨k - 1, by omega⟩
    obtain ⟨a', h1, h2⟩ := hb i a (loopF body k) (by omega) hI
    show body a (loopF body k) = r
    rw [h2]
    exact loopF_run n I hb hf d (i + 1) k a' (by omega) (by omega) h1
/-- The same, where what comes out is known to be so alone. -/
theorem loopF_ex {α R : Type} {body : α → (α → Option R) → Option R} {Q : R → Prop} (n : Nat) (I : Nat → α → Prop) (hb : ∀ i a κ, i < n → I i a → ∃ a', I (i + 1) a' ∧ body a κ = κ a') (hf : ∀ a κ, I n a → ∃ r, body a κ = some r ∧ Q r) :
    ∀ (d i k : Nat) (a : α), i + d = n → d < k → I i a → ∃ r, loopF body k a = some r ∧ Q r
  | 0, i, k, a, h, hk, hI => by
    obtain ⟨k, rfl⟩ : ∃ m, k = m + 1 := ⟨k - 1, by omega⟩
    obtain rfl : i = n := by omega
    exact hf a _ hI
  | d + 1, i, k, a, h, hk, hI => by
    obtain ⟨k, rfl⟩ : ∃ m, k = m + 1 := ⟨k - 1, by omega⟩
    obtain ⟨a', h1, h2⟩ := hb i a (loopF body k) (by omega) hI
    show ∃ r, body a (loopF body k) = some r ∧ Q r
    rw [h2]
    exact loopF_ex n I hb hf d (i + 1) k a' (by omega) (by omega) h1
theorem lt_len {α σ R : Type} {L : List α} {n : Nat} {f : List α → Option R} {κ : σ → Option R} {Q : σ → Prop} (h : L.length = n) (H : ∀ M : List α, M.length = n → ∃ a, Q a ∧ f M = κ a) : ∃ a, Q a ∧ lt L f = κ a := H L h

def wn : Nat → Int → Int
  | 0, k => k
  | n + 1, k => w64 (wn n k + 1)
theorem wn_eq : ∀ (n : Nat) (k : Int), 0 ≤ k → k + n < 9223372036854775807 → wn n k = k + n
  | 0, k, _, _ => by simp [wn]
  | n + 1, k, h1, h2 => by
    rw [wn, wn_eq n k h1 (by omega), w64_eq (by omega) (by omega)]; omega
theorem l_markPanCallS_ex (L : List PanCall) (h : L.length ≤ 1048576) : ∃ r, l_markPanCallS L 1 = some r ∧ 0 ≤ r.1 := by
  unfold l_markPanCallS
  refine loopF_ex L.length (fun i (v : Int × Int × List PanCall) => v.1 = 1 + 12 * (i : Int) ∧ v.2.1 = i ∧ v.2.2.length = L.length) (fun i v κ hi ⟨h1, h2, h3⟩ => ?_) (fun v κ ⟨h1, h2, h3⟩ => ?_) L.length 0 _ _ (by omega) (by omega) ⟨rfl, rfl, rfl⟩
  · obtain ⟨k, j, l⟩ := v
    simp only at h1 h2 h3 ⊢
    subst h2
    rw [decide_eq_true (by omega), cond_true, ix_nat (by omega)]
    refine lt_len (n := L.length) (by simpa using h3) fun r hr => ?_; rw [ix_nat (by omega)]; clear h3; rename_i h3; have h3 := hr; clear hr
    refine lt_len (n := L.length) (by simpa using h3) fun r hr => ?_; rw [ix_nat (by omega)]; have h3 := hr; clear hr
    refine lt_len (n := L.length) (by simpa using h3) fun r hr => ?_; rw [ix_nat (by omega)]; have h3 := hr; clear hr
    refine lt_len (n := L.length) (by simpa using h3) fun r hr => ?_; rw [ix_nat (by omega)]; have h3 := hr; clear hr
    refine lt_len (n := L.length) (by simpa using h3) fun r hr => ?_; rw [ix_nat (by omega)]; have h3 := hr; clear hr
    refine lt_len (n := L.length) (by simpa using h3) fun r hr => ?_; rw [ix_nat (by omega)]; have h3 := hr; clear hr
    refine lt_len (n := L.length) (by simpa using h3) fun r hr => ?_; rw [ix_nat (by omega)]; have h3 := hr; clear hr
    refine lt_len (n := L.length) (by simpa using h3) fun r hr => ?_; rw [ix_nat (by omega)]; have h3 := hr; clear hr
    refine lt_len (n := L.length) (by simpa using h3) fun r hr => ?_; rw [ix_nat (by omega)]; have h3 := hr; clear hr
    refine lt_len (n := L.length) (by simpa using h3) fun r hr => ?_; rw [ix_nat (by omega)]; have h3 := hr; clear hr
    refine lt_len (n := L.length) (by simpa using h3) fun r hr => ?_; rw [ix_nat (by omega)]; have h3 := hr; clear hr
    refine lt_len (n := L.length) (by simpa using h3) fun r hr => ?_
    refine ⟨_, ⟨?_, ?_, hr⟩, rfl⟩
    · show wn 12 k = _
      rw [wn_eq _ _ (by omega) (by omega)]; omega
    · show wn 1 (i : Int) = _
      rw [wn_eq _ _ (by omega) (by omega)]; omega
  · obtain ⟨k, j, l⟩ := v
    simp only at h1 h2 h3 ⊢
    rw [decide_eq_false (by omega)]
    exact ⟨_, rfl, by simp only; omega⟩

theorem l_markIntS_eq (L : List Int) (h : L.length ≤ 1048576) : ∃ M : List Int, M.length = L.length ∧ (∀ q, q < M.length → M.getD q default = 1 + (q : Int)) ∧ l_markIntS L 1 = some (1 + (L.length : Int), M) := by
  unfold l_markIntS
  have := loopF_ex (R := Int × List Int) (Q := fun r => r.1 = 1 + (L.length : Int) ∧ r.2.length = L.length ∧ ∀ q, q < r.2.length → r.2.getD q default = 1 + (q : Int)) (body := fun (v20 : Int × Int × List Int) κ21 => cond (decide (v20.2.1 < ((v20.2.2.length : Nat) : Int))) (ix v20.2.2 v20.2.1 (fun _ => lt (v20.2.2.set v20.2.1.toNat v20.1) (fun r23 => κ21 ((w64 (v20.1 + 1)), (w64 (v20.2.1 + 1)), r23)))) (some (v20.1, v20.2.2))) L.length (fun i (v : Int × Int × List Int) => v.1 = 1 + (i : Int) ∧ v.2.1 = i ∧ v.2.2.length = L.length ∧ ∀ q, q < i → v.2.2.getD q default = 1 + (q : Int))
    (fun i v κ hi ⟨h1, h2, h3, h4⟩ => by
      obtain ⟨k, j, l⟩ := v
      simp only at h1 h2 h3 h4 ⊢
      subst h2
      rw [decide_eq_true (by omega), cond_true, ix_nat (by omega)]
      refine ⟨_, ⟨?_, ?_, by simpa using h3, fun q hq => ?_⟩, rfl⟩
      · show wn 1 k = _
        rw [wn_eq _ _ (by omega) (by omega)]; omega
      · show wn 1 (i : Int) = _
        rw [wn_eq _ _ (by omega) (by omega)]; omega
      · simp only [Int.toNat_natCast]
        rw [getD_set (by omega)]
        by_cases e : q = i
        · rw [if_pos e, e]; exact h1
        · rw [if_neg e]; exact h4 q (by omega)) (fun v κ ⟨h1, h2, h3, h4⟩ => by
      obtain ⟨k, j, l⟩ := v
      simp only at h1 h2 h3 h4 ⊢
      rw [decide_eq_false (by omega)]
      exact ⟨_, rfl, h1, h3, fun q hq => h4 q (by simp only at hq; omega)⟩) L.length 0 ((((L.length : Nat) : Int)).toNat + 1) (1, 0, L) (by omega) (by omega) ⟨rfl, rfl, rfl, fun q hq => absurd hq (Nat.not_lt_zero q)⟩
  obtain ⟨⟨k, M⟩, h1, h2, h3, h4⟩ := this
  simp only at h2 h3 h4
  exact ⟨M, h3, h4, by rw [h1, h2]⟩

theorem l_heldIntS_eq (M : List Int) (h : M.length ≤ 1048576) (hm : ∀ q, q < M.length → M.getD q default = 1 + (q : Int)) : l_heldIntS M 1 = some (1 + (M.length : Int)) := by
  unfold l_heldIntS
  refine loopN_eq (fun i (v : Int) => v = 1 + (i : Int)) rfl (fun i v κ _ hi hv => ⟨1 + ((i + 1 : Nat) : Int), rfl, ?_⟩) (fun v hv => by rw [hv]; simp)
  rw [hm i (by omega), hv, decide_eq_true rfl, w64_eq (by omega) (by omega)]
  show κ _ = κ _
  congr 1

/-- THE PLAIN LAW OF FnExactHistOrder. -/
theorem law_HistOrder (L : List PanCall) (hL : L.length ≤ 140737488355328) : l_FnExactHistOrder L = some true := by
  unfold l_FnExactHistOrder
  rw [l_szPanCallS_eq L hL]
  simp only [Option.bind_some]
  by_cases h2 : L.length ≤ 1048576
  · rw [if_pos h2, decide_eq_false (by omega), l_toPanCallS_eq L (by omega)]
    obtain ⟨⟨O, b⟩, hs, hi, hlen⟩ := histOrder_eq L
    simp only at hlen
    obtain ⟨r, hr, hr0⟩ := l_markPanCallS_ex L h2
    obtain ⟨M, m1, m2, m3⟩ := l_markIntS_eq O (by omega)
    have hh := l_heldIntS_eq M (by omega) m2
    have heq : l_eqIntS O O = some true := by
      unfold l_eqIntS
      simp only [decide_true, Bool.not_true, cond_false]
      rw [loopN_ok _ _ (fun i κ _ hi => by
        rw [ix_nat (by omega)]
        simp)]
    simp only [cond_false, Option.bind_some, hs, hi, heq, l_eqPanCallS_eq, Bool.not_true, hr, m3, hh]
    rw [decide_eq_false (by omega), decide_eq_false (by omega), decide_eq_true (by rw [m1])]
    cases b <;> rfl
  · rw [if_neg h2]; rfl
end Go.Proofs.PanK

/-! Part U: what a row's arguments read as; a law's row out of its contract. -/
namespace Go.Vs
open Go.ChangeShapes Go.WideShapes Go.ChangeAt Go.RowKit Go.Deep

/-- All memory stays as it is. -/
def gAll (w : World) : Gh := { Fz := fun b => b < w.heap.size, Tz := fun _ => False, om := fun _ => none, rv := fun _ => undef, df := fun _ => False }

/-- What reads as of this type is a value of a Lean type. -/
def Rd (P : Program) (t : TypeId) {α : Type} (c : α → Nat → U) (sz : Nat) (ok : α → Prop) : Prop :=
  ∀ {H : Type} {enc : TypeId × Value → H} {w : World} {fuel : Nat} {cs : List Value} {x : DataW H × List MemPlace}, DataW.trod enc P w 0 (fun _ => true) true fuel t cs = some x → (∀ n ∈ DataW.weights P t x.1, n ≤ reachBytes) →
    ∃ a : α, ok a ∧ cs.length = sz ∧ ∀ j, j < sz → ∃ v, cs[j]? = some v ∧ RU w (gAll w) (c a j) v

section
variable {P : Program} [Glob P]
def okI (n : Int) : Prop := -9223372036854775808 ≤ n ∧ n < 9223372036854775808
def okT {α : Type} (_ : α) : Prop := True
def okS (s : ByteArray) : Prop := s.size ≤ reachBytes
def okL {α : Type} (by_ : Nat) (ok : α → Prop) (l : List α) : Prop := l.length * by_ ≤ reachBytes ∧ ∀ x ∈ l, ok x

theorem okL_len {α : Type} {b : Nat} {ok : α → Prop} {l : List α} (hb : 0 < b) (h : okL b ok l) : l.length ≤ 140737488355328 := by
  have h1 := h.1
  have h2 : l.length * 1 ≤ l.length * b := Nat.mul_le_mul_left _ hb
  have h3 : reachBytes ≤ 140737488355328 := by decide
  omega
theorem rd_int {t : TypeId} (hu : P.underlying t = some (.int .i64)) : Rd P t cInt 1 okI := by
  intro H enc w fuel cs x h hw0
  obtain ⟨n, rfl, _, hw⟩ := DataW.trod_int hu h
  refine ⟨n, ?_, rfl, fun j hj => ?_⟩
  rotate_left
  · obtain rfl : j = 0 := by omega
    exact ⟨_, rfl, rfl⟩
  simp [Lit.wf, IntKind.min, IntKind.max, IntKind.signed, IntKind.bits] at hw
  unfold okI; omega
theorem rd_bool {t : TypeId} (hu : P.underlying t = some .bool) : Rd P t cBool 1 okT := by
  intro H enc w fuel cs x h hw0
  obtain ⟨b, rfl, _⟩ := DataW.trod_bool hu h
  refine ⟨b, trivial, rfl, fun j hj => ?_⟩
  obtain rfl : j = 0 := by omega
  exact ⟨_, rfl, rfl⟩
theorem rd_str {t : TypeId} (hu : P.underlying t = some .string) : Rd P t cStr 1 okS := by
  intro H enc w fuel cs x h hw0
  obtain ⟨s, rfl, rfl, hs⟩ := DataW.trod_string hu h
  refine ⟨s, by have := hw0 s.data.toList.length (by simp [DataW.weights]); simpa [okS] using this, rfl, fun j hj => ?_⟩
  obtain rfl : j = 0 := by omega
  exact ⟨_, rfl, rfl⟩

theorem cells?_get {w : World} {base n : Nat} {a : Addr} {cs : List Value} (h : w.cells? base a n = some cs) : cs.length = n ∧ ∀ j v, cs[j]? = some v → w.cell? (a.add j) = some v := by
  unfold World.cells? at h
  split at h
  case isFalse => cases h
  case isTrue =>
    refine ⟨by simpa using mapM_some_length h, fun j v hv => ?_⟩
    have hj : j < cs.length := (List.getElem?_eq_some_iff.1 hv).1
    have hl : cs.length = n := by simpa using mapM_some_length h
    have h2 := mapM_some_get h j j (by rw [List.getElem?_range (by omega)])
    rw [h2, hv]
theorem cell_block {w : World} {a : Addr} {v : Value} (h : w.cell? a = some v) : a.block < w.heap.size ∧ a.spot = none := by
  unfold World.cell? at h
  split at h
  case h_2 => cases h
  case h_1 c _ _ he =>
    split at h
    · cases h
    · rename_i hs
      refine ⟨?_, by simpa using hs⟩
      rcases Nat.lt_or_ge a.block w.heap.size with h1 | h1
      · exact h1
      · rw [Array.getElem?_eq_none h1] at he; cases he

theorem rd_slice {t e : TypeId} {α : Type} [Inhabited α] {c : α → Nat → U} {sz : Nat} {ok : α → Prop} (hu : P.underlying t = some (.slice e)) (hz : P.cellsOf e = sz) (h0 : 0 < sz) {by_ : Nat} (hb : P.bytesOf e = by_) (hb0 : 0 < by_) (he : Rd P e c sz ok) :
    Rd P t (fun L _ => ul c sz false L) 1 (okL by_ ok) := by
  intro H enc w fuel cs x h hw0
  subst hz; subst hb
  rcases open_slice hu h with ⟨rfl, _⟩ | ⟨a, len, cap, m, n, D, Pl, rfl, _, hl, hm, hmm, rfl, hel⟩
  · refine ⟨[], ⟨by simp, fun x hx => absurd hx List.not_mem_nil⟩, rfl, fun j hj => ?_⟩
    obtain rfl : j = 0 := by omega
    refine ⟨_, rfl, ?_⟩
    exact ⟨none, 0, rfl, Nat.le_refl _, Nat.zero_le _, fun hp => absurd hp (Nat.lt_irrefl 0)⟩
  · simp only [if_true] at hmm
    subst hmm
    have hw1 : len * P.bytesOf e ≤ reachBytes := by
      have h1 := hw0 ((len + (m - len)) * P.bytesOf e) (by simp [DataW.weights, hu])
      refine Nat.le_trans (Nat.mul_le_mul_right _ ?_) h1
      omega
    have hw2 : ∀ i, i < len → ∀ k ∈ DataW.weights P e (D i), k ≤ reachBytes := by
      intro i hi k hk
      refine hw0 k ?_
      simp only [DataW.weights, hu]
      refine List.mem_cons_of_mem _ (List.mem_append_left _ ?_)
      have hmem : D i ∈ (List.range len).map D := List.mem_map.2 ⟨i, List.mem_range.2 hi, rfl⟩
      generalize (List.range len).map D = l at hmem
      induction l with
      | nil => cases hmem
      | cons d r ih =>
        simp only [DataW.weightsAll, List.mem_append]
        rcases List.mem_cons.1 hmem with h1 | h1
        · subst h1; exact .inl hk
        · exact .inr (ih h1)
    have hex : ∀ i, i < len → ∃ y : α, ok y ∧ ∀ j, j < P.cellsOf e → ∃ v, w.cell? (a.add (i * P.cellsOf e + j)) = some v ∧ RU w (gAll w) (c y j) v := by
      intro i hi
      obtain ⟨cs', h1, h2⟩ := hel i (by omega)
      obtain ⟨y, hy, h3, h4⟩ := he h2 (hw2 i hi)
      refine ⟨y, hy, fun j hj => ?_⟩
      obtain ⟨v, h5, h6⟩ := h4 j hj
      exact ⟨v, by rw [← add_add]; exact (cells?_get h1).2 j v h5, h6⟩
    obtain ⟨f, hf⟩ := choose_lt hex
    refine ⟨(List.range len).map f, ⟨by simpa using hw1, fun y hy => ?_⟩, rfl, fun j hj => ?_⟩
    rotate_left
    obtain rfl : j = 0 := by omega
    refine ⟨_, rfl, ?_⟩
    rotate_left
    · obtain ⟨i, hi, rfl⟩ := List.mem_map.1 hy
      exact (hf i (List.mem_range.1 hi)).1
    · have hb : len ≤ bound := by
        have h1 : len * 1 ≤ len * P.bytesOf e := Nat.mul_le_mul_left _ hb0
        have h2 : reachBytes ≤ bound := by decide
        omega
      have hlen : ((List.range len).map f).length = len := by simp
      refine ⟨some a, m, by rw [hlen], by rw [hlen]; exact hl, by rw [hlen]; exact hb, fun hp => ?_⟩
      rw [hlen] at hp
      obtain ⟨b, o, sp⟩ := a
      obtain ⟨v, h1, _⟩ := (hf 0 (by omega)).2 0 h0
      have hblk := cell_block h1
      have hadd : (⟨b, o, sp⟩ : Addr).add (0 * P.cellsOf e + 0) = ⟨b, o, sp⟩ := by rw [Nat.zero_mul]; rfl
      rw [hadd] at hblk
      have hsp : sp = none := hblk.2
      subst hsp
      have hblt : b < w.heap.size := hblk.1
      refine ⟨b, o, rfl, .inl hblt, fun i hi j hj => ?_⟩
      rw [hlen] at hi
      obtain ⟨v, h1, h2⟩ := (hf i hi).2 j hj
      refine ⟨v, by rw [← addr_add]; exact h1, ?_⟩
      have : ((List.range len).map f).getD i default = f i := by
        rw [List.getD_eq_getElem?_getD]; simp [hi]
      show RU w (gAll w) (c (((List.range len).map f).getD i default) j) v
      rw [this]; exact h2

theorem struct_us {H : Type} {enc : TypeId × Value → H} {w : World} {fuel : Nat} {cs : List Value} {x : DataW H × List MemPlace} {t : TypeId} {fs : Array Field} (ht : P.underlying t = some (.struct fs))
    (h : DataW.trod enc P w 0 (fun _ => true) true fuel t cs = some x) (hw0 : ∀ n ∈ DataW.weights P t x.1, n ≤ reachBytes) :
    cs.length = P.cellsOf t ∧ ∀ (i : Nat) (f : Field), fs[i]? = some f → ∃ y n, DataW.trod enc P w 0 (fun _ => true) true n f.type ((cs.drop f.offset).take (P.cellsOf f.type)) = some y ∧ ∀ k ∈ DataW.weights P f.type y.1, k ≤ reachBytes := by
  obtain ⟨xs, n, _, rfl, h1, h2, h3⟩ := DataW.trod_struct ht h
  refine ⟨h1, fun i f hf => ?_⟩
  have hi : i < fs.size := by
    rcases Nat.lt_or_ge i fs.size with h4 | h4
    · exact h4
    · rw [Array.getElem?_eq_none h4] at hf; cases hf
  have := h3 i f hf
  rw [List.getElem?_eq_getElem (by omega)] at this
  refine ⟨_, n, this, fun k hk => hw0 k ?_⟩
  simp only [DataW.weights, ht]
  exact DataW.weights_mem_each (j := i) (t := f.type) (d := (xs[i]'(by omega)).1) (by simp [hf]) (by rw [List.getElem?_map, List.getElem?_eq_getElem (by omega)]; rfl) k hk

theorem rdf {cs : List Value} {o z : Nat} {Q : Value → Prop} {j : Nat} (h : ∃ v, ((cs.drop o).take z)[j]? = some v ∧ Q v) : ∃ v, cs[o + j]? = some v ∧ Q v := by
  obtain ⟨v, h1, h2⟩ := h
  refine ⟨v, ?_, h2⟩
  rw [List.getElem?_take] at h1
  split at h1
  · rw [List.getElem?_drop] at h1; exact h1
  · cases h1

/-- An argument of one cell. -/
theorem rs_one {t : TypeId} {α : Type} {c : α → Nat → U} {ok : α → Prop} (hr : Rd P t c 1 ok) {H : Type} {enc : TypeId × Value → H} {w : World} {v : Value} {d : DataW H} {ps : List MemPlace}
    (h : DataW.Trod enc P w 0 (fun _ => true) true t v d ps) (hw : ∀ n ∈ DataW.weights P t d, n ≤ reachBytes) (hv : v.cells = #[v]) : ∃ a : α, ok a ∧ RS w (gAll w) (.val false [.u (c a 0)]) v := by
  obtain ⟨fuel, hf⟩ := h
  obtain ⟨a, hk, _, ha⟩ := hr hf hw
  obtain ⟨u, h1, h2⟩ := ha 0 (by omega)
  rw [hv] at h1
  simp at h1
  subst h1
  exact ⟨a, hk, RV.of_cell h2⟩
/-- An argument of many. -/
theorem rs_agg {t : TypeId} {α : Type} {c : α → Nat → U} {ok : α → Prop} {sz : Nat} (hr : Rd P t c sz ok) {H : Type} {enc : TypeId × Value → H} {w : World} {v : Value} {d : DataW H} {ps : List MemPlace}
    (h : DataW.Trod enc P w 0 (fun _ => true) true t v d ps) (hw : ∀ n ∈ DataW.weights P t d, n ≤ reachBytes) (hv : ∃ cs, v = .agg cs) : ∃ a : α, ok a ∧ RS w (gAll w) (.val true ((List.range sz).map fun j => .u (c a j))) v := by
  obtain ⟨fuel, hf⟩ := h
  obtain ⟨a, hk, hl, ha⟩ := hr hf hw
  obtain ⟨cs, rfl⟩ := hv
  exact ⟨a, hk, cs.toList, by simp, RLs.of_us _ _ hl ha⟩

theorem Con.run {f : FuncId} {ags : List S} {os1 : List Ob} (hc : Con P f ags [] (vbool true) os1) {w : World} {vals : List Value} (hg : Glob.ok P w.heap.size w) (h : RSs w (gAll w) ags vals) :
    Calls P f vals.toArray w fun e w' => e = .returned (.bool true) ∧ Below w.heap.size w w' := by
  refine Calls.mono (hc.2 w (gAll w) vals ⟨h, fun r hr => absurd hr (Nat.not_lt_zero r), fun r => ⟨fun h => h.elim, fun h => absurd h (Nat.not_lt_zero r)⟩, fun b hb => ⟨hb, rfl⟩, fun b hb => hb.elim, fun b r hb => by cases hb⟩ ⟨_, Nat.le_refl _, fun b hb => absurd rfl hb, hg⟩) ?_
  rintro e w' ⟨v, g, rfl, hp⟩
  refine ⟨?_, hp.os, hp.tape, hp.output, hp.size, fun k hk => hp.block k hk rfl⟩
  have : v = .bool true := RV.cell hp.res
  rw [this]

/-- Arguments read behind the call as they did, with whatever spare places. -/
theorem trodAll_any {H : Type} {enc : TypeId × Value → H} {W W' : World} {sp : Nat → Bool} (hl : laidOutB P = true) (hb : Below W.heap.size W W') : ∀ {ts : List TypeId} {vs : List Value} {ds : List (DataW H)} {ps : List MemPlace},
    (∀ t ∈ ts, P.readableRec t = true ∧ t < P.types.size) → DataW.TrodAll enc P W 0 (fun _ => true) true ts vs ds ps → (∀ x ∈ ps, x.block < W.heap.size) → (∀ x ∈ ps, sp x.block = true) →
    DataW.TrodAll enc P W' 0 sp true ts vs ds ps
  | [], [], [], _, _, h, _, _ => h
  | t :: ts, v :: vs, d :: ds, _, ht, ⟨p, q, h1, h2, e⟩, hlt, hs => by
    subst e
    have h3 := ht t (List.mem_cons_self ..)
    exact ⟨p, q, WideElems.Trod_stays hl h3.1 h3.2 h1 (fun x hx => hb.same (hlt x (List.mem_append_left _ hx))) (fun x hx => hs x (List.mem_append_left _ hx)),
      trodAll_any hl hb (fun t h => ht t (List.mem_cons_of_mem _ h)) h2 (fun x hx => hlt x (List.mem_append_right _ hx)) (fun x hx => hs x (List.mem_append_right _ hx)), rfl⟩

/-- A law's row: one result, no variables, nothing turned. -/
theorem law_post {H : Type} {enc : TypeId × Value → H} {f : Func} {s : ChangeSpec} {apart fresh handsOn again : Bool} {W W' : World} {args : Array Value} {v : Value} {ds : List (DataW H)} {before : List MemPlace} (hl : laidOutB P = true)
    (ht : ∀ t ∈ f.params.toList, P.readableRec t = true ∧ t < P.types.size) (hW : DataW.Whole enc P f.params.toList s.vars apart W args.toList ds [] before) (hnv : s.vars = []) (hb : Below W.heap.size W W')
    (hres : ∀ (b : Nat) (sp : Nat → Bool) (hd : Bool), DataW.TrodAll enc P W' b sp hd f.resultTypes.toList (v.resultList f.resultTypes.size) (s.fn H (ds ++ [])).results []) (hargs : (s.fn H (ds ++ [])).args = ds) (hvars : (s.fn H (ds ++ [])).vars = [])
    (hok : ∀ (j : Nat) (t : TypeId) (r : Value), f.resultTypes[j]? = some t → (v.resultList f.resultTypes.size)[j]? = some r → Value.okWide P W' .any 0 t r) :
    s.post enc P f apart fresh handsOn again W args v W' := by
  have lt : ∀ x ∈ before, x.block < W.heap.size := fun x hx => hW.lt x hx
  have hW0 := hW
  obtain ⟨p, q, hA, hV, e, hz, hn⟩ := hW
  have hq : q = [] := by rw [hnv] at hV; exact (trodVars_none hV).2
  subst hq
  rw [List.append_nil] at e
  subst e
  have stay : ∀ sp : Nat → Bool, (∀ x ∈ before, sp x.block = true) → DataW.TrodAll enc P W' 0 sp true f.params.toList args.toList (s.fn H (ds ++ [])).args before := fun sp hsp => by
    rw [hargs]; exact trodAll_any hl hb ht hA lt hsp
  have vars : ∀ sp : Nat → Bool, DataW.TrodVars enc P W' sp s.vars (s.fn H (ds ++ [])).vars [] := fun sp => by rw [hnv, hvars]; rfl
  refine ⟨ds, [], before, [], before, [], hW0, hres _ _ _, stay _ (fun x hx => decide_eq_true (lt x hx)), vars _, World.keptBut_mono (fun x hx => ⟨hx, .inr (.inl hx)⟩) (hb.frame (· ∈ before)), fun _ => ⟨hok, _, _, ([] ++ before) ++ [], ⟨[] ++ before, [], trodAll_append (stay _ (fun _ _ => rfl)) (hres _ _ _), vars _, rfl, ?_, ?_⟩, ?_⟩⟩
  · intro b off hx
    simp only [List.nil_append, List.append_nil] at hx
    rw [hb.frozen (lt _ hx)]; exact hz b off hx
  · intro ha; simpa using hn ha
  · intro x hx _; simpa using hx

theorem okWide_one {t : TypeId} {d : TypeDesc} (ht : P.underlying t = some d) (hd : (match d with | .int _ | .string | .bool => true | _ => false) = true) {w : World} {r : _root_.Go.Reach} {base : Nat} {v : Value} (h : Value.okWide P w r base t v) : v.cells = #[v] := by
  cases d <;> first | (cases hd; done) | skip
  · obtain ⟨_, rfl⟩ := okWide_bool ht h; rfl
  · obtain ⟨_, rfl⟩ := okWide_int ht h; rfl
  · obtain ⟨_, rfl⟩ := okWide_string ht h; rfl
theorem okWide_agg {t : TypeId} {fs : Array Field} (ht : P.underlying t = some (.struct fs)) {w : World} {r : _root_.Go.Reach} {base : Nat} {v : Value} (h : Value.okWide P w r base t v) : ∃ cs, v = .agg cs := by
  unfold Value.okWide at h
  rw [ht] at h
  obtain ⟨cs, e, _⟩ := h
  exact ⟨cs, e⟩
end
end Go.Vs
