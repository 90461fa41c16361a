/- Words and walks for the proof. -/
import Derived.Test.YtipadliffadhkaaDoorRdB
import Derived.Shelf.Strconv.AppendIntPublic10
import Derived.Maps.AppendAt
import Derived.Lib.ItoaLen
import Derived.Shelf.Strings.Builder1
import Derived.Shelf.Strings.SplitShaped
import Derived.Shelf.Strconv.Itoa3
import Derived.Lib.SplitLaws
import Derived.ProofKit
import Derived.OpenShut
import Derived.ReadAgain
import Derived.Carry
import Derived.Deep.Slices
import Derived.SizedLaws
set_option linter.unusedVariables false
set_option linter.unusedSimpArgs false
set_option linter.unusedSectionVars false
/-! Printed by wip/tools/walk.py. -/
namespace Go.Proofs.PanM
open Go.Vs
set_option maxRecDepth 8000
def s_l65Num (a0 : ByteArray) : Option (Int) :=
  cond (decide ((a0.size : Int) < 1)) (some (-1)) (cond (decide ((5 : Int) < (a0.size : Int))) (some (-1)) (ck ((a0.size : Int) ≤ 4611686018427387904) (loopN (fun i1 (v10 : Int) κ11 => ixs a0 ((i1 : Nat) : Int) (fun y12 => cond (decide (y12 < 48)) (some (-1)) (ixs a0 ((i1 : Nat) : Int) (fun y13 => cond (decide ((57 : Int) < y13)) (some (-1)) (ixs a0 ((i1 : Nat) : Int) (fun y14 => κ11 (w64 ((w64 (v10 * 10)) + (IntKind.wrap .i64 (IntKind.wrap .u8 (y14 - 48))))))))))) (fun (v10 : Int) => (s_l6Dec (v10.natAbs + 2) v10).bind (fun y15 => cond (!(y15.toList == a0.toList)) (some (-1)) (some v10))) ((a0.size : Int).toNat) 0 0)))
theorem s_l65Num_c {a0 : ByteArray} {r : Int} (hF : s_l65Num a0 = some r) : Con Tryd.prog 58 [vstr a0] [] (vint .i64 r) [] := by
  refine Con.of_Dz tabOk Tryd.func58 rfl rfl rfl ?_
  delta s_l65Num at hF
  refine Dz.seq ?_
  refine Dz.reg ?_
  refine Dz.seq ?_
  refine Dz.reg ?_
  refine Dz.seq ?_
  refine Dz.seq ?_
  refine Dz.reg ?_
  refine vif hF (fun _ hF => ?_) (fun _ hF => ?_)
  · refine Dz.tt (b := true) rfl rfl ?_
    refine Dz.seq ?_
    refine Dz.reg ?_
    refine Dz.ret ?_
    cases hF
    exact finG [] [] rfl rfl (m_val rfl) trivial rfl
  · refine Dz.ite rfl hF (fun _ hF => ?_) (fun _ hF => ?_)
    · refine Dz.seq ?_
      refine Dz.reg ?_
      refine Dz.ret ?_
      cases hF
      exact finG [] [] rfl rfl (m_val rfl) trivial rfl
    · refine Dz.skip ?_
      refine Dz.seq ?_
      refine Dz.seq ?_
      refine Dz.reg ?_
      refine Dz.blk ?_
      obtain ⟨hNi1, hF⟩ := ckE hF
      refine Dz.cnt hF (fun i1 v10 => ([(0, vstr a0), (3, vint .i64 v10), (4, vint .i64 ((i1 : Nat) : Int))], [])) (entG [] ⟨m_val rfl, m_val rfl, m_val rfl, trivial⟩ trivial rfl) (fun v10 hF => ?_) (fun i1 v10 κ11 hi0i1 hi1i1 hF => ?_)
      · refine Dz.seq ?_
        refine Dz.seq ?_
        refine Dz.reg ?_
        refine Dz.ff (b := decide (((0 + (a0.size : Int).toNat : Nat) : Int) < (a0.size : Int))) rfl (decide_eq_false (by omega)) ?_
        refine Dz.exit ?_
        refine Dz.seq ?_
        refine Dz.seq ?_
        refine Dz.reg ?_
        refine bdE hF (fun y15 hy15 hF => ?_)
        refine callG [] (s_l6Dec_c hy15) ⟨m_val rfl, trivial⟩ trivial rfl ?_
        refine Dz.ite rfl hF (fun _ hF => ?_) (fun _ hF => ?_)
        · refine Dz.seq ?_
          refine Dz.reg ?_
          refine Dz.ret ?_
          cases hF
          exact finG [] [] rfl rfl (m_val rfl) trivial rfl
        · refine Dz.skip ?_
          refine Dz.seq ?_
          refine Dz.reg ?_
          refine Dz.ret ?_
          cases hF
          exact finG [] [] rfl rfl (m_val rfl) trivial rfl
      · refine Dz.seq ?_
        refine Dz.seq ?_
        refine Dz.reg ?_
        refine Dz.tt (b := decide (((i1 : Nat) : Int) < (a0.size : Int))) rfl (decide_eq_true (by omega)) ?_
        refine Dz.skip ?_
        refine Dz.seq ?_
        refine Dz.blk ?_
        refine Dz.seq ?_
        refine Dz.seq ?_
        refine Dz.reg ?_
        refine vixs hF (fun _ _ hF => ?_)
        refine vif hF (fun _ hF => ?_) (fun _ hF => ?_)
        · refine Dz.tt (b := true) rfl rfl ?_
          refine Dz.seq ?_
          refine Dz.reg ?_
          refine Dz.ret ?_
          cases hF
          exact finG [] [] rfl rfl (m_val rfl) trivial rfl
        · refine vixs hF (fun _ _ hF => ?_)
          refine Dz.ite rfl hF (fun _ hF => ?_) (fun _ hF => ?_)
          · refine Dz.seq ?_
            refine Dz.reg ?_
            refine Dz.ret ?_
            cases hF
            exact finG [] [] rfl rfl (m_val rfl) trivial rfl
          · refine Dz.skip ?_
            refine Dz.reg ?_
            refine vw64 ?_
            refine vixs hF (fun _ _ hF => ?_)
            refine vwr ?_
            refine vwr ?_
            refine vw64 ?_
            refine Dz.reg ?_
            refine vsucc (by omega) ?_
            exact ⟨(w64 ((w64 (v10 * 10)) + (IntKind.wrap .i64 (IntKind.wrap .u8 ((byteAt a0 ((i1 : Nat) : Int).toNat) - 48))))), entG [] ⟨m_val rfl, m_val rfl, m_val rfl, trivial⟩ trivial rfl, hF⟩
end Go.Proofs.PanM

/-! Printed by wip/tools/walk.py. -/
namespace Go.Proofs.PanM
open Go.Vs
set_option maxRecDepth 8000
def s_l65Line (a0 : ByteArray) : Option (PanEvent × Bool) :=
  (s_l65Cut a0 32).bind (fun y1 => loopN (fun i2 (v9 : List Int) κ10 => (s_l65Num (y1.getD i2 default)).bind (fun y12 => cond (decide (y12 < 0)) (some (({ Kind := 0, Server := 0, Other := 0, Client := 0, Word := 0, Keep := false, Range := 0, Op := 0, Disk := 0, Block := 0, Epoch := 0, Data := 0 } : PanEvent), false)) (ck ((v9.length + 1) * 8 ≤ 140737488355328) (κ10 (v9 ++ ([y12] : List Int)))))) (fun (v9 : List Int) => loopF (fun (v78 : Int) κ79 => cond (decide (v78 ≤ 12)) (loopN (fun i80 (v88 : Unit) κ89 => jn (fun (v90 : Unit) => (s_l65Nums ({ Kind := v78, Server := 0, Other := 0, Client := 0, Word := 0, Keep := false, Range := 0, Op := 0, Disk := 0, Block := 0, Epoch := 0, Data := 0 } : PanEvent)).bind (fun y92 => cond (!decide (((v9.length : Nat) : Int) = ((y92.length : Nat) : Int))) (some (({ Kind := 0, Server := 0, Other := 0, Client := 0, Word := 0, Keep := false, Range := 0, Op := 0, Disk := 0, Block := 0, Epoch := 0, Data := 0 } : PanEvent), false)) ((s_l65Made v78 (decide (((i80 : Nat) : Int) = 1)) v9).bind (fun y94 => some (y94, true))))) (fun j95 => cond (decide (((i80 : Nat) : Int) = 1)) (cond (!decide (v78 = 4)) (cond (!decide (v78 = 10)) (κ89 ()) (ix y1 0 (fun _ => (s_l65Word v78 (decide (((i80 : Nat) : Int) = 1))).bind (fun y96 => cond (!((y1.getD 0 default).toList == y96.toList)) (κ89 ()) (j95 ()))))) (ix y1 0 (fun _ => (s_l65Word v78 (decide (((i80 : Nat) : Int) = 1))).bind (fun y97 => cond (!((y1.getD 0 default).toList == y97.toList)) (κ89 ()) (j95 ()))))) (ix y1 0 (fun _ => (s_l65Word v78 (decide (((i80 : Nat) : Int) = 1))).bind (fun y98 => cond (!((y1.getD 0 default).toList == y98.toList)) (κ89 ()) (j95 ())))))) (fun (v88 : Unit) => κ79 (w64 (v78 + 1))) 2 0 ()) (some (({ Kind := 0, Server := 0, Other := 0, Client := 0, Word := 0, Keep := false, Range := 0, Op := 0, Disk := 0, Block := 0, Epoch := 0, Data := 0 } : PanEvent), false))) 14 1) (y1.length - 1) 1 ([] : List Int))
theorem s_l65Line_c {a0 : ByteArray} {r : PanEvent × Bool} (hF : s_l65Line a0 = some r) : Con Tryd.prog 39 [vstr a0] [] (.tup [(true, (PanEvent.L r.1)), (false, [.u (.bool r.2)])]) [] := by
  refine Con.of_Dz tabOk Tryd.func39 rfl rfl rfl ?_
  delta s_l65Line at hF
  refine Dz.seq ?_
  refine Dz.reg ?_
  refine Dz.seq ?_
  refine Dz.reg ?_
  refine bdE hF (fun y1 hy1 hF => ?_)
  refine callG [] (s_l65Cut_c hy1) ⟨m_val rfl, m_val rfl, trivial⟩ trivial rfl ?_
  refine Dz.seq ?_
  refine Dz.reg ?_
  refine Dz.row 2 ([] : List Int).length (gl cInt ([] : List Int)) rfl (by simp <;> omega) EqG.nilr ?_
  refine Dz.seq ?_
  refine Dz.seq ?_
  refine Dz.reg ?_
  refine Dz.blk ?_
  refine Dz.cnt hF (fun i2 v9 => ([(2, .ptr 0 0), (4, .val false [.row 1]), (5, .val false [.row 2]), (6, vint .i64 ((i2 : Nat) : Int))], [.box 48 [.u (cI 0), .u (cI 0), .u (cI 0), .u (cI 0), .u (cI 0), .u (.bool false), .u (cI 0), .u (cI 0), .u (cI 0), .u (cI 0), .u (cI 0), .u (cI 0)], .row 9 y1.length 1 (gl cStr y1), .row 3 v9.length 1 (gl cInt v9)])) (entG [0, 1, 2] ⟨m_ptr rfl, ⟨rfl, rfl, trivial⟩, ⟨rfl, rfl, trivial⟩, m_val rfl, trivial⟩ ⟨⟨rfl, o_box rfl⟩, ⟨rfl, o_row⟩, ⟨rfl, o_row⟩, trivial⟩ rfl) (fun v9 hF => ?_) (fun i2 v9 κ10 hi0i2 hi1i2 hF => ?_)
  · refine Dz.seq ?_
    refine Dz.seq ?_
    refine Dz.reg ?_
    intro hb13; replace hb13 : y1.length ≤ 140737488355328 := hb13
    refine Dz.ff (b := decide (((1 + (y1.length - 1) : Nat) : Int) < ((y1.length : Nat) : Int))) rfl (decide_eq_false (by omega)) ?_
    refine Dz.exit ?_
    refine Dz.seq ?_
    refine Dz.seq ?_
    refine Dz.reg ?_
    refine Dz.blk ?_
    refine Dz.whl hF (fun v78 => ([(2, .ptr 0 0), (4, .val false [.row 1]), (5, .val false [.row 2]), (8, vint .i64 v78)], [.box 48 [.u (cI 0), .u (cI 0), .u (cI 0), .u (cI 0), .u (cI 0), .u (.bool false), .u (cI 0), .u (cI 0), .u (cI 0), .u (cI 0), .u (cI 0), .u (cI 0)], .row 9 y1.length 1 (gl cStr y1), .row 3 v9.length 1 (gl cInt v9)])) (entG [0, 1, 2] ⟨m_ptr rfl, ⟨rfl, rfl, trivial⟩, ⟨rfl, rfl, trivial⟩, m_val rfl, trivial⟩ ⟨⟨rfl, o_box rfl⟩, ⟨rfl, o_row⟩, ⟨rfl, o_row⟩, trivial⟩ rfl) (fun v78 κ79 hF => ?_)
    · refine Dz.seq ?_
      refine Dz.seq ?_
      refine Dz.reg ?_
      refine Dz.ite rfl hF (fun _ hF => ?_) (fun _ hF => ?_)
      · refine Dz.skip ?_
        refine Dz.seq ?_
        refine Dz.blk ?_
        refine Dz.seq ?_
        refine Dz.reg ?_
        refine Dz.blk ?_
        refine Dz.cnt hF (fun i80 v88 => ([(2, .ptr 0 0), (4, .val false [.row 1]), (5, .val false [.row 2]), (8, vint .i64 v78), (9, vint .i64 ((i80 : Nat) : Int))], [.box 48 [.u (cI 0), .u (cI 0), .u (cI 0), .u (cI 0), .u (cI 0), .u (.bool false), .u (cI 0), .u (cI 0), .u (cI 0), .u (cI 0), .u (cI 0), .u (cI 0)], .row 9 y1.length 1 (gl cStr y1), .row 3 v9.length 1 (gl cInt v9)])) (entG [0, 1, 2] ⟨m_ptr rfl, ⟨rfl, rfl, trivial⟩, ⟨rfl, rfl, trivial⟩, m_val rfl, m_val rfl, trivial⟩ ⟨⟨rfl, o_box rfl⟩, ⟨rfl, o_row⟩, ⟨rfl, o_row⟩, trivial⟩ rfl) (fun v88 hF => ?_) (fun i80 v88 κ89 hi0i80 hi1i80 hF => ?_)
        · refine Dz.seq ?_
          refine Dz.seq ?_
          refine Dz.reg ?_
          refine Dz.ff (b := decide (((0 + 2 : Nat) : Int) < 2)) rfl (decide_eq_false (by omega)) ?_
          refine Dz.exit ?_
          refine Dz.reg ?_
          refine vw64 ?_
          exact ⟨(w64 (v78 + 1)), entG [0, 1, 2] ⟨m_ptr rfl, ⟨rfl, rfl, trivial⟩, ⟨rfl, rfl, trivial⟩, m_val rfl, trivial⟩ ⟨⟨rfl, o_box rfl⟩, ⟨rfl, o_row⟩, ⟨rfl, o_row⟩, trivial⟩ rfl, hF⟩
        · refine Dz.seq ?_
          refine Dz.seq ?_
          refine Dz.reg ?_
          refine Dz.tt (b := decide (((i80 : Nat) : Int) < 2)) rfl (decide_eq_true (by omega)) ?_
          refine Dz.skip ?_
          refine Dz.seq ?_
          refine Dz.blk ?_
          refine Dz.seq ?_
          refine Dz.reg ?_
          refine Dz.jn hF (fun v90 => ([(2, .ptr 0 0), (5, .val false [.row 1]), (8, vint .i64 v78), (10, vbool (decide (((i80 : Nat) : Int) = 1)))], [.box 48 [.u (cI 0), .u (cI 0), .u (cI 0), .u (cI 0), .u (cI 0), .u (.bool false), .u (cI 0), .u (cI 0), .u (cI 0), .u (cI 0), .u (cI 0), .u (cI 0)], .row 3 v9.length 1 (gl cInt v9)])) (fun v90 hF => ?_) (fun hF => ?_)
          · refine Dz.seq ?_
            refine Dz.seq ?_
            refine Dz.reg ?_
            intro hb91; replace hb91 : v9.length ≤ 140737488355328 := hb91
            refine bdE hF (fun y92 hy92 hF => ?_)
            refine callG [] (s_l65Nums_c hy92) ⟨m_val rfl, trivial⟩ trivial rfl ?_
            intro hb93; replace hb93 : y92.length ≤ 140737488355328 := hb93
            refine Dz.ite rfl hF (fun _ hF => ?_) (fun _ hF => ?_)
            · refine Dz.seq ?_
              refine Dz.reg ?_
              refine Dz.ret ?_
              cases hF
              exact finG [] [] rfl rfl ⟨⟨rfl, mls_same rfl⟩, ⟨rfl, mls_same rfl⟩, trivial⟩ trivial rfl
            · refine Dz.skip ?_
              refine Dz.seq ?_
              refine Dz.reg ?_
              refine bdE hF (fun y94 hy94 hF => ?_)
              refine callL [] (s_l65Made_c hy94) ⟨m_val rfl, m_val rfl, ⟨rfl, ⟨rfl, rfl, LeU.refl _⟩, trivial⟩, trivial⟩ trivial rfl ⟨⟨trivial, trivial, trivial, trivial, trivial, trivial, trivial, trivial, trivial, trivial, trivial, trivial, trivial⟩, trivial⟩ ?_
              refine Dz.ret ?_
              cases hF
              exact finG [] [] rfl rfl ⟨⟨rfl, mls_same rfl⟩, ⟨rfl, mls_same rfl⟩, trivial⟩ trivial rfl
          · refine Dz.seq ?_
            refine Dz.drw 3 [⟨[], [], 3, 3⟩, ⟨[], [], 3, 3⟩, ⟨[], [], 3, 3⟩, ⟨[], [], 3, 3⟩, ⟨[], [], 3, 3⟩, ⟨[], [], 3, 3⟩, ⟨[], [], 3, 3⟩, ⟨[], [], 3, 3⟩, ⟨[], [], 3, 3⟩, ⟨[], [], 3, 3⟩, ⟨[55,56,57], [], 3, 3⟩, ⟨[55,56,57], [1], 3, 3⟩, ⟨[55,56,57], [1], 3, 3⟩, ⟨[52,53,54,56], [], 3, 3⟩, ⟨[52,53,54,55], [], 3, 3⟩, ⟨[52,53,54], [], 3, 3⟩, ⟨[], [], 3, 3⟩, ⟨[], [], 3, 3⟩] ⟨by kernel_rfl, by kernel_rfl, rfl⟩ ?_
            refine vif hF (fun _ hF => ?_) (fun _ hF => ?_)
            · refine vif hF (fun _ hF => ?_) (fun _ hF => ?_)
              · refine vif hF (fun _ hF => ?_) (fun _ hF => ?_)
                · refine Dz.tt (b := true) rfl rfl ?_
                  refine Dz.exit ?_
                  refine Dz.reg ?_
                  refine vsucc (by omega) ?_
                  exact ⟨(), entG [0, 1, 2] ⟨m_ptr rfl, ⟨rfl, rfl, trivial⟩, ⟨rfl, rfl, trivial⟩, m_val rfl, m_val rfl, trivial⟩ ⟨⟨rfl, o_box rfl⟩, ⟨rfl, o_row⟩, ⟨rfl, o_row⟩, trivial⟩ rfl, hF⟩
                · refine vix hF (fun _ _ hF => ?_)
                  refine bdE hF (fun y96 hy96 hF => ?_)
                  refine callG [] (s_l65Word_c hy96) ⟨m_val rfl, m_val rfl, trivial⟩ trivial rfl ?_
                  refine Dz.ite rfl hF (fun _ hF => ?_) (fun _ hF => ?_)
                  · refine Dz.exit ?_
                    refine Dz.reg ?_
                    refine vsucc (by omega) ?_
                    exact ⟨(), entG [0, 1, 2] ⟨m_ptr rfl, ⟨rfl, rfl, trivial⟩, ⟨rfl, rfl, trivial⟩, m_val rfl, m_val rfl, trivial⟩ ⟨⟨rfl, o_box rfl⟩, ⟨rfl, o_row⟩, ⟨rfl, o_row⟩, trivial⟩ rfl, hF⟩
                  · refine Dz.skip ?_
                    exact ⟨(), entG [0, 2] ⟨m_ptr rfl, ⟨rfl, rfl, trivial⟩, m_val rfl, m_val rfl, trivial⟩ ⟨⟨rfl, o_box rfl⟩, ⟨rfl, o_row⟩, trivial⟩ rfl, hF⟩
              · refine vix hF (fun _ _ hF => ?_)
                refine bdE hF (fun y97 hy97 hF => ?_)
                refine callG [] (s_l65Word_c hy97) ⟨m_val rfl, m_val rfl, trivial⟩ trivial rfl ?_
                refine Dz.ite rfl hF (fun _ hF => ?_) (fun _ hF => ?_)
                · refine Dz.exit ?_
                  refine Dz.reg ?_
                  refine vsucc (by omega) ?_
                  exact ⟨(), entG [0, 1, 2] ⟨m_ptr rfl, ⟨rfl, rfl, trivial⟩, ⟨rfl, rfl, trivial⟩, m_val rfl, m_val rfl, trivial⟩ ⟨⟨rfl, o_box rfl⟩, ⟨rfl, o_row⟩, ⟨rfl, o_row⟩, trivial⟩ rfl, hF⟩
                · refine Dz.skip ?_
                  exact ⟨(), entG [0, 2] ⟨m_ptr rfl, ⟨rfl, rfl, trivial⟩, m_val rfl, m_val rfl, trivial⟩ ⟨⟨rfl, o_box rfl⟩, ⟨rfl, o_row⟩, trivial⟩ rfl, hF⟩
            · refine vix hF (fun _ _ hF => ?_)
              refine bdE hF (fun y98 hy98 hF => ?_)
              refine callG [] (s_l65Word_c hy98) ⟨m_val rfl, m_val rfl, trivial⟩ trivial rfl ?_
              refine Dz.ite rfl hF (fun _ hF => ?_) (fun _ hF => ?_)
              · refine Dz.exit ?_
                refine Dz.reg ?_
                refine vsucc (by omega) ?_
                exact ⟨(), entG [0, 1, 2] ⟨m_ptr rfl, ⟨rfl, rfl, trivial⟩, ⟨rfl, rfl, trivial⟩, m_val rfl, m_val rfl, trivial⟩ ⟨⟨rfl, o_box rfl⟩, ⟨rfl, o_row⟩, ⟨rfl, o_row⟩, trivial⟩ rfl, hF⟩
              · refine Dz.skip ?_
                exact ⟨(), entG [0, 2] ⟨m_ptr rfl, ⟨rfl, rfl, trivial⟩, m_val rfl, m_val rfl, trivial⟩ ⟨⟨rfl, o_box rfl⟩, ⟨rfl, o_row⟩, trivial⟩ rfl, hF⟩
      · refine Dz.exit ?_
        refine Dz.seq ?_
        refine Dz.reg ?_
        refine Dz.ret ?_
        cases hF
        exact finG [] [] rfl rfl ⟨⟨rfl, mls_same rfl⟩, ⟨rfl, mls_same rfl⟩, trivial⟩ trivial rfl
  · refine Dz.seq ?_
    refine Dz.seq ?_
    refine Dz.reg ?_
    intro hb11; replace hb11 : y1.length ≤ 140737488355328 := hb11
    refine Dz.tt (b := decide (((i2 : Nat) : Int) < ((y1.length : Nat) : Int))) rfl (decide_eq_true (by omega)) ?_
    refine Dz.skip ?_
    refine Dz.seq ?_
    refine Dz.blk ?_
    refine Dz.seq ?_
    refine Dz.reg ?_
    refine vge (n := ((i2 : Nat) : Int)) (hi := (y1.length : Int)) (by omega) (by omega) ?_
    refine bdE hF (fun y12 hy12 hF => ?_)
    refine callG [] (s_l65Num_c hy12) ⟨m_val rfl, trivial⟩ trivial rfl ?_
    refine Dz.seq ?_
    refine Dz.seq ?_
    refine Dz.reg ?_
    refine Dz.ite rfl hF (fun _ hF => ?_) (fun _ hF => ?_)
    · refine Dz.seq ?_
      refine Dz.reg ?_
      refine Dz.ret ?_
      cases hF
      exact finG [] [] rfl rfl ⟨⟨rfl, mls_same rfl⟩, ⟨rfl, mls_same rfl⟩, trivial⟩ trivial rfl
    · refine Dz.skip ?_
      refine Dz.reg ?_
      refine vck hF id (fun _ hF => ?_)
      refine Dz.row 3 ([y12] : List Int).length (gl cInt ([y12] : List Int)) rfl (by simp <;> omega) (EqG.lit (c := cInt) (sz := 1) (L := ([y12] : List Int)) ⟨LeU.refl _, trivial⟩) ?_
      refine Dz.row 4 (v9 ++ ([y12] : List Int)).length (gl cInt (v9 ++ ([y12] : List Int))) rfl (by simp <;> omega) (EqG.app rfl (by simp <;> omega) (EqG.refl _ _ _) (EqG.lit (c := cInt) (sz := 1) (L := ([y12] : List Int)) ⟨LeU.refl _, trivial⟩)) ?_
      refine Dz.reg ?_
      refine vsucc (by omega) ?_
      exact ⟨(v9 ++ ([y12] : List Int)), entG [0, 1, 4] ⟨m_ptr rfl, ⟨rfl, rfl, trivial⟩, ⟨rfl, rfl, trivial⟩, m_val rfl, trivial⟩ ⟨⟨rfl, o_box rfl⟩, ⟨rfl, o_row⟩, ⟨rfl, o_row⟩, trivial⟩ rfl, hF⟩
end Go.Proofs.PanM

/-! Printed by wip/tools/walk.py. -/
namespace Go.Proofs.PanM
open Go.Vs
set_option maxRecDepth 8000
def s_PanRead (a0 : ByteArray) : Option ((List PanEvent) × Int) :=
  cond (decide ((40000 : Int) < (a0.size : Int))) (some (([] : List PanEvent), (-1))) ((s_l65Cut a0 10).bind (fun y1 => loopN (fun i2 (v9 : List PanEvent) κ10 => cond ((y1.getD i2 default).toList == (⟨#[]⟩ : ByteArray).toList) (κ10 v9) ((s_l65Line (y1.getD i2 default)).bind (fun y12 => cond (!y12.2) (some (([] : List PanEvent), ((i2 + 1 : Nat) : Int))) (ck ((v9.length + 1) * 96 ≤ 140737488355328) (κ10 (v9 ++ ([y12.1] : List PanEvent))))))) (fun (v9 : List PanEvent) => some (v9, 0)) y1.length 0 ([] : List PanEvent)))
theorem s_PanRead_c {a0 : ByteArray} {r : (List PanEvent) × Int} (hF : s_PanRead a0 = some r) : Con Tryd.prog 12 [vstr a0] [] (.tup [(false, [.row 0]), (false, [.u (cI r.2)])]) [.row 48 r.1.length 12 (gl PanEvent.c r.1)] := by
  refine Con.of_Dz tabOk Tryd.func12 rfl rfl rfl ?_
  delta s_PanRead at hF
  refine Dz.seq ?_
  refine Dz.reg ?_
  refine Dz.seq ?_
  refine Dz.reg ?_
  refine Dz.row 0 ([] : List PanEvent).length (gl PanEvent.c ([] : List PanEvent)) rfl (by simp <;> omega) EqG.nilr ?_
  refine Dz.seq ?_
  refine Dz.seq ?_
  refine Dz.reg ?_
  refine Dz.ite rfl hF (fun _ hF => ?_) (fun _ hF => ?_)
  · refine Dz.seq ?_
    refine Dz.reg ?_
    refine Dz.ret ?_
    cases hF
    exact finG [] [0] rfl rfl ⟨⟨rfl, ⟨rfl, trivial⟩⟩, ⟨rfl, mls_same rfl⟩, trivial⟩ ⟨⟨rfl, o_row⟩, trivial⟩ rfl
  · refine Dz.skip ?_
    refine Dz.seq ?_
    refine Dz.reg ?_
    refine Dz.row 1 ([] : List PanEvent).length (gl PanEvent.c ([] : List PanEvent)) rfl (by simp <;> omega) EqG.nilr ?_
    refine Dz.seq ?_
    refine Dz.reg ?_
    refine bdE hF (fun y1 hy1 hF => ?_)
    refine callG [] (s_l65Cut_c hy1) ⟨m_val rfl, m_val rfl, trivial⟩ trivial rfl ?_
    refine Dz.seq ?_
    refine Dz.seq ?_
    refine Dz.reg ?_
    refine Dz.blk ?_
    refine Dz.cnt hF (fun i2 v9 => ([(4, .val false [.row 0]), (5, .val false [.row 1]), (6, .val false [.row 2]), (7, vint .i64 ((i2 : Nat) : Int))], [.row 48 (([] : List PanEvent).length) 12 (gl PanEvent.c ([] : List PanEvent)), .row 48 v9.length 12 (gl PanEvent.c v9), .row 9 y1.length 1 (gl cStr y1)])) (entG [0, 1, 2] ⟨⟨rfl, rfl, trivial⟩, ⟨rfl, rfl, trivial⟩, ⟨rfl, rfl, trivial⟩, m_val rfl, trivial⟩ ⟨⟨rfl, o_row⟩, ⟨rfl, o_row⟩, ⟨rfl, o_row⟩, trivial⟩ rfl) (fun v9 hF => ?_) (fun i2 v9 κ10 hi0i2 hi1i2 hF => ?_)
    · refine Dz.seq ?_
      refine Dz.seq ?_
      refine Dz.reg ?_
      intro hb13; replace hb13 : y1.length ≤ 140737488355328 := hb13
      refine Dz.ff (b := decide (((0 + y1.length : Nat) : Int) < ((y1.length : Nat) : Int))) rfl (decide_eq_false (by omega)) ?_
      refine Dz.exit ?_
      refine Dz.seq ?_
      refine Dz.reg ?_
      refine Dz.ret ?_
      cases hF
      exact finG [] [1] rfl rfl ⟨⟨rfl, ⟨rfl, trivial⟩⟩, ⟨rfl, mls_same rfl⟩, trivial⟩ ⟨⟨rfl, o_row⟩, trivial⟩ rfl
    · refine Dz.seq ?_
      refine Dz.seq ?_
      refine Dz.reg ?_
      intro hb11; replace hb11 : y1.length ≤ 140737488355328 := hb11
      refine Dz.tt (b := decide (((i2 : Nat) : Int) < ((y1.length : Nat) : Int))) rfl (decide_eq_true (by omega)) ?_
      refine Dz.skip ?_
      refine Dz.seq ?_
      refine Dz.blk ?_
      refine Dz.seq ?_
      refine Dz.seq ?_
      refine Dz.reg ?_
      refine vge (n := ((i2 : Nat) : Int)) (hi := (y1.length : Int)) (by omega) (by omega) ?_
      refine Dz.ite rfl hF (fun _ hF => ?_) (fun _ hF => ?_)
      · refine Dz.exit ?_
        refine Dz.reg ?_
        refine vsucc (by omega) ?_
        exact ⟨v9, entG [0, 1, 2] ⟨⟨rfl, rfl, trivial⟩, ⟨rfl, rfl, trivial⟩, ⟨rfl, rfl, trivial⟩, m_val rfl, trivial⟩ ⟨⟨rfl, o_row⟩, ⟨rfl, o_row⟩, ⟨rfl, o_row⟩, trivial⟩ rfl, hF⟩
      · refine Dz.skip ?_
        refine Dz.seq ?_
        refine Dz.reg ?_
        refine vge (n := ((i2 : Nat) : Int)) (hi := (y1.length : Int)) (by omega) (by omega) ?_
        refine bdE hF (fun y12 hy12 hF => ?_)
        refine callG [] (s_l65Line_c hy12) ⟨m_val rfl, trivial⟩ trivial rfl ?_
        refine Dz.seq ?_
        refine Dz.seq ?_
        refine Dz.reg ?_
        refine Dz.ite rfl hF (fun _ hF => ?_) (fun _ hF => ?_)
        · refine Dz.seq ?_
          refine Dz.reg ?_
          refine vsucc (by omega) ?_
          refine Dz.ret ?_
          cases hF
          exact finG [] [0] rfl rfl ⟨⟨rfl, ⟨rfl, trivial⟩⟩, ⟨rfl, mls_same rfl⟩, trivial⟩ ⟨⟨rfl, o_row⟩, trivial⟩ rfl
        · refine Dz.skip ?_
          refine Dz.reg ?_
          refine vck hF id (fun _ hF => ?_)
          refine Dz.row 4 ([y12.1] : List PanEvent).length (gl PanEvent.c ([y12.1] : List PanEvent)) rfl (by simp <;> omega) (EqG.lit (c := PanEvent.c) (sz := 12) (L := ([y12.1] : List PanEvent)) ⟨LeU.refl _, LeU.refl _, LeU.refl _, LeU.refl _, LeU.refl _, LeU.refl _, LeU.refl _, LeU.refl _, LeU.refl _, LeU.refl _, LeU.refl _, LeU.refl _, trivial⟩) ?_
          refine Dz.row 5 (v9 ++ ([y12.1] : List PanEvent)).length (gl PanEvent.c (v9 ++ ([y12.1] : List PanEvent))) rfl (by simp <;> omega) (EqG.app rfl (by simp <;> omega) (EqG.refl _ _ _) (EqG.lit (c := PanEvent.c) (sz := 12) (L := ([y12.1] : List PanEvent)) ⟨LeU.refl _, LeU.refl _, LeU.refl _, LeU.refl _, LeU.refl _, LeU.refl _, LeU.refl _, LeU.refl _, LeU.refl _, LeU.refl _, LeU.refl _, LeU.refl _, trivial⟩)) ?_
          refine Dz.reg ?_
          refine vsucc (by omega) ?_
          exact ⟨(v9 ++ ([y12.1] : List PanEvent)), entG [0, 5, 2] ⟨⟨rfl, rfl, trivial⟩, ⟨rfl, rfl, trivial⟩, ⟨rfl, rfl, trivial⟩, m_val rfl, trivial⟩ ⟨⟨rfl, o_row⟩, ⟨rfl, o_row⟩, ⟨rfl, o_row⟩, trivial⟩ rfl, hF⟩
end Go.Proofs.PanM

/-! Printed by wip/tools/walk.py. -/
namespace Go.Proofs.PanM
open Go.Vs
set_option maxRecDepth 8000
def i_lineKinds : Option ((List lineKind)) :=
  some ([({ word := (⟨#[98, 101, 103, 105, 110, 115]⟩ : ByteArray), kind := 1, keep := false, fields := (⟨#[99, 111, 112, 98, 101, 100]⟩ : ByteArray) } : lineKind), ({ word := (⟨#[115, 101, 110, 100, 115]⟩ : ByteArray), kind := 2, keep := false, fields := (⟨#[99, 115]⟩ : ByteArray) } : lineKind), ({ word := (⟨#[103, 105, 118, 101, 115]⟩ : ByteArray), kind := 3, keep := false, fields := (⟨#[99]⟩ : ByteArray) } : lineKind), ({ word := (⟨#[98, 114, 105, 110, 103, 115]⟩ : ByteArray), kind := 4, keep := false, fields := (⟨#[119]⟩ : ByteArray) } : lineKind), ({ word := (⟨#[100, 111, 117, 98, 108, 101, 115]⟩ : ByteArray), kind := 4, keep := true, fields := (⟨#[119]⟩ : ByteArray) } : lineKind), ({ word := (⟨#[108, 111, 115, 101, 115]⟩ : ByteArray), kind := 5, keep := false, fields := (⟨#[119]⟩ : ByteArray) } : lineKind), ({ word := (⟨#[102, 97, 108, 108, 115]⟩ : ByteArray), kind := 6, keep := false, fields := (⟨#[115]⟩ : ByteArray) } : lineKind), ({ word := (⟨#[114, 105, 115, 101, 115]⟩ : ByteArray), kind := 7, keep := false, fields := (⟨#[115]⟩ : ByteArray) } : lineKind), ({ word := (⟨#[103, 111, 101, 115]⟩ : ByteArray), kind := 8, keep := false, fields := (⟨#[115]⟩ : ByteArray) } : lineKind), ({ word := (⟨#[115, 117, 115, 112, 101, 99, 116, 115]⟩ : ByteArray), kind := 9, keep := false, fields := (⟨#[115, 114]⟩ : ByteArray) } : lineKind), ({ word := (⟨#[116, 101, 110, 100, 115]⟩ : ByteArray), kind := 10, keep := false, fields := (⟨#[115, 114]⟩ : ByteArray) } : lineKind), ({ word := (⟨#[106, 111, 105, 110, 115]⟩ : ByteArray), kind := 10, keep := true, fields := (⟨#[115, 114]⟩ : ByteArray) } : lineKind), ({ word := (⟨#[115, 101, 101, 107, 115]⟩ : ByteArray), kind := 11, keep := false, fields := (⟨#[115]⟩ : ByteArray) } : lineKind), ({ word := (⟨#[110, 101, 101, 100, 115]⟩ : ByteArray), kind := 12, keep := false, fields := (⟨#[115, 120]⟩ : ByteArray) } : lineKind)] : List lineKind)
theorem i_lineKinds_c {r : (List lineKind)} (hF : i_lineKinds = some r) : Con Tryd.prog 32 [] [] (.val false [.row 0]) [.row 61 r.length 4 (gl lineKind.c r)] := by
  refine Con.of_Dz tabOk Tryd.func32 rfl rfl rfl ?_
  delta i_lineKinds at hF
  refine Dz.seq ?_
  refine Dz.reg ?_
  refine Dz.seq ?_
  refine Dz.reg ?_
  refine Dz.ret ?_
  cases hF
  exact finG [] [0] rfl rfl (⟨rfl, rfl, trivial⟩) ⟨⟨rfl, o_rowE (by simp <;> omega) (EqG.lit (c := lineKind.c) (sz := 4) (L := ([({ word := (⟨#[98, 101, 103, 105, 110, 115]⟩ : ByteArray), kind := 1, keep := false, fields := (⟨#[99, 111, 112, 98, 101, 100]⟩ : ByteArray) } : lineKind), ({ word := (⟨#[115, 101, 110, 100, 115]⟩ : ByteArray), kind := 2, keep := false, fields := (⟨#[99, 115]⟩ : ByteArray) } : lineKind), ({ word := (⟨#[103, 105, 118, 101, 115]⟩ : ByteArray), kind := 3, keep := false, fields := (⟨#[99]⟩ : ByteArray) } : lineKind), ({ word := (⟨#[98, 114, 105, 110, 103, 115]⟩ : ByteArray), kind := 4, keep := false, fields := (⟨#[119]⟩ : ByteArray) } : lineKind), ({ word := (⟨#[100, 111, 117, 98, 108, 101, 115]⟩ : ByteArray), kind := 4, keep := true, fields := (⟨#[119]⟩ : ByteArray) } : lineKind), ({ word := (⟨#[108, 111, 115, 101, 115]⟩ : ByteArray), kind := 5, keep := false, fields := (⟨#[119]⟩ : ByteArray) } : lineKind), ({ word := (⟨#[102, 97, 108, 108, 115]⟩ : ByteArray), kind := 6, keep := false, fields := (⟨#[115]⟩ : ByteArray) } : lineKind), ({ word := (⟨#[114, 105, 115, 101, 115]⟩ : ByteArray), kind := 7, keep := false, fields := (⟨#[115]⟩ : ByteArray) } : lineKind), ({ word := (⟨#[103, 111, 101, 115]⟩ : ByteArray), kind := 8, keep := false, fields := (⟨#[115]⟩ : ByteArray) } : lineKind), ({ word := (⟨#[115, 117, 115, 112, 101, 99, 116, 115]⟩ : ByteArray), kind := 9, keep := false, fields := (⟨#[115, 114]⟩ : ByteArray) } : lineKind), ({ word := (⟨#[116, 101, 110, 100, 115]⟩ : ByteArray), kind := 10, keep := false, fields := (⟨#[115, 114]⟩ : ByteArray) } : lineKind), ({ word := (⟨#[106, 111, 105, 110, 115]⟩ : ByteArray), kind := 10, keep := true, fields := (⟨#[115, 114]⟩ : ByteArray) } : lineKind), ({ word := (⟨#[115, 101, 101, 107, 115]⟩ : ByteArray), kind := 11, keep := false, fields := (⟨#[115]⟩ : ByteArray) } : lineKind), ({ word := (⟨#[110, 101, 101, 100, 115]⟩ : ByteArray), kind := 12, keep := false, fields := (⟨#[115, 120]⟩ : ByteArray) } : lineKind)] : List lineKind)) ⟨LeU.refl _, LeU.refl _, LeU.refl _, LeU.refl _, LeU.refl _, LeU.refl _, LeU.refl _, LeU.refl _, LeU.refl _, LeU.refl _, LeU.refl _, LeU.refl _, LeU.refl _, LeU.refl _, LeU.refl _, LeU.refl _, LeU.refl _, LeU.refl _, LeU.refl _, LeU.refl _, LeU.refl _, LeU.refl _, LeU.refl _, LeU.refl _, LeU.refl _, LeU.refl _, LeU.refl _, LeU.refl _, LeU.refl _, LeU.refl _, LeU.refl _, LeU.refl _, LeU.refl _, LeU.refl _, LeU.refl _, LeU.refl _, LeU.refl _, LeU.refl _, LeU.refl _, LeU.refl _, LeU.refl _, LeU.refl _, LeU.refl _, LeU.refl _, LeU.refl _, LeU.refl _, LeU.refl _, LeU.refl _, LeU.refl _, LeU.refl _, LeU.refl _, LeU.refl _, LeU.refl _, LeU.refl _, LeU.refl _, LeU.refl _, trivial⟩)⟩, trivial⟩ rfl
end Go.Proofs.PanM

/-! Printed by wip/tools/walk.py. -/
namespace Go.Proofs.PanM
open Go.Vs
set_option maxRecDepth 8000
theorem i_field_w99 {a0 : PanEvent} : Con Tryd.prog 54 [.ptr 0 0, vint .u8 99] [.box 48 (PanEvent.L a0)] (.ptr 0 3) [.box 48 (PanEvent.L a0)] := by
  refine Con.of_Dz (T := T) tabOk Tryd.func54 rfl rfl rfl ?_
  refine Dz.seq ?_
  refine Dz.reg ?_
  refine Dz.seq ?_
  refine Dz.seq ?_
  refine Dz.reg ?_
  refine Dz.blk ?_
  refine Dz.seq ?_
  refine Dz.reg ?_
  refine Dz.tt (b := true) rfl rfl ?_
  refine Dz.seq ?_
  refine Dz.reg ?_
  refine Dz.ret ?_
  exact finG [] [0] rfl rfl (m_ptr rfl) ⟨⟨rfl, o_box rfl⟩, trivial⟩ rfl
theorem i_field_w111 {a0 : PanEvent} : Con Tryd.prog 54 [.ptr 0 0, vint .u8 111] [.box 48 (PanEvent.L a0)] (.ptr 0 7) [.box 48 (PanEvent.L a0)] := by
  refine Con.of_Dz (T := T) tabOk Tryd.func54 rfl rfl rfl ?_
  refine Dz.seq ?_
  refine Dz.reg ?_
  refine Dz.seq ?_
  refine Dz.seq ?_
  refine Dz.reg ?_
  refine Dz.blk ?_
  refine Dz.seq ?_
  refine Dz.reg ?_
  refine Dz.ff (b := false) rfl rfl ?_
  refine Dz.seq ?_
  refine Dz.reg ?_
  refine Dz.tt (b := true) rfl rfl ?_
  refine Dz.seq ?_
  refine Dz.reg ?_
  refine Dz.ret ?_
  exact finG [] [0] rfl rfl (m_ptr rfl) ⟨⟨rfl, o_box rfl⟩, trivial⟩ rfl
theorem i_field_w112 {a0 : PanEvent} : Con Tryd.prog 54 [.ptr 0 0, vint .u8 112] [.box 48 (PanEvent.L a0)] (.ptr 0 8) [.box 48 (PanEvent.L a0)] := by
  refine Con.of_Dz (T := T) tabOk Tryd.func54 rfl rfl rfl ?_
  refine Dz.seq ?_
  refine Dz.reg ?_
  refine Dz.seq ?_
  refine Dz.seq ?_
  refine Dz.reg ?_
  refine Dz.blk ?_
  refine Dz.seq ?_
  refine Dz.reg ?_
  refine Dz.ff (b := false) rfl rfl ?_
  refine Dz.seq ?_
  refine Dz.reg ?_
  refine Dz.ff (b := false) rfl rfl ?_
  refine Dz.seq ?_
  refine Dz.reg ?_
  refine Dz.tt (b := true) rfl rfl ?_
  refine Dz.seq ?_
  refine Dz.reg ?_
  refine Dz.ret ?_
  exact finG [] [0] rfl rfl (m_ptr rfl) ⟨⟨rfl, o_box rfl⟩, trivial⟩ rfl
theorem i_field_w98 {a0 : PanEvent} : Con Tryd.prog 54 [.ptr 0 0, vint .u8 98] [.box 48 (PanEvent.L a0)] (.ptr 0 9) [.box 48 (PanEvent.L a0)] := by
  refine Con.of_Dz (T := T) tabOk Tryd.func54 rfl rfl rfl ?_
  refine Dz.seq ?_
  refine Dz.reg ?_
  refine Dz.seq ?_
  refine Dz.seq ?_
  refine Dz.reg ?_
  refine Dz.blk ?_
  refine Dz.seq ?_
  refine Dz.reg ?_
  refine Dz.ff (b := false) rfl rfl ?_
  refine Dz.seq ?_
  refine Dz.reg ?_
  refine Dz.ff (b := false) rfl rfl ?_
  refine Dz.seq ?_
  refine Dz.reg ?_
  refine Dz.ff (b := false) rfl rfl ?_
  refine Dz.seq ?_
  refine Dz.reg ?_
  refine Dz.tt (b := true) rfl rfl ?_
  refine Dz.seq ?_
  refine Dz.reg ?_
  refine Dz.ret ?_
  exact finG [] [0] rfl rfl (m_ptr rfl) ⟨⟨rfl, o_box rfl⟩, trivial⟩ rfl
theorem i_field_w101 {a0 : PanEvent} : Con Tryd.prog 54 [.ptr 0 0, vint .u8 101] [.box 48 (PanEvent.L a0)] (.ptr 0 10) [.box 48 (PanEvent.L a0)] := by
  refine Con.of_Dz (T := T) tabOk Tryd.func54 rfl rfl rfl ?_
  refine Dz.seq ?_
  refine Dz.reg ?_
  refine Dz.seq ?_
  refine Dz.seq ?_
  refine Dz.reg ?_
  refine Dz.blk ?_
  refine Dz.seq ?_
  refine Dz.reg ?_
  refine Dz.ff (b := false) rfl rfl ?_
  refine Dz.seq ?_
  refine Dz.reg ?_
  refine Dz.ff (b := false) rfl rfl ?_
  refine Dz.seq ?_
  refine Dz.reg ?_
  refine Dz.ff (b := false) rfl rfl ?_
  refine Dz.seq ?_
  refine Dz.reg ?_
  refine Dz.ff (b := false) rfl rfl ?_
  refine Dz.seq ?_
  refine Dz.reg ?_
  refine Dz.tt (b := true) rfl rfl ?_
  refine Dz.seq ?_
  refine Dz.reg ?_
  refine Dz.ret ?_
  exact finG [] [0] rfl rfl (m_ptr rfl) ⟨⟨rfl, o_box rfl⟩, trivial⟩ rfl
theorem i_field_w100 {a0 : PanEvent} : Con Tryd.prog 54 [.ptr 0 0, vint .u8 100] [.box 48 (PanEvent.L a0)] (.ptr 0 11) [.box 48 (PanEvent.L a0)] := by
  refine Con.of_Dz (T := T) tabOk Tryd.func54 rfl rfl rfl ?_
  refine Dz.seq ?_
  refine Dz.reg ?_
  refine Dz.seq ?_
  refine Dz.seq ?_
  refine Dz.reg ?_
  refine Dz.blk ?_
  refine Dz.seq ?_
  refine Dz.reg ?_
  refine Dz.ff (b := false) rfl rfl ?_
  refine Dz.seq ?_
  refine Dz.reg ?_
  refine Dz.ff (b := false) rfl rfl ?_
  refine Dz.seq ?_
  refine Dz.reg ?_
  refine Dz.ff (b := false) rfl rfl ?_
  refine Dz.seq ?_
  refine Dz.reg ?_
  refine Dz.ff (b := false) rfl rfl ?_
  refine Dz.seq ?_
  refine Dz.reg ?_
  refine Dz.ff (b := false) rfl rfl ?_
  refine Dz.seq ?_
  refine Dz.reg ?_
  refine Dz.tt (b := true) rfl rfl ?_
  refine Dz.seq ?_
  refine Dz.reg ?_
  refine Dz.ret ?_
  exact finG [] [0] rfl rfl (m_ptr rfl) ⟨⟨rfl, o_box rfl⟩, trivial⟩ rfl
theorem i_field_w115 {a0 : PanEvent} : Con Tryd.prog 54 [.ptr 0 0, vint .u8 115] [.box 48 (PanEvent.L a0)] (.ptr 0 1) [.box 48 (PanEvent.L a0)] := by
  refine Con.of_Dz (T := T) tabOk Tryd.func54 rfl rfl rfl ?_
  refine Dz.seq ?_
  refine Dz.reg ?_
  refine Dz.seq ?_
  refine Dz.seq ?_
  refine Dz.reg ?_
  refine Dz.blk ?_
  refine Dz.seq ?_
  refine Dz.reg ?_
  refine Dz.ff (b := false) rfl rfl ?_
  refine Dz.seq ?_
  refine Dz.reg ?_
  refine Dz.ff (b := false) rfl rfl ?_
  refine Dz.seq ?_
  refine Dz.reg ?_
  refine Dz.ff (b := false) rfl rfl ?_
  refine Dz.seq ?_
  refine Dz.reg ?_
  refine Dz.ff (b := false) rfl rfl ?_
  refine Dz.seq ?_
  refine Dz.reg ?_
  refine Dz.ff (b := false) rfl rfl ?_
  refine Dz.seq ?_
  refine Dz.reg ?_
  refine Dz.ff (b := false) rfl rfl ?_
  refine Dz.seq ?_
  refine Dz.reg ?_
  refine Dz.tt (b := true) rfl rfl ?_
  refine Dz.seq ?_
  refine Dz.reg ?_
  refine Dz.ret ?_
  exact finG [] [0] rfl rfl (m_ptr rfl) ⟨⟨rfl, o_box rfl⟩, trivial⟩ rfl
theorem i_field_w119 {a0 : PanEvent} : Con Tryd.prog 54 [.ptr 0 0, vint .u8 119] [.box 48 (PanEvent.L a0)] (.ptr 0 4) [.box 48 (PanEvent.L a0)] := by
  refine Con.of_Dz (T := T) tabOk Tryd.func54 rfl rfl rfl ?_
  refine Dz.seq ?_
  refine Dz.reg ?_
  refine Dz.seq ?_
  refine Dz.seq ?_
  refine Dz.reg ?_
  refine Dz.blk ?_
  refine Dz.seq ?_
  refine Dz.reg ?_
  refine Dz.ff (b := false) rfl rfl ?_
  refine Dz.seq ?_
  refine Dz.reg ?_
  refine Dz.ff (b := false) rfl rfl ?_
  refine Dz.seq ?_
  refine Dz.reg ?_
  refine Dz.ff (b := false) rfl rfl ?_
  refine Dz.seq ?_
  refine Dz.reg ?_
  refine Dz.ff (b := false) rfl rfl ?_
  refine Dz.seq ?_
  refine Dz.reg ?_
  refine Dz.ff (b := false) rfl rfl ?_
  refine Dz.seq ?_
  refine Dz.reg ?_
  refine Dz.ff (b := false) rfl rfl ?_
  refine Dz.seq ?_
  refine Dz.reg ?_
  refine Dz.ff (b := false) rfl rfl ?_
  refine Dz.seq ?_
  refine Dz.reg ?_
  refine Dz.tt (b := true) rfl rfl ?_
  refine Dz.seq ?_
  refine Dz.reg ?_
  refine Dz.ret ?_
  exact finG [] [0] rfl rfl (m_ptr rfl) ⟨⟨rfl, o_box rfl⟩, trivial⟩ rfl
theorem i_field_w114 {a0 : PanEvent} : Con Tryd.prog 54 [.ptr 0 0, vint .u8 114] [.box 48 (PanEvent.L a0)] (.ptr 0 6) [.box 48 (PanEvent.L a0)] := by
  refine Con.of_Dz (T := T) tabOk Tryd.func54 rfl rfl rfl ?_
  refine Dz.seq ?_
  refine Dz.reg ?_
  refine Dz.seq ?_
  refine Dz.seq ?_
  refine Dz.reg ?_
  refine Dz.blk ?_
  refine Dz.seq ?_
  refine Dz.reg ?_
  refine Dz.ff (b := false) rfl rfl ?_
  refine Dz.seq ?_
  refine Dz.reg ?_
  refine Dz.ff (b := false) rfl rfl ?_
  refine Dz.seq ?_
  refine Dz.reg ?_
  refine Dz.ff (b := false) rfl rfl ?_
  refine Dz.seq ?_
  refine Dz.reg ?_
  refine Dz.ff (b := false) rfl rfl ?_
  refine Dz.seq ?_
  refine Dz.reg ?_
  refine Dz.ff (b := false) rfl rfl ?_
  refine Dz.seq ?_
  refine Dz.reg ?_
  refine Dz.ff (b := false) rfl rfl ?_
  refine Dz.seq ?_
  refine Dz.reg ?_
  refine Dz.ff (b := false) rfl rfl ?_
  refine Dz.seq ?_
  refine Dz.reg ?_
  refine Dz.ff (b := false) rfl rfl ?_
  refine Dz.seq ?_
  refine Dz.reg ?_
  refine Dz.tt (b := true) rfl rfl ?_
  refine Dz.seq ?_
  refine Dz.reg ?_
  refine Dz.ret ?_
  exact finG [] [0] rfl rfl (m_ptr rfl) ⟨⟨rfl, o_box rfl⟩, trivial⟩ rfl
theorem i_field_wd {a0 : PanEvent} {a1 : Int} (h99 : ¬ a1 = 99) (h111 : ¬ a1 = 111) (h112 : ¬ a1 = 112) (h98 : ¬ a1 = 98) (h101 : ¬ a1 = 101) (h100 : ¬ a1 = 100) (h115 : ¬ a1 = 115) (h119 : ¬ a1 = 119) (h114 : ¬ a1 = 114) : Con Tryd.prog 54 [.ptr 0 0, vint .u8 a1] [.box 48 (PanEvent.L a0)] (.ptr 0 2) [.box 48 (PanEvent.L a0)] := by
  refine Con.of_Dz (T := T) tabOk Tryd.func54 rfl rfl rfl ?_
  refine Dz.seq ?_
  refine Dz.reg ?_
  refine Dz.seq ?_
  refine Dz.seq ?_
  refine Dz.reg ?_
  refine Dz.blk ?_
  refine Dz.seq ?_
  refine Dz.reg ?_
  refine Dz.ff (b := decide (a1 = 99)) rfl (decide_eq_false (by omega)) ?_
  refine Dz.seq ?_
  refine Dz.reg ?_
  refine Dz.ff (b := decide (a1 = 111)) rfl (decide_eq_false (by omega)) ?_
  refine Dz.seq ?_
  refine Dz.reg ?_
  refine Dz.ff (b := decide (a1 = 112)) rfl (decide_eq_false (by omega)) ?_
  refine Dz.seq ?_
  refine Dz.reg ?_
  refine Dz.ff (b := decide (a1 = 98)) rfl (decide_eq_false (by omega)) ?_
  refine Dz.seq ?_
  refine Dz.reg ?_
  refine Dz.ff (b := decide (a1 = 101)) rfl (decide_eq_false (by omega)) ?_
  refine Dz.seq ?_
  refine Dz.reg ?_
  refine Dz.ff (b := decide (a1 = 100)) rfl (decide_eq_false (by omega)) ?_
  refine Dz.seq ?_
  refine Dz.reg ?_
  refine Dz.ff (b := decide (a1 = 115)) rfl (decide_eq_false (by omega)) ?_
  refine Dz.seq ?_
  refine Dz.reg ?_
  refine Dz.ff (b := decide (a1 = 119)) rfl (decide_eq_false (by omega)) ?_
  refine Dz.seq ?_
  refine Dz.reg ?_
  refine Dz.ff (b := decide (a1 = 114)) rfl (decide_eq_false (by omega)) ?_
  refine Dz.skip ?_
  refine Dz.seq ?_
  refine Dz.reg ?_
  refine Dz.ret ?_
  exact finG [] [0] rfl rfl (m_ptr rfl) ⟨⟨rfl, o_box rfl⟩, trivial⟩ rfl
end Go.Proofs.PanM

/-! Printed by wip/tools/walk.py. -/
namespace Go.Proofs.PanM
open Go.Vs
set_option maxRecDepth 8000
def i_in (a0 : Int) (a1 : Int) (a2 : Int) : Option (Bool) :=
  cond (decide (a1 ≤ a0)) (some (decide (a0 ≤ a2))) (some false)
theorem i_in_c {a0 : Int} {a1 : Int} {a2 : Int} {r : Bool} (hF : i_in a0 a1 a2 = some r) : Con Tryd.prog 55 [vint .i64 a0, vint .i64 a1, vint .i64 a2] [] (vbool r) [] := by
  refine Con.of_Dz tabOk Tryd.func55 rfl rfl rfl ?_
  delta i_in at hF
  refine Dz.seq ?_
  refine Dz.reg ?_
  refine Dz.seq ?_
  refine Dz.reg ?_
  refine vif hF (fun _ hF => ?_) (fun _ hF => ?_)
  · refine Dz.ret ?_
    cases hF
    exact finG [] [] rfl rfl (m_val rfl) trivial rfl
  · refine Dz.ret ?_
    cases hF
    exact finG [] [] rfl rfl (m_val rfl) trivial rfl
end Go.Proofs.PanM

/-! Printed by wip/tools/walk.py. -/
namespace Go.Proofs.PanM
open Go.Vs
set_option maxRecDepth 8000
def i_number (a0 : ByteArray) : Option (Int × Bool) :=
  jn (fun (v1 : Unit) => ck ((a0.size : Int) ≤ 4611686018427387904) (loopN (fun i2 (v11 : Int) κ12 => ixs a0 ((i2 : Nat) : Int) (fun y13 => (i_in (IntKind.wrap .i64 y13) 48 57).bind (fun y14 => cond (!y14) (some (0, false)) (ixs a0 ((i2 : Nat) : Int) (fun y15 => κ12 (w64 ((w64 (10 * v11)) + (IntKind.wrap .i64 (IntKind.wrap .u8 (y15 - 48)))))))))) (fun (v11 : Int) => some (v11, true)) ((a0.size : Int).toNat) 0 0)) (fun j16 => (i_in (a0.size : Int) 1 5).bind (fun y17 => cond (!y17) (some (0, false)) (ixs a0 0 (fun y18 => cond (decide (y18 = 48)) (cond (decide ((1 : Int) < (a0.size : Int))) (some (0, false)) (j16 ())) (j16 ())))))
theorem i_number_c {a0 : ByteArray} {r : Int × Bool} (hF : i_number a0 = some r) : Con Tryd.prog 60 [vstr a0] [] (.tup [(false, [.u (cI r.1)]), (false, [.u (.bool r.2)])]) [] := by
  refine Con.of_Dz tabOk Tryd.func60 rfl rfl rfl ?_
  delta i_number at hF
  refine Dz.seq ?_
  refine Dz.reg ?_
  refine Dz.jn hF (fun v1 => ([(0, vstr a0)], [])) (fun v1 hF => ?_) (fun hF => ?_)
  · refine Dz.seq ?_
    refine Dz.reg ?_
    refine Dz.seq ?_
    refine Dz.seq ?_
    refine Dz.reg ?_
    refine Dz.blk ?_
    obtain ⟨hNi2, hF⟩ := ckE hF
    refine Dz.cnt hF (fun i2 v11 => ([(0, vstr a0), (4, vint .i64 v11), (5, vint .i64 ((i2 : Nat) : Int))], [])) (entG [] ⟨m_val rfl, m_val rfl, m_val rfl, trivial⟩ trivial rfl) (fun v11 hF => ?_) (fun i2 v11 κ12 hi0i2 hi1i2 hF => ?_)
    · refine Dz.seq ?_
      refine Dz.seq ?_
      refine Dz.reg ?_
      refine Dz.ff (b := decide (((0 + (a0.size : Int).toNat : Nat) : Int) < (a0.size : Int))) rfl (decide_eq_false (by omega)) ?_
      refine Dz.exit ?_
      refine Dz.seq ?_
      refine Dz.reg ?_
      refine Dz.ret ?_
      cases hF
      exact finG [] [] rfl rfl ⟨⟨rfl, mls_same rfl⟩, ⟨rfl, mls_same rfl⟩, trivial⟩ trivial rfl
    · refine Dz.seq ?_
      refine Dz.seq ?_
      refine Dz.reg ?_
      refine Dz.tt (b := decide (((i2 : Nat) : Int) < (a0.size : Int))) rfl (decide_eq_true (by omega)) ?_
      refine Dz.skip ?_
      refine Dz.seq ?_
      refine Dz.blk ?_
      refine Dz.seq ?_
      refine Dz.seq ?_
      refine Dz.reg ?_
      refine vixs hF (fun _ _ hF => ?_)
      refine vwr ?_
      refine bdE hF (fun y14 hy14 hF => ?_)
      refine callG [] (i_in_c hy14) ⟨m_val rfl, m_val rfl, m_val rfl, trivial⟩ trivial rfl ?_
      refine Dz.ite rfl hF (fun _ hF => ?_) (fun _ hF => ?_)
      · refine Dz.seq ?_
        refine Dz.reg ?_
        refine Dz.ret ?_
        cases hF
        exact finG [] [] rfl rfl ⟨⟨rfl, mls_same rfl⟩, ⟨rfl, mls_same rfl⟩, trivial⟩ trivial rfl
      · refine Dz.skip ?_
        refine Dz.reg ?_
        refine vw64 ?_
        refine vixs hF (fun _ _ hF => ?_)
        refine vwr ?_
        refine vwr ?_
        refine vw64 ?_
        refine Dz.reg ?_
        refine vsucc (by omega) ?_
        exact ⟨(w64 ((w64 (10 * v11)) + (IntKind.wrap .i64 (IntKind.wrap .u8 ((byteAt a0 ((i2 : Nat) : Int).toNat) - 48))))), entG [] ⟨m_val rfl, m_val rfl, m_val rfl, trivial⟩ trivial rfl, hF⟩
  · refine Dz.seq ?_
    refine Dz.reg ?_
    refine bdE hF (fun y17 hy17 hF => ?_)
    refine callG [] (i_in_c hy17) ⟨m_val rfl, m_val rfl, m_val rfl, trivial⟩ trivial rfl ?_
    refine vif hF (fun _ hF => ?_) (fun _ hF => ?_)
    · refine Dz.tt (b := true) rfl rfl ?_
      refine Dz.seq ?_
      refine Dz.reg ?_
      refine Dz.ret ?_
      cases hF
      exact finG [] [] rfl rfl ⟨⟨rfl, mls_same rfl⟩, ⟨rfl, mls_same rfl⟩, trivial⟩ trivial rfl
    · refine vixs hF (fun _ _ hF => ?_)
      refine vif hF (fun _ hF => ?_) (fun _ hF => ?_)
      · refine Dz.ite rfl hF (fun _ hF => ?_) (fun _ hF => ?_)
        · refine Dz.seq ?_
          refine Dz.reg ?_
          refine Dz.ret ?_
          cases hF
          exact finG [] [] rfl rfl ⟨⟨rfl, mls_same rfl⟩, ⟨rfl, mls_same rfl⟩, trivial⟩ trivial rfl
        · refine Dz.skip ?_
          exact ⟨(), entG [] ⟨m_val rfl, trivial⟩ trivial rfl, hF⟩
      · refine Dz.ff (b := false) rfl rfl ?_
        refine Dz.skip ?_
        exact ⟨(), entG [] ⟨m_val rfl, trivial⟩ trivial rfl, hF⟩
end Go.Proofs.PanM

/-! strconv.AppendInt at base 10: the row that is handed over is turned, or a new row is made; every other block stays. -/
namespace Go.Vs
open Go.Shelf Go.RowKit Go.Sort Go.Lib Go.Proofs

/-- Whose block a value behind an append has: the one it had, or a new one. -/
def Heir (w : World) (v v' : Value) : Prop := ∀ b, v'.ownBlock = some b → v.ownBlock = some b ∨ w.heap.size ≤ b
/-- All blocks but the value's own stand. -/
def Kp (w : World) (v : Value) (w' : World) : Prop := w.heap.size ≤ w'.heap.size ∧ ∀ k, k < w.heap.size → v.ownBlock ≠ some k → w'.heap[k]? = w.heap[k]?

theorem Heir.trans {w w1 : World} {v v1 v2 : Value} (h : Heir w v v1) (hs : w.heap.size ≤ w1.heap.size) (k : Heir w1 v1 v2) : Heir w v v2 := fun b hb => by
  rcases k b hb with h1 | h1
  · exact h b h1
  · exact .inr (by omega)
theorem Kp.trans {w w1 w2 : World} {v v1 : Value} (h : Kp w v w1) (hh : Heir w v v1) (k : Kp w1 v1 w2) : Kp w v w2 := by
  have h1 := h.1; have h2 := k.1
  refine ⟨Nat.le_trans h1 h2, fun b hb hn => ?_⟩
  rw [k.2 b (by omega) (fun e => by
    rcases hh b e with h3 | h3
    · exact hn h3
    · omega)]
  exact h.2 b hb hn
theorem Kp.grown {w w' : World} {v : Value} (h : w.grownBy w' v.ownBlock) : Kp w v w' := ⟨h.size, fun k hk hn => h.block k hk fun e => hn e.symm⟩

section
variable {P : Program}
/-- A string's bytes appended: whose block comes back. -/
theorem app_str_heir (w : World) (t u ty e : TypeId) (i : TypeInfo) (ht : P.underlying t = some (.slice e)) (hu : P.underlying u = some .string) (hi : P.info? e = some i) (hz : i.zero = some (.int .u8 0))
    (hsize : i.size = 1) (hby : i.bytes = 1) (base : Nat) (v : Value) (n : Nat) (xs : List Value) (hown : w.ownsRow base e 1 v n xs) (s : ByteArray)
    (h63 : n + s.size ≤ maxLen) (hbytes : n + s.size ≤ 140737488355328) {v' : Value} {w' : World} (hr : (Builtin.append_ #[t, u] ty #[v, .string s]).run P w = .ok v' w') : Heir w v v' := by
  have hsmall : n + s.size ≤ 9223372036854775807 := by simp only [maxLen] at h63; omega
  have hxl : xs.length = n := by simpa using hown.1
  rcases hown.2 with ⟨rfl, rfl⟩ | ⟨g, cap, cur, rfl, hbg, hg, hnc, hcm, hcs, htake⟩
  · by_cases hm : s.size = 0
    · have hf := run_firstCells_string (P := P) w 1 s
      rw [hm] at hf
      have : (Builtin.append_ #[t, u] ty #[.slice none 0 0, .string s]).run P w = .ok (.slice none 0 0) w := by
        simp [Builtin.append_, run_underlying ht, run_underlying hu, sizeOf, typeInfo, hi, hsize, Builtin.lenOf, hm, hf]
      rw [this] at hr
      cases hr
      intro b hb; cases hb
    · have hr2 := run_append_nil_string (P := P) w t u ty e i (.int .u8 0) ht hu hi hz s (by omega) (by omega) (by rw [hby]; omega)
      rw [hr2] at hr
      cases hr
      intro b hb
      simp [Value.ownBlock] at hb
      exact .inr (by omega)
  · by_cases hroom : n + s.size ≤ cap
    · have hcs' : cur.size = cap := by simpa using hcs
      have hr2 := run_append_room_string (P := P) w t u ty e i ht hu hi hsize g n cap cur hg s hroom (by omega)
      rw [hr2] at hr
      cases hr
      intro b hb
      exact .inl hb
    · have holds : ∀ j u, xs[j]? = some u → w.cell? ((⟨g, 0, none⟩ : Addr).add j) = some u := hown.cells (g := g) rfl
      have hr2 := run_append_grow_string (P := P) w t u ty e i (.int .u8 0) ht hu hi hz ⟨g, 0, none⟩ n cap xs (by rw [hsize]; simpa using hxl) holds s (by omega) (by omega) (by rw [hby]; exact growslice_fits (by omega) (by omega))
      rw [hr2] at hr
      cases hr
      intro b hb
      simp [Value.ownBlock] at hb
      exact .inr (by omega)

theorem wpl_app_str {w : World} {ops : Array Oper} {rest : List Oper} {o : Oper} {a : Act} {Q : Exit → Act → World → Prop} (hgd : o.guard = none) (sl x : Operand) (t u : TypeId)
    (ho : o.op = .call { callee := .builtin .append, args := #[sl, x], argTypes := #[t, u] })
    (base : Nat) (e : TypeId) (i : TypeInfo) (ht : P.underlying t = some (.slice e)) (hu : P.underlying u = some .string) (hi : P.info? e = some i) (hz : i.zero = some (.int .u8 0))
    (hsize : i.size = 1) (hby : i.bytes = 1)
    (v : Value) (n : Nat) (xs : List Value) (hs : a.eval sl = v) (hown : w.ownsRow base e 1 v n xs) (s : ByteArray) (hx : a.eval x = .string s)
    (h63 : n + s.size ≤ maxLen) (hbytes : n + s.size ≤ 140737488355328) (hbase : base ≤ w.heap.size)
    (h : ∀ v' w', w'.ownsRow base e 1 v' (n + s.size) (xs ++ strCells s) → w.grownBy w' v.ownBlock → Heir w v v' → wpList P ops Q rest (a.put o.dst v') w') : wpList P ops Q (o :: rest) a w := by
  refine wpList_plain hgd fun K hK => ?_
  obtain ⟨v', w', hr, h2, h3, _⟩ := run_append_own_string (P := P) w base t u o.type e i ht hu hi hz hsize hby v n xs hown s h63 hbytes hbase
  have h4 := app_str_heir w t u o.type e i ht hu hi hz hsize hby base v n xs hown s h63 hbytes hr
  unfold Oper.wp execOp
  simp only [ho, resolve, invoke, builtin, Sem.run_bind, Sem.run_pure, Result.andThen_ok, List.map_toArray, List.map_cons, List.map_nil, hs, hx, hr]
  exact hK _ _ (h v' w' h2 h3 h4)

theorem wpl_app {w : World} {ops : Array Oper} {rest : List Oper} {o : Oper} {a : Act} {Q : Exit → Act → World → Prop} (hgd : o.guard = none) (s x : Operand) (t : TypeId)
    (ho : o.op = .call { callee := .builtin .append, args := #[s, x], argTypes := #[t, t] })
    (base : Nat) (e : TypeId) (i : TypeInfo) (z : Value) (size bytes : Nat) (ht : P.underlying t = some (.slice e)) (hi : P.info? e = some i) (hz : i.zero = some z)
    (hsize : i.size = size) (hby : i.bytes = bytes) (hzs : z.cells.size = size) (hsz : 0 < size)
    (v : Value) (n : Nat) (xs : List Value) (hs : a.eval s = v) (hown : w.ownsRow base e size v n xs)
    (ad : Addr) (m c : Nat) (news : List Value) (hx : a.eval x = .slice (some ad) m c) (hl : news.length = m * size) (hnews : ∀ j u, news[j]? = some u → w.cell? (ad.add j) = some u) (h1 : ∀ u ∈ news, u.oneCell' = true)
    (h63 : n + m ≤ maxLen) (hbytes : (n + m) * bytes ≤ 140737488355328) (hbase : base ≤ w.heap.size)
    (h : ∀ v' w', w'.ownsRow base e size v' (n + m) (xs ++ news) → w.grownBy w' v.ownBlock → Heir w v v' → wpList P ops Q rest (a.put o.dst v') w') : wpList P ops Q (o :: rest) a w := by
  refine wpList_plain hgd fun K hK => ?_
  obtain ⟨v', w', hr, h2, h3, _, h5⟩ := run_append_own_at (P := P) w base t o.type e i z size bytes ht hi hz hsize hby hzs hsz v n xs hown ad m c news hl hnews h1 h63 hbytes hbase
  have h4 : Heir w v v' := fun b hb => by
    rcases h5 with h5 | h5
    · exact .inl (h5 ▸ hb)
    · rw [h5] at hb
      cases hb
      exact .inr (Nat.le_refl _)
  unfold Oper.wp execOp
  simp only [ho, resolve, invoke, builtin, Sem.run_bind, Sem.run_pure, Result.andThen_ok, List.map_toArray, List.map_cons, List.map_nil, hs, hx, hr]
  exact hK _ _ (h v' w' h2 h3 h4)

variable {ρ : Ren}
/-- What comes back of a number appended. -/
def App (ρ : Ren) (B n : Nat) (sv : Value) (xs : List Value) (w : World) (l : List UInt8) (e : Ending) (w' : World) : Prop :=
  ∃ v', e = .returned v' ∧ w'.ownsRow B (ρ.t 5) 1 v' (n + l.length) (xs ++ byteCells l) ∧ Below B w w' ∧ Kp w sv w' ∧ Heir w sv v'

set_option maxHeartbeats 6400000 in
set_option maxRecDepth 100000 in
theorem appU_small (L : LaysM.n288 P ρ) (B n u : Nat) (hu : u < 100) (sv : Value) (xs : List Value) (w : World) (hown : w.ownsRow B (ρ.t 5) 1 sv n xs) (hBw : B ≤ w.heap.size) (hlim : n + 20 ≤ 140737488355328) :
    Calls P (ρ.f 288) #[sv, .int .u64 u, .int .i64 10] w (App ρ B n sv xs w (decDigits u)) := by
  have mixed := L.mixed
  have t5 := L.t5; have a5 := L.a5; have z5 := L.z5; have v5 := L.v5
  have t37 := L.t37; have u37 := run_underlying L.t37; have a37 := L.a37; have z37 := L.z37; have v37 := L.v37
  have t53 := L.t53; have a53 := L.a53; have z53 := L.z53; have v53 := L.v53
  have t3 := L.t3; have a3 := L.a3; have z3 := L.z3; have v3 := L.v3
  have t4 := L.t4; have a4 := L.a4; have z4 := L.z4; have v4 := L.v4
  have t9 := L.t9; have a9 := L.a9; have z9 := L.z9; have v9 := L.v9
  have t171 := L.t171; have a171 := L.a171; have z171 := L.z171; have v171 := L.v171
  have t0 := L.t0; have a0 := L.a0; have z0 := L.z0; have v0 := L.v0
  have t173 := L.t173; have a173 := L.a173; have z173 := L.z173; have v173 := L.v173
  have e283 : ∀ args w, (callFunc (ρ.f 283) args).run P w = .ok (.enter (ρ.f 283) args) w := enters_of L.f283 (by kernel_rfl) rfl
  obtain ⟨i0, hi, hz0, hz1, hz2⟩ := info_parts L.i5
  have hlen : (decDigits u).length ≤ 20 := by
    rw [decDigits_length]
    by_cases h10 : u < 10
    · rw [nDigits_small h10]; omega
    · rw [nDigits_big h10, nDigits_small (show u / 10 < 10 by omega)]; omega
  have hsz : (⟨(decDigits u).toArray⟩ : ByteArray).size = (decDigits u).length := by simp [ByteArray.size]
  go_enter L.f288, Body.n288_ntmps ρ
  go_wp2_with (first
    | (go_at_fn (ρ.f 283); refine (Any.internal_strconv_small { L with } u hu _).mono ?_; rintro e w' ⟨rfl, rfl⟩)
    | (at_builtin; refine wpl_app_str rfl _ _ (ρ.t 37) (ρ.t 9) rfl B (ρ.t 5) i0 L.t37 L.t9 hi hz0 hz1 hz2 _ _ _ rfl hown ⟨(decDigits u).toArray⟩ rfl (by rw [hsz]; unfold maxLen; omega) (by rw [hsz]; omega) hBw ?_))
  intro v' w1 hown' hgrow hheir
  go_wp2
  go_ret
  refine ⟨v', rfl, ?_, (Below.refl B _).grown hgrow hBw (fun k hk => (hown.lt k hk).1), Kp.grown hgrow, hheir⟩
  first | exact hown' | (rw [hsz] at hown'; exact hown')

set_option maxHeartbeats 12800000 in
set_option maxRecDepth 100000 in
theorem appU_big (L : LaysM.n288 P ρ) (B n u : Nat) (hu : 100 ≤ u) (hu64 : u < 18446744073709551616) (sv : Value) (xs : List Value) (w : World) (hown : w.ownsRow B (ρ.t 5) 1 sv n xs) (hBw : B ≤ w.heap.size) (hlim : n + 20 ≤ 140737488355328)
    (htab : TabIs P w "internal/strconv.uint64pow10" .u64 pow10Tab) :
    Calls P (ρ.f 288) #[sv, .int .u64 u, .int .i64 10] w (App ρ B n sv xs w (decDigits u)) := by
  have mixed := L.mixed
  have t5 := L.t5; have a5 := L.a5; have z5 := L.z5; have v5 := L.v5
  have t37 := L.t37; have u37 := run_underlying L.t37; have a37 := L.a37; have z37 := L.z37; have v37 := L.v37
  have t53 := L.t53; have a53 := L.a53; have z53 := L.z53; have v53 := L.v53
  have t3 := L.t3; have a3 := L.a3; have z3 := L.z3; have v3 := L.v3
  have t4 := L.t4; have a4 := L.a4; have z4 := L.z4; have v4 := L.v4
  have t9 := L.t9; have a9 := L.a9; have z9 := L.z9; have v9 := L.v9
  have t171 := L.t171; have a171 := L.a171; have z171 := L.z171; have v171 := L.v171
  have t0 := L.t0; have a0 := L.a0; have z0 := L.z0; have v0 := L.v0
  have t173 := L.t173; have a173 := L.a173; have z173 := L.z173; have v173 := L.v173
  have e284 : ∀ args w, (callFunc (ρ.f 284) args).run P w = .ok (.enter (ρ.f 284) args) w := enters_of L.f284 (by kernel_rfl) rfl
  have e285 : ∀ args w, (callFunc (ρ.f 285) args).run P w = .ok (.enter (ρ.f 285) args) w := enters_of L.f285 (by kernel_rfl) rfl
  obtain ⟨i0, hi, hz0, hz1, hz2⟩ := info_parts L.i5
  have hu1 : 1 ≤ u := by omega
  have hnd20 : nDigits u ≤ 20 := by have := numDigits_eq u hu1 hu64; split at this <;> omega
  have hal : P.arrayLen (ρ.t 171) = 24 := by simp [Program.arrayLen, L.t171]
  have hsl : ∀ W, (Instr.sliceAt (ρ.t 171) (.pointer (some ⟨w.heap.size, 0, none⟩)) none (some (.int .i64 (nDigits u : Int))) none).run P W = .ok (.slice (some ⟨w.heap.size, 0, none⟩) (nDigits u) 24) W := fun W => by
    rw [run_sliceAt_array_h W (ρ.t 171) ⟨w.heap.size, 0, none⟩ (by simp [Program.arrayLen, Program.elem, L.t171]) .i64 (nDigits u : Int) (by omega) (by rw [hal]; omega)]
    go_simp
  have hH0 := holds_zero0 w (ρ.t 171) (nDigits u) (by omega)
  have hfmt := Any.internal_strconv_formatBase10 { L with } w.heap.size 0 24 u (Array.replicate (nDigits u) 0) (w.alloc (.cells zeros24 (ρ.t 171))) hH0 (by rw [Array.size_replicate]; exact lt_pow_nDigits u) hu64 (by rw [Array.size_replicate]; omega)
  rw [Array.size_replicate] at hfmt
  have HH0 := Lib.hid hH0
  have iu : (100 : Int) ≤ (u : Int) := by omega
  clear hH0 hal
  go_enter L.f288, Body.n288_ntmps ρ
  go_wp2_with (first
    | (go_at_fn (ρ.f 284); refine (Any.internal_strconv_numDigits { L with } u hu1 hu64 _ (tabIs_alloc htab _)).mono ?_; rintro e w' ⟨rfl, rfl⟩))
  go_at_fn (ρ.f 285)
  refine hfmt.mono ?_
  rintro e w' ⟨rfl, k, v', dk, rfl, hF⟩
  have hcells : ∀ j u', (byteCells (decDigits u))[j]? = some u' → ((putRow (fun (b : UInt8) => Value.int .u8 (b.toNat : Int)) (w.alloc (.cells zeros24 (ρ.t 171))) w.heap.size 0 dk).drewN k).cell? ((⟨w.heap.size, 0, none⟩ : Addr).add j) = some u' := by
    intro j u' hj
    have hjl : j < (decDigits u).length := by
      have h5 := (List.getElem?_eq_some_iff.1 hj).1
      rwa [byteCells_length] at h5
    have e5 : (byteCells (decDigits u))[j]? = some (Value.int .u8 ((decDigits u)[j].toNat : Int)) := by simp [byteCells, hjl]
    rw [e5] at hj
    cases hj
    rw [row_is_numeral hF j hjl, Lib.add_plain, World.cell?_drewN]
    exact cell?_putRow (fun (b : UInt8) => Value.int .u8 (b.toNat : Int)) _ w.heap.size 0 _ dk HH0.out (by rw [hF.size, Array.size_replicate]) j (by rw [hF.size]; rw [decDigits_length] at hjl; exact hjl)
  obtain ⟨os, eo⟩ := fin_at w (.cells zeros24 (ρ.t 171)) dk k 0
  have hown2 : ((putRow (fun (b : UInt8) => Value.int .u8 (b.toNat : Int)) (w.alloc (.cells zeros24 (ρ.t 171))) w.heap.size 0 dk).drewN k).ownsRow B (ρ.t 5) 1 sv n xs := by rw [eo]; exact ownsRow_grow hown k os
  have hnx2 : Below B w ((putRow (fun (b : UInt8) => Value.int .u8 (b.toNat : Int)) (w.alloc (.cells zeros24 (ρ.t 171))) w.heap.size 0 dk).drewN k) := by rw [eo]; exact below_grow B w hBw k os
  have hok2 : Below w.heap.size w ((putRow (fun (b : UInt8) => Value.int .u8 (b.toNat : Int)) (w.alloc (.cells zeros24 (ρ.t 171))) w.heap.size 0 dk).drewN k) := by rw [eo]; exact below_grow w.heap.size w (Nat.le_refl _) k os
  generalize (putRow (fun (b : UInt8) => Value.int .u8 (b.toNat : Int)) (w.alloc (.cells zeros24 (ρ.t 171))) w.heap.size 0 dk).drewN k = W2 at hcells hown2 hnx2 hok2 ⊢
  have hsz2 := hok2.size
  clear eo HH0 hfmt
  go_wp2_with (at_builtin; refine wpl_app rfl _ _ (ρ.t 37) rfl B (ρ.t 5) i0 (.int .u8 0) 1 1 L.t37 hi hz0 hz1 hz2 rfl (by decide) _ _ _ rfl hown2 ⟨w.heap.size, 0, none⟩ (nDigits u) 24 (byteCells (decDigits u)) rfl ?c0 hcells ?c2 ?c3 ?c4 ?c5 ?_)
  case c0 => rw [byteCells_length, decDigits_length, Nat.mul_one]
  case c2 => intro u' hu'; simp only [byteCells, List.mem_map] at hu'; obtain ⟨b, _, rfl⟩ := hu'; rfl
  case c3 => unfold maxLen; omega
  case c4 => omega
  case c5 => omega
  intro v2 w3 hown' hgrow hheir
  go_wp2
  go_ret
  refine ⟨v2, rfl, ?_, hnx2.grown hgrow (by omega) (fun k hk => (hown2.lt k hk).1), ?_, ?_⟩
  · rw [decDigits_length]
    exact hown'
  · refine Kp.trans (v1 := sv) ⟨hsz2, fun k hk _ => hok2.block k hk⟩ (fun b hb => .inl hb) (Kp.grown hgrow)
  · exact Heir.trans (v1 := sv) (fun b hb => .inl hb) hsz2 hheir

theorem appU (L : LaysM.n288 P ρ) (B n u : Nat) (hu64 : u < 18446744073709551616) (sv : Value) (xs : List Value) (w : World) (hown : w.ownsRow B (ρ.t 5) 1 sv n xs) (hBw : B ≤ w.heap.size) (hlim : n + 20 ≤ 140737488355328)
    (htab : TabIs P w "internal/strconv.uint64pow10" .u64 pow10Tab) :
    Calls P (ρ.f 288) #[sv, .int .u64 u, .int .i64 10] w (App ρ B n sv xs w (decDigits u)) := by
  by_cases h : u < 100
  · exact appU_small { L with } B n u h sv xs w hown hBw hlim
  · exact appU_big { L with } B n u (by omega) hu64 sv xs w hown hBw hlim htab

set_option maxHeartbeats 6400000 in
set_option maxRecDepth 100000 in
theorem appI_inner (L : LaysM.n249 P ρ) (B n : Nat) (i : Int) (h0 : -9223372036854775808 ≤ i) (h1 : i ≤ 9223372036854775807) (sv : Value) (xs : List Value) (w : World) (hown : w.ownsRow B (ρ.t 5) 1 sv n xs) (hBw : B ≤ w.heap.size) (hlim : n + 21 ≤ 140737488355328)
    (htab : TabBelow P B w "internal/strconv.uint64pow10" .u64 pow10Tab) :
    Calls P (ρ.f 249) #[sv, .int .i64 i, .int .i64 10] w (App ρ B n sv xs w (itoa i)) := by
  have mixed := L.mixed
  have t5 := L.t5; have a5 := L.a5; have z5 := L.z5; have v5 := L.v5
  have t37 := L.t37; have u37 := run_underlying L.t37; have a37 := L.a37; have z37 := L.z37; have v37 := L.v37
  have t2 := L.t2; have a2 := L.a2; have z2 := L.z2; have v2 := L.v2
  have t3 := L.t3; have a3 := L.a3; have z3 := L.z3; have v3 := L.v3
  have t53 := L.t53; have a53 := L.a53; have z53 := L.z53; have v53 := L.v53
  have t4 := L.t4; have a4 := L.a4; have z4 := L.z4; have v4 := L.v4
  have e288 : ∀ args w, (callFunc (ρ.f 288) args).run P w = .ok (.enter (ρ.f 288) args) w := enters_of L.f288 (by kernel_rfl) rfl
  obtain ⟨i0, hi, hz0, hz1, hz2⟩ := info_parts L.i5
  by_cases hneg : i < 0
  · obtain ⟨u, rfl⟩ : ∃ u : Nat, i = -(u : Int) := ⟨i.natAbs, by omega⟩
    have hu1 : 1 ≤ u := by omega
    have hu64 : u < 18446744073709551616 := by omega
    have hwr : IntKind.u64.wrap (-IntKind.u64.wrap (-(u : Int))) = (u : Int) := by rw [IntKind.wrap_u64, IntKind.wrap_u64]; omega
    rw [itoa_neg u hu1]
    go_enter L.f249, Body.n249_ntmps ρ
    go_wp2_with (at_builtin; refine wpl_app rfl _ _ (ρ.t 37) rfl B (ρ.t 5) i0 (.int .u8 0) 1 1 L.t37 hi hz0 hz1 hz2 rfl (by decide) _ _ _ rfl (hown.alloc _) ⟨w.heap.size, 0, none⟩ 1 1 [Value.int .u8 45] rfl rfl (by intro j u' hj; match j, hj with | 0, hj => simp at hj; subst hj; simp [Addr.add]) (by intro u' hu'; simp at hu'; subst hu'; rfl) (by unfold maxLen; omega) (by omega) (by simp; omega) ?_)
    intro v1 w1 hown1 hgrow hheir
    have hnx1 : Below B w w1 := ((Below.refl B w).alloc hBw _).grown hgrow (by simp; omega) (fun k hk => (hown.lt k hk).1)
    have hal : Below w.heap.size w (w.alloc (.cells #[.int .u8 45] (ρ.t 5))) := (Below.refl _ w).alloc (Nat.le_refl _) _
    have hkp1 : Kp w sv w1 := Kp.trans (v1 := sv) ⟨hal.size, fun k hk _ => hal.block k hk⟩ (fun b hb => .inl hb) (Kp.grown hgrow)
    have hh1 : Heir w sv v1 := Heir.trans (v1 := sv) (fun b hb => .inl hb) hal.size hheir
    have htab1 : TabIs P w1 "internal/strconv.uint64pow10" .u64 pow10Tab := htab w1 hnx1
    go_wp2_with (go_at_fn (ρ.f 288); refine (appU { L with } B (n + 1) u hu64 v1 _ w1 hown1 (by have := hnx1.size; omega) (by omega) htab1).mono ?_; rintro e w2 ⟨v2, rfl, hown2, hnx2, hkp2, hh2⟩)
    go_wp2
    go_ret
    refine ⟨v2, rfl, ?_, hnx1.trans hnx2, hkp1.trans hh1 hkp2, hh1.trans hkp1.1 hh2⟩
    have e1 : n + ((decDigits u).length + 1) = n + 1 + (decDigits u).length := by omega
    have e2 : xs ++ byteCells (45 :: decDigits u) = xs ++ [Value.int .u8 45] ++ byteCells (decDigits u) := by simp [byteCells]
    rw [List.length_cons, e1, e2]
    exact hown2
  · obtain ⟨u, rfl⟩ : ∃ u : Nat, i = u := ⟨i.toNat, by omega⟩
    have hu64 : u < 18446744073709551616 := by omega
    rw [itoa_nonneg]
    go_enter L.f249, Body.n249_ntmps ρ
    go_wp2_with (go_at_fn (ρ.f 288); refine (appU { L with } B n u hu64 sv xs w hown hBw (by omega) htab.here).mono ?_; rintro e w2 ⟨v2, rfl, hown2, hnx2, hok2⟩)
    go_wp2
    first | go_ret | go_ret2
    exact ⟨v2, rfl, hown2, hnx2, hok2⟩

set_option maxRecDepth 100000 in
theorem appI (L : LaysM.n176 P ρ) (B n : Nat) (i : Int) (h0 : -9223372036854775808 ≤ i) (h1 : i ≤ 9223372036854775807) (sv : Value) (xs : List Value) (w : World) (hown : w.ownsRow B (ρ.t 5) 1 sv n xs) (hBw : B ≤ w.heap.size) (hlim : n + 21 ≤ 140737488355328)
    (htab : TabBelow P B w "internal/strconv.uint64pow10" .u64 pow10Tab) :
    Calls P (ρ.f 176) #[sv, .int .i64 i, .int .i64 10] w (App ρ B n sv xs w (itoa i)) := by
  have mixed := L.mixed
  have t5 := L.t5; have a5 := L.a5; have z5 := L.z5; have v5 := L.v5
  have t37 := L.t37; have u37 := run_underlying L.t37; have a37 := L.a37; have z37 := L.z37; have v37 := L.v37
  have t2 := L.t2; have a2 := L.a2; have z2 := L.z2; have v2 := L.v2
  have t3 := L.t3; have a3 := L.a3; have z3 := L.z3; have v3 := L.v3
  have e249 : ∀ args w, (callFunc (ρ.f 249) args).run P w = .ok (.enter (ρ.f 249) args) w := enters_of L.f249 (by kernel_rfl) rfl
  go_enter L.f176, Body.n176_ntmps ρ
  go_wp2_with (go_at_fn (ρ.f 249); refine (appI_inner { L with } B n i h0 h1 sv xs w hown hBw hlim htab).mono ?_; rintro e w2 ⟨v2, rfl, hown2, hnx2, hok2⟩)
  go_wp2
  go_ret
  exact ⟨v2, rfl, hown2, hnx2, hok2⟩

/-- THE CONTRACT, where a table reads so below what the call owns. -/
def appNum (a0 : List Int) (a1 a2 : Int) : Option (List Int) :=
  ck (a2 = 10 ∧ (-9223372036854775808 ≤ a1 ∧ a1 ≤ 9223372036854775807) ∧ a0.length + 21 ≤ 140737488355328) (some (a0 ++ (itoa a1).map fun b => (b.toNat : Int)))

theorem appI_con [Glob P] (hgl : ∀ {B : Nat} {w : World}, Glob.ok P B w → TabBelow P B w "internal/strconv.uint64pow10" .u64 pow10Tab) (L : LaysM.n176 P ρ) {f e : Nat} (hf : ρ.f 176 = f) (he : ρ.t 5 = e)
    (hen : ∀ (vals : Array Value) (w : World), (callFunc f vals).run P w = .ok (.enter f vals) w) {a0 : List Int} {a1 a2 : Int} {r : List Int} (hF : appNum a0 a1 a2 = some r) :
    Con P f [.val false [.row 0], vint .i64 a1, vint .i64 a2] [.row e a0.length 1 (gl cInt_u8 a0)] (.val false [.row 1]) [.none, .row e r.length 1 (gl cInt_u8 r)] := by
  subst hf; subst he
  unfold appNum ck at hF
  split at hF
  case isFalse => cases hF
  rename_i hck
  obtain ⟨rfl, ⟨b1, b2⟩, b3⟩ := hck
  cases hF
  refine ⟨hen, fun w0 g0 vals hp hg => ?_⟩
  match vals, hp.args with
  | [], h => exact h.elim
  | [_], h => exact h.2.elim
  | [_, _], h => exact h.2.2.elim
  | _ :: _ :: _ :: _ :: _, h => exact h.2.2.2.elim
  | [v0, v1, v2], ⟨h1, h2, h3, _⟩ =>
    have k1 : RL w0 g0 (.row 0) v0 := RV.cell h1
    have k2 : v1 = .int .i64 a1 := RV.cell h2
    have k3 : v2 = .int .i64 10 := RV.cell h3
    subst k2; subst k3
    obtain ⟨hd, rfl, hone⟩ := k1
    obtain ⟨q1, q2, ⟨cs, hown, hcs⟩, hom⟩ := hp.objs 0 (by simp)
    obtain ⟨B, hB1, hB2, hB3⟩ := hg
    have hown' : w0.ownsRow B (ρ.t 5) 1 (g0.rv 0) a0.length cs := by
      refine ⟨hown.1, ?_⟩
      rcases hown.2 with hn | ⟨gb, cap, cur, e1, e2, rest⟩
      · exact .inl hn
      · exact .inr ⟨gb, cap, cur, e1, hB2 gb (by show g0.om gb ≠ none; rw [hom gb (by rw [e1]; rfl)]; exact fun e => by cases e), rest⟩
    refine (appI L B a0.length a1 b1 b2 (g0.rv 0) cs w0 hown' hB1 b3 (hgl hB3)).mono ?_
    rintro e w ⟨v', rfl, hown2, hbel, hkp, hheir⟩
    let g : Gh := { Fz := g0.Fz, Tz := g0.Tz, om := fun b => if v'.ownBlock = some b then some 1 else none, rv := fun r => if r = 0 then g0.rv 0 else v', df := fun r => r < 2 }
    have hnom : ∀ b, (∀ r, g0.om b ≠ some r) → b < w0.heap.size → v'.ownBlock ≠ some b := fun b hb hlt e => by
      rcases hheir b e with h4 | h4
      · exact hb 0 (hom b h4)
      · omega
    have hone' : v'.oneCell' = true := by
      rcases hown2.2 with ⟨e1, _⟩ | ⟨gb, cap, cur, e1, _⟩ <;> rw [e1] <;> rfl
    refine ⟨v', g, rfl, ?_⟩
    refine ⟨?_, ?_, fun r => ?_, by simp, fun b hb => ?_, rfl, fun b hb => ?_, fun b r hb => ?_, fun r hr => ?_, hbel.os, hbel.tape, hbel.output, hkp.1, fun k hk hn => ?_⟩
    · exact ⟨[v'], rfl, ⟨by show (1 : Nat) < 2; omega, rfl, hone'⟩, trivial⟩
    · intro r hr
      match r, hr with
      | 0, _ => exact trivial
      | 1, _ =>
        show RO w g 1 (.row (ρ.t 5) _ 1 _)
        have hlen : (a0 ++ (itoa a1).map fun b => (b.toNat : Int)).length = a0.length + (itoa a1).length := by simp
        refine ⟨by omega, ?_, ⟨cs ++ byteCells (itoa a1), ?_, fun i hi j hj => ?_⟩, fun b hb => ?_⟩
        · have : (itoa a1).length ≤ 21 := itoa_length_le a1 b1 b2
          rw [hlen]; unfold bound; omega
        · have h5 := hown2
          rw [hlen]
          refine ⟨h5.1, ?_⟩
          rcases h5.2 with hn | ⟨gb, cap, cur, e1, e2, rest⟩
          · exact .inl hn
          · exact .inr ⟨gb, cap, cur, e1, Nat.zero_le _, rest⟩
        · obtain rfl : j = 0 := by omega
          have hcl : cs.length = a0.length := by simpa using hown.1
          rw [Nat.mul_one, Nat.add_zero]
          show ∃ x, (cs ++ byteCells (itoa a1))[i]? = some x ∧ x = Value.int .u8 ((a0 ++ (itoa a1).map fun b => (b.toNat : Int)).getD i default)
          by_cases hlt : i < a0.length
          · obtain ⟨x, hx, hu⟩ := hcs i hlt 0 (by omega)
            rw [Nat.mul_one, Nat.add_zero] at hx
            refine ⟨x, by rw [List.getElem?_append_left (by omega)]; exact hx, ?_⟩
            have hu' : x = .int .u8 (a0.getD i default) := hu
            rw [hu', List.getD_eq_getElem?_getD, List.getD_eq_getElem?_getD, List.getElem?_append_left hlt]
          · rw [hlen] at hi
            have hi2 : i - a0.length < (itoa a1).length := by omega
            refine ⟨.int .u8 (((itoa a1)[i - a0.length]).toNat : Int), ?_, ?_⟩
            · rw [List.getElem?_append_right (by omega), hcl]
              simp [byteCells, hi2]
            · rw [List.getD_eq_getElem?_getD, List.getElem?_append_right (by omega)]
              simp [hi2]
        · show (if v'.ownBlock = some b then some 1 else none) = some 1
          have hb2 : v'.ownBlock = some b := hb
          rw [if_pos hb2]
    · show r < 2 ↔ r < 2
      exact Iff.rfl
    · have h4 := hp.fz b hb
      refine ⟨.inr (.inl hb), Nat.lt_of_lt_of_le h4.1 hkp.1, ?_⟩
      show (if v'.ownBlock = some b then some 1 else none) = none
      rw [if_neg (hnom b (fun r => by rw [h4.2]; exact fun e => by cases e) h4.1)]
    · have h4 := hp.tz b hb
      show (if v'.ownBlock = some b then some 1 else none) = none
      rw [if_neg (hnom b (fun r => by rw [h4.2]; exact fun e => by cases e) h4.1)]
    · have hb2 : v'.ownBlock = some b := by
        have h5 : (if v'.ownBlock = some b then some 1 else none) = some r := hb
        split at h5
        · assumption
        · cases h5
      refine ⟨?_, (hown2.lt b hb2).2⟩
      rcases hheir b hb2 with h4 | h4
      · exact .inr (by rw [hom b h4]; exact fun e => by cases e)
      · exact .inl h4
    · have hr0 : r = 0 := by simp at hr; omega
      subst hr0
      rfl
    · exact hkp.2 k hk fun e => by
        have := hom k e
        rw [hn] at this
        cases this
end
end Go.Vs

/-! strings.Builder: Len, WriteString, String: every block but the builder's own stays. -/
namespace Go.Vs
open Go.Shelf Go.RowKit Go.Sort Go.Lib Go.Proofs
section
variable {P : Program} {ρ : Ren}

/-- All blocks but the builder's and its row's stand. -/
def Kp2 (w : World) (b : Nat) (v : Value) (w' : World) : Prop := w.heap.size ≤ w'.heap.size ∧ ∀ k, k < w.heap.size → k ≠ b → v.ownBlock ≠ some k → w'.heap[k]? = w.heap[k]?

set_option maxHeartbeats 2000000 in
set_option maxRecDepth 100000 in
theorem bldCheck (L : Lays.n240 P ρ) (X : Builder.X72 P ρ) (B b : Nat) (p v : Value) (bs : List Value) (w : World) (hB : B ≤ b) (hp : p = .pointer none ∨ p = .pointer (some ⟨b, 0, none⟩)) (hbk : w.heap[b]? = some (.cells #[p, v] (ρ.t 72) (0, 0))) :
    Calls P (ρ.f 240) #[.pointer (some ⟨b, 0, none⟩)] w fun e w' => e = .returned (.tuple #[]) ∧ w'.heap[b]? = some (.cells #[.pointer (some ⟨b, 0, none⟩), v] (ρ.t 72) (0, 0)) ∧ Below B w w' ∧ w'.heap.size = w.heap.size ∧ ∀ k, k ≠ b → w'.heap[k]? = w.heap[k]? := by
  have c0 : w.cell? ⟨b, 0, none⟩ = some p := by rw [Lib.cell_of_heap hbk]; rfl
  rcases hp with rfl | rfl
  · refine (Any.Builder_copyCheck_fresh L X b w c0 (by simp [World.shape?, hbk]) (Lib.frozen_of_heap hbk 0)).mono ?_
    rintro e w' ⟨rfl, rfl⟩
    have hlt : b < w.heap.size := by
      rcases Nat.lt_or_ge b w.heap.size with h' | h'
      · exact h'
      · rw [Array.getElem?_eq_none h'] at hbk; cases hbk
    refine ⟨rfl, ?_, (Below.refl B w).setCell (p := ⟨b, 0, none⟩) hB _, ?_, fun k hk => Below.heap_setCell _ _ _ _ (fun e => hk (by rw [e]))⟩
    · simp only [World.setCell, Array.getElem?_modify, if_true, hbk, Option.map_some]
      rfl
    · simp [World.setCell]
  · refine (Any.Builder_copyCheck_used L X b w c0).mono ?_
    rintro e w' ⟨rfl, rfl⟩
    exact ⟨rfl, hbk, Below.refl B _, rfl, fun _ _ => rfl⟩

set_option maxHeartbeats 2000000 in
set_option maxRecDepth 100000 in
theorem bldWrite (L : Lays.n166 P ρ) (X : Builder.Extra P ρ) (B b n : Nat) (p v : Value) (bs : List Value) (s : ByteArray) (w : World) (hB : B ≤ b) (hp : p = .pointer none ∨ p = .pointer (some ⟨b, 0, none⟩)) (hbk : w.heap[b]? = some (.cells #[p, v] (ρ.t 72) (0, 0)))
    (hown0 : w.ownsRow B (ρ.t 5) 1 v n bs) (hne : v.ownBlock ≠ some b) (hlen : n + s.size ≤ 140737488355328) (hBw : B ≤ w.heap.size) :
    Calls P (ρ.f 166) #[.pointer (some ⟨b, 0, none⟩), .string s] w fun e w' => e = .returned (.tuple #[.int .i64 s.size, .nilIface]) ∧ ∃ v', w'.heap[b]? = some (.cells #[.pointer (some ⟨b, 0, none⟩), v'] (ρ.t 72) (0, 0)) ∧
      w'.ownsRow B (ρ.t 5) 1 v' (n + s.size) (bs ++ strCells s) ∧ v'.ownBlock ≠ some b ∧ Heir w v v' ∧ Below B w w' ∧ Kp2 w b v w' := by
  obtain ⟨i0, hi, hz0, hz1, hz2⟩ := info_parts X.infoByte
  have mixed := L.mixed
  have t72 := L.t72; have a72 := L.a72; have z72 := L.z72; have v72 := L.v72; have u72 := run_underlying L.t72
  have t70 := L.t70; have a70 := L.a70; have z70 := L.z70; have v70 := L.v70; have u70 := run_underlying L.t70
  have t37 := L.t37; have a37 := L.a37; have z37 := L.z37; have v37 := L.v37; have u37 := run_underlying L.t37
  have t3 := L.t3; have a3 := L.a3; have z3 := L.z3; have v3 := L.v3; have u3 := run_underlying L.t3
  have t9 := L.t9; have a9 := L.a9; have z9 := L.z9; have v9 := L.v9; have u9 := run_underlying L.t9
  have t4 := L.t4; have a4 := L.a4; have z4 := L.z4; have v4 := L.v4; have u4 := run_underlying L.t4
  have t164 := L.t164; have a164 := L.a164; have z164 := L.z164; have v164 := L.v164; have u164 := run_underlying L.t164
  have t5 := X.t5; have a5 := X.a5; have z5 := X.z5; have v5 := X.v5; have u5 := run_underlying X.t5
  have e240 : ∀ args w, (callFunc (ρ.f 240) args).run P w = .ok (.enter (ρ.f 240) args) w := enters_of L.f240 (by kernel_rfl) rfl
  go_enter L.f166, Body.n166_ntmps ρ
  go_wp2_with (go_at_fn (ρ.f 240); refine (bldCheck { L with } X.toX72 B b p v bs _ hB hp hbk).mono ?_)
  rintro e w1 ⟨rfl, hbk1, hb1, hsz1, hk1⟩
  have hown : w1.ownsRow B (ρ.t 5) 1 v n bs := by
    refine ⟨hown0.1, ?_⟩
    rcases hown0.2 with h0 | ⟨g, cap, cur, hv, hb, hh, r⟩
    · exact .inl h0
    · refine .inr ⟨g, cap, cur, hv, hb, ?_, r⟩
      rw [hk1 g (fun e => hne (by rw [hv, e]; rfl))]; exact hh
  have c0 : w1.cell? ⟨b, 0, none⟩ = some (.pointer (some ⟨b, 0, none⟩)) := by rw [Lib.cell_of_heap hbk1]; rfl
  have c1 : w1.cell? ⟨b, 1, none⟩ = some v := by rw [Lib.cell_of_heap hbk1]; rfl
  go_wp2_with (at_builtin; refine wpl_app_str rfl _ _ (ρ.t 37) (ρ.t 9) rfl B (ρ.t 5) i0 L.t37 L.t9 hi hz0 hz1 hz2 _ _ _ rfl hown s rfl ?c3 ?c4 ?c5 ?_)
  case c3 => unfold maxLen; omega
  case c4 => omega
  case c5 => omega
  intro v' w2 hown' hgrow hheir
  have hlt : b < w1.heap.size := by
    rcases Nat.lt_or_ge b w1.heap.size with h' | h'
    · exact h'
    · simp [Array.getElem?_eq_none h'] at hbk1
  have hb2 : w2.heap[b]? = some (.cells #[.pointer (some ⟨b, 0, none⟩), v] (ρ.t 72) (0, 0)) := by
    rw [hgrow.block b hlt (fun e => hne e.symm)]
    exact hbk1
  have d0 : w2.cell? ⟨b, 0, none⟩ = some (.pointer (some ⟨b, 0, none⟩)) := by rw [Lib.cell_of_heap hb2]; rfl
  have d1 : w2.cell? ⟨b, 1, none⟩ = some v := by rw [Lib.cell_of_heap hb2]; rfl
  have f1 : w2.frozen? ⟨b, 1, none⟩ = false := Lib.frozen_of_heap hb2 1
  have hne' : v'.ownBlock ≠ some b := fun e => by
    rcases hheir b e with h3 | h3
    · exact hne h3
    · omega
  obtain ⟨ao, n', cap, rfl⟩ : ∃ ao n' cap, v' = .slice ao n' cap := by
    rcases hown'.2 with ⟨hv, _⟩ | ⟨g, cap, cur, hv, _⟩
    · exact ⟨_, _, _, hv⟩
    · exact ⟨_, _, _, hv⟩
  go_wp2
  go_ret2
  refine ⟨rfl, _, ?_, ?_, hne', ?_, (hb1.grown hgrow (by omega) (fun k hk => (hown.lt k hk).1)).setCell (p := ⟨b, 1, none⟩) hB _, ?_, ?_⟩
  · simp only [World.setCell, Array.getElem?_modify, if_true, hb2, Option.map_some]
    rfl
  · refine ⟨hown'.1, ?_⟩
    rcases hown'.2 with h0 | ⟨g, cap, cur, hv, hb, hh, r⟩
    · exact .inl h0
    · refine .inr ⟨g, cap, cur, hv, hb, ?_, r⟩
      rw [Below.heap_setCell _ _ _ _ (fun e => hne' (by rw [hv]; simp [Value.ownBlock, e]))]; exact hh
  · intro k hk
    rcases hheir k hk with h3 | h3
    · exact .inl h3
    · exact .inr (by omega)
  · have := hgrow.size
    have h9 : (w2.setCell ⟨b, 1, none⟩ (.slice ao n' cap)).heap.size = w2.heap.size := by simp [World.setCell]
    rw [h9]; omega
  · intro k hk hkb hkv
    rw [Below.heap_setCell _ _ _ _ (fun e => hkb (by rw [e])), hgrow.block k (by omega) (fun e => hkv e.symm), hk1 k hkb]

set_option maxHeartbeats 1000000 in
set_option maxRecDepth 100000 in
theorem bldString1 (L : Lays.n169 P ρ) (X : Builder.Extra P ρ) (b g cap : Nat) (p : Value) (cur : Array Value) (l : List UInt8) (w : World) (hbk : w.heap[b]? = some (.cells #[p, .slice (some ⟨g, 0, none⟩) l.length cap] (ρ.t 72) (0, 0)))
    (hg : w.heap[g]? = some (.cells cur (ρ.t 5) (0, 0))) (hnc : l.length ≤ cap) (hcm : cap ≤ maxLen) (hcs : cur.size = cap * 1) (htake : cur.toList.take (l.length * 1) = byteCells l) (h0 : l ≠ []) :
    Calls P (ρ.f 169) #[.pointer (some ⟨b, 0, none⟩)] w fun e w' => e = .returned (.string ⟨l.toArray⟩) ∧ w' = w.drew.freeze ⟨g, 0, none⟩ l.length := by
  have hown : w.ownsRow 0 (ρ.t 5) 1 (.slice (some ⟨g, 0, none⟩) l.length cap) l.length (byteCells l) := ⟨by rw [byteCells_length, Nat.mul_one], .inr ⟨g, cap, cur, rfl, Nat.zero_le _, hg, hnc, hcm, hcs, htake⟩⟩
  have hl0 : l.length ≠ 0 := by simpa using h0
  have c1 : w.drew.cell? ⟨b, 1, none⟩ = some (.slice (some ⟨g, 0, none⟩) l.length cap) := by
    have : w.drew.heap[b]? = some (.cells #[p, .slice (some ⟨g, 0, none⟩) l.length cap] (ρ.t 72) (0, 0)) := hbk
    rw [Lib.cell_of_heap this]; rfl
  have hSD : (Builtin.unsafeSliceData_ #[(ρ.t 37)] (ρ.t 127) #[.slice (some ⟨g, 0, none⟩) l.length cap]).run P w.drew = .ok (.pointer (some ⟨g, 0, none⟩)) w.drew :=
    Lib.run_unsafeSliceData_row _ _ _ _ _ _ (by omega)
  have hUS : (Builtin.unsafeString_ #[(ρ.t 127), (ρ.t 3)] (ρ.t 9) #[.pointer (some ⟨g, 0, none⟩), .int .i64 l.length]).run P w.drew = .ok (.string ⟨l.toArray⟩) (w.drew.freeze ⟨g, 0, none⟩ l.length) := by
    refine Lib.run_unsafeString_row w.drew (ρ.t 127) (ρ.t 3) (ρ.t 9) (ρ.t 5) L.t127 X.cellsByte g cur.size (by have hg' : w.drew.heap[g]? = some (.cells cur (ρ.t 5) (0, 0)) := hg; simp [World.shape?, hg']) l h0 (by omega) (by unfold maxLen at hcm; omega) ?_
    intro j x hx
    have := hown.cells (g := g) rfl j (.int .u8 x.toNat) (by simp [Lib.byteCells, hx])
    exact this
  have mixed := L.mixed
  have t72 := L.t72; have a72 := L.a72; have z72 := L.z72; have v72 := L.v72; have u72 := run_underlying L.t72
  have t70 := L.t70; have a70 := L.a70; have z70 := L.z70; have v70 := L.v70; have u70 := run_underlying L.t70
  have t37 := L.t37; have a37 := L.a37; have z37 := L.z37; have v37 := L.v37; have u37 := run_underlying L.t37
  have t127 := L.t127; have a127 := L.a127; have z127 := L.z127; have v127 := L.v127; have u127 := run_underlying L.t127
  have t3 := L.t3; have a3 := L.a3; have z3 := L.z3; have v3 := L.v3; have u3 := run_underlying L.t3
  have t9 := L.t9; have a9 := L.a9; have z9 := L.z9; have v9 := L.v9; have u9 := run_underlying L.t9
  have t5 := X.t5; have a5 := X.a5; have z5 := X.z5; have v5 := X.v5; have u5 := run_underlying X.t5
  go_enter L.f169, Body.n169_ntmps ρ
  go_wp2
  go_region_o
  all_goals (go_wp2; go_ret; exact ⟨rfl, rfl⟩)

theorem freeze_heap (w : World) (g n k : Nat) (h : k ≠ g) : (w.freeze ⟨g, 0, none⟩ n).heap[k]? = w.heap[k]? := by
  unfold World.freeze
  split
  · rfl
  · simp only [Array.getElem?_modify]
    rw [if_neg (fun e => h e.symm)]
theorem freeze_size (w : World) (g n : Nat) : (w.freeze ⟨g, 0, none⟩ n).heap.size = w.heap.size := by
  unfold World.freeze
  split <;> simp

theorem bldString (L : Lays.n169 P ρ) (X : Builder.Extra P ρ) (b : Nat) (p v : Value) (l : List UInt8) (w : World) (hbk : w.heap[b]? = some (.cells #[p, v] (ρ.t 72) (0, 0))) (hp : p = .pointer none ∨ p = .pointer (some ⟨b, 0, none⟩))
    (hown : w.ownsRow 0 (ρ.t 5) 1 v l.length (byteCells l)) (hne : v.ownBlock ≠ some b) :
    Calls P (ρ.f 169) #[.pointer (some ⟨b, 0, none⟩)] w fun e w' => e = .returned (.string ⟨l.toArray⟩) ∧ w'.os = w.os ∧ w'.tape = w.tape ∧ w'.output = w.output ∧ Kp2 w b v w' := by
  have full : ∀ {w' : World}, Below w.heap.size w w' → w'.os = w.os ∧ w'.tape = w.tape ∧ w'.output = w.output ∧ Kp2 w b v w' := fun h => ⟨h.os, h.tape, h.output, h.size, fun k hk _ _ => h.block k hk⟩
  cases l with
  | nil =>
    rcases hown.2 with ⟨rfl, _⟩ | ⟨g, cap, cur, rfl, hbg, hg, _, _, _, _⟩
    · exact (Any.Builder_String_nil L X w.heap.size b p w hbk).mono fun e w' h => ⟨h.1, full h.2⟩
    · by_cases hc0 : cap = 0
      · subst hc0
        exact (Any.Builder_String_noroom L X w.heap.size b g p cur w (Nat.le_refl _) hbk hg).mono fun e w' h => ⟨h.1, full h.2⟩
      · exact (Any.Builder_String_room L X w.heap.size b g cap p w hc0 hbk).mono fun e w' h => ⟨h.1, full h.2⟩
  | cons x r =>
    rcases hown.2 with ⟨_, h0⟩ | ⟨g, cap, cur, rfl, hbg, hg, h1, h2, h3, h4⟩
    · simp at h0
    · refine (bldString1 L X b g cap p cur (x :: r) w hbk hg h1 h2 h3 h4 (fun e => by cases e)).mono ?_
      rintro e w' ⟨rfl, rfl⟩
      have hfr : ∀ (u : World) (n : Nat), (u.freeze ⟨g, 0, none⟩ n).os = u.os ∧ (u.freeze ⟨g, 0, none⟩ n).tape = u.tape ∧ (u.freeze ⟨g, 0, none⟩ n).output = u.output := fun u n => by
        unfold World.freeze
        split <;> exact ⟨rfl, rfl, rfl⟩
      obtain ⟨q1, q2, q3⟩ := hfr w.drew (x :: r).length
      have hd : w.drew.os = w.os ∧ w.drew.tape = w.tape ∧ w.drew.output = w.output := ⟨rfl, rfl, rfl⟩
      refine ⟨rfl, q1.trans hd.1, q2.trans hd.2.1, q3.trans hd.2.2, by rw [freeze_size]; exact Nat.le_refl _, fun k hk hkb hkv => ?_⟩
      rw [freeze_heap _ _ _ _ (fun e => hkv (by rw [e]; rfl))]
      rfl

/-! ### The contracts -/
theorem strCells_eq (s : ByteArray) : strCells s = s.data.toList.map fun x => Value.int .u8 (x.toNat : Int) := rfl
theorem app_cells (s x : ByteArray) : (s ++ x).data.toList = s.data.toList ++ x.data.toList := by rw [ByteArray.data_append, Array.toList_append]
theorem size_list (s : ByteArray) : s.size = s.data.toList.length := rfl

variable [Glob P]
theorem own_up {w : World} {B e n : Nat} {v : Value} {xs : List Value} (h : w.ownsRow 0 e 1 v n xs) (hB : ∀ k, v.ownBlock = some k → B ≤ k) : w.ownsRow B e 1 v n xs := by
  refine ⟨h.1, ?_⟩
  rcases h.2 with hn | ⟨gb, cap, cur, e1, e2, rest⟩
  · exact .inl hn
  · exact .inr ⟨gb, cap, cur, e1, hB gb (by rw [e1]; rfl), rest⟩
theorem own_dn {w : World} {B e n : Nat} {v : Value} {xs : List Value} (h : w.ownsRow B e 1 v n xs) : w.ownsRow 0 e 1 v n xs := by
  refine ⟨h.1, ?_⟩
  rcases h.2 with hn | ⟨gb, cap, cur, e1, e2, rest⟩
  · exact .inl hn
  · exact .inr ⟨gb, cap, cur, e1, Nat.zero_le _, rest⟩

theorem bldLen_con (L : Lays.n170 P ρ) {f t e : Nat} (hf : ρ.f 170 = f) (ht : ρ.t 72 = t) (he : ρ.t 5 = e) (hen : ∀ (vals : Array Value) (w : World), (callFunc f vals).run P w = .ok (.enter f vals) w) {s : ByteArray} :
    Con P f [.ptr 0 0] [.abs (bldQ t e s)] (vint .i64 (s.size : Int)) [.abs (bldQ t e s)] := by
  subst hf; subst ht; subst he
  refine ⟨hen, fun w0 g0 vals hp hg => ?_⟩
  match vals, hp.args with
  | [], h => exact h.elim
  | _ :: _ :: _, h => exact h.2.elim
  | [v0], ⟨⟨hd, b, e1, e2⟩, _⟩ =>
    have hob := hp.objs 0 (by simp)
    obtain ⟨own, o1, o2, o3⟩ := id hob
    obtain ⟨b', p, bv, h1, h2, h3, h4, h5, h6, h7⟩ := o3 w0 (fun _ _ => rfl)
    rw [e1] at h1
    cases h1
    subst e2
    have hat : IsBuilder (ρ.t 72) (ρ.t 5) 0 b (byteCells s.data.toList) w0 := by
      have : BuilderAt (ρ.t 72) (ρ.t 5) 0 b p (byteCells s.data.toList) w0 := ⟨Nat.zero_le _, bv, h3, by rw [byteCells_length]; exact h5, h6⟩
      rcases h4 with rfl | rfl
      · exact .inl this
      · exact .inr this
    refine (Any.Builder_Len L 0 b _ w0 hat).mono ?_
    rintro e w ⟨rfl, rfl⟩
    refine ⟨_, g0, rfl, ⟨[_], rfl, ?_, trivial⟩, fun r hr => hp.objs r hr, fun r => hp.df r, Nat.le_refl _, fun b hb => ⟨.inr (.inl hb), hp.fz b hb⟩, rfl, fun b hb => (hp.tz b hb).2, fun b r hb => ⟨.inr (by rw [hb]; exact fun e => by cases e), hp.om b r hb⟩, fun _ _ => rfl, rfl, rfl, rfl, Nat.le_refl _, fun _ _ _ => rfl⟩
    show Value.int .i64 ((byteCells s.data.toList).length : Int) = .int .i64 (s.size : Int)
    rw [byteCells_length, size_list]

theorem bldWrite_con (L : Lays.n166 P ρ) (X : Builder.Extra P ρ) {f t e : Nat} (hf : ρ.f 166 = f) (ht : ρ.t 72 = t) (he : ρ.t 5 = e) (hen : ∀ (vals : Array Value) (w : World), (callFunc f vals).run P w = .ok (.enter f vals) w)
    {s x : ByteArray} (hlen : s.size + x.size ≤ 140737488355328) :
    Con P f [.ptr 0 0, vstr x] [.abs (bldQ t e s)] (.tup [(false, [.u (cI (x.size : Int))]), (false, [.dead])]) [.abs (bldQ t e (s ++ x))] := by
  subst hf; subst ht; subst he
  refine ⟨hen, fun w0 g0 vals hp hg => ?_⟩
  match vals, hp.args with
  | [], h => exact h.elim
  | [_], h => exact h.2.elim
  | _ :: _ :: _ :: _, h => exact h.2.2.elim
  | [v0, v1], ⟨⟨hd, b, e1, e2⟩, hv1, _⟩ =>
    have k1 : v1 = .string x := RV.cell hv1
    subst k1
    obtain ⟨own, o1, o2, o3⟩ := hp.objs 0 (by simp)
    obtain ⟨b', p, bv, h1, h2, h3, h4, h5, h6, h7⟩ := o3 w0 (fun _ _ => rfl)
    rw [e1] at h1
    cases h1
    subst e2
    obtain ⟨B, hB1, hB2, hB3⟩ := hg
    have hB : ∀ k, own k → B ≤ k := fun k hk => hB2 k (by show g0.om k ≠ none; rw [o1 k hk]; exact fun e => by cases e)
    refine (bldWrite L X B b _ p bv _ x w0 (hB b h2) h4 h3 (own_up h5 fun k hk => hB k (h7 k hk)) h6 (by rw [← size_list]; exact hlen) hB1).mono ?_
    rintro e w ⟨rfl, v', q1, q2, q3, q4, q5, q6⟩
    let g : Gh := { Fz := g0.Fz, Tz := g0.Tz, om := fun k => if k = b ∨ v'.ownBlock = some k then some 0 else none, rv := g0.rv, df := g0.df }
    have hnom : ∀ k, g0.om k = none → k < w0.heap.size → ¬ (k = b ∨ v'.ownBlock = some k) := fun k hk hlt h => by
      rcases h with rfl | h
      · rw [o1 _ h2] at hk; cases hk
      · rcases q4 k h with h8 | h8
        · rw [o1 _ (h7 k h8)] at hk; cases hk
        · omega
    have hbsz : b < w0.heap.size := hp.om b 0 (o1 b h2)
    refine ⟨_, g, rfl, ⟨[.int .i64 x.size, .nilIface], rfl, ⟨[_], rfl, rfl, trivial⟩, ⟨[_], rfl, rfl, trivial⟩, trivial⟩, fun r hr => ?_, fun r => hp.df r, Nat.le_refl _, fun k hk => ?_, rfl, fun k hk => ?_, fun k r hk => ?_, fun _ _ => rfl, q5.os, q5.tape, q5.output, q5.size, fun k hk hn => ?_⟩
    · obtain rfl : r = 0 := by simp at hr; omega
      refine ⟨fun k => k = b ∨ v'.ownBlock = some k, fun k hk => if_pos hk, fun k hk => ?_, fun w' hw => ⟨b, .pointer (some ⟨b, 0, none⟩), v', e1, .inl rfl, ?_, .inr rfl, ?_, q3, fun k hk => .inr hk⟩⟩
      · have : blk (g0.rv 0) = some k := hk
        rw [e1] at this
        simp only [blk, Option.some.injEq] at this
        exact .inl this.symm
      · rw [hw b (.inl rfl)]; exact q1
      · have h8 := own_dn q2
        rw [size_list, strCells_eq] at h8
        rw [app_cells, List.length_append, List.map_append]
        refine ⟨h8.1, ?_⟩
        rcases h8.2 with hn | ⟨gb, cap, cur, e3, e4, e5, rest⟩
        · exact .inl hn
        · exact .inr ⟨gb, cap, cur, e3, e4, by rw [hw gb (.inr (by rw [e3]; rfl))]; exact e5, rest⟩
    · have h8 := hp.fz k hk
      exact ⟨.inr (.inl hk), Nat.lt_of_lt_of_le h8.1 q5.size, if_neg (hnom k h8.2 h8.1)⟩
    · have h8 := hp.tz k hk
      exact if_neg (hnom k h8.2 h8.1)
    · have h8 : (if k = b ∨ v'.ownBlock = some k then some 0 else none) = some r := hk
      split at h8
      · rename_i h9
        rcases h9 with rfl | h9
        · exact ⟨.inr (by rw [o1 _ h2]; exact fun e => by cases e), Nat.lt_of_lt_of_le hbsz q5.size⟩
        · refine ⟨?_, (q2.lt k h9).2⟩
          rcases q4 k h9 with h10 | h10
          · exact .inr (by rw [o1 _ (h7 k h10)]; exact fun e => by cases e)
          · exact .inl h10
      · cases h8
    · refine q6.2 k hk (fun e => by subst e; rw [o1 _ h2] at hn; cases hn) (fun e => by rw [o1 _ (h7 k e)] at hn; cases hn)

theorem bldString_con (L : Lays.n169 P ρ) (X : Builder.Extra P ρ) {f t e : Nat} (hf : ρ.f 169 = f) (ht : ρ.t 72 = t) (he : ρ.t 5 = e) (hen : ∀ (vals : Array Value) (w : World), (callFunc f vals).run P w = .ok (.enter f vals) w) {s : ByteArray} :
    Con P f [.ptr 0 0] [.abs (bldQ t e s)] (vstr s) [.none] := by
  subst hf; subst ht; subst he
  refine ⟨hen, fun w0 g0 vals hp hg => ?_⟩
  match vals, hp.args with
  | [], h => exact h.elim
  | _ :: _ :: _, h => exact h.2.elim
  | [v0], ⟨⟨hd, b, e1, e2⟩, _⟩ =>
    obtain ⟨own, o1, o2, o3⟩ := hp.objs 0 (by simp)
    obtain ⟨b', p, bv, h1, h2, h3, h4, h5, h6, h7⟩ := o3 w0 (fun _ _ => rfl)
    rw [e1] at h1
    cases h1
    subst e2
    refine (bldString L X b p bv s.data.toList w0 h3 h4 h5 h6).mono ?_
    rintro e w ⟨rfl, q1, q2, q3, q4⟩
    let g : Gh := { Fz := g0.Fz, Tz := g0.Tz, om := fun _ => none, rv := g0.rv, df := g0.df }
    refine ⟨_, g, rfl, ⟨[_], rfl, ?_, trivial⟩, fun r hr => ?_, fun r => hp.df r, Nat.le_refl _, fun k hk => ⟨.inr (.inl hk), Nat.lt_of_lt_of_le (hp.fz k hk).1 q4.1, rfl⟩, rfl, fun k hk => rfl, (fun k r hk => by cases hk), fun _ _ => rfl, q1, q2, q3, q4.1, fun k hk hn => ?_⟩
    · show Value.string _ = .string s
      rfl
    · obtain rfl : r = 0 := by simp at hr; omega
      exact trivial
    · exact q4.2 k hk (fun e => by subst e; rw [o1 _ h2] at hn; cases hn) (fun e => by rw [o1 _ (h7 k e)] at hn; cases hn)

/-- A pure call: everything that was there stays. -/
theorem pure_con {f : FuncId} {ags : List S} {rs : S} {os1 : List Ob} (hen : ∀ (vals : Array Value) (w : World), (callFunc f vals).run P w = .ok (.enter f vals) w)
    (h : ∀ (w0 : World) (g0 : Gh) (vals : List Value), RSs w0 g0 ags vals → GOk P w0 (fun _ => False) → Calls P f vals.toArray w0 fun e w => Below w0.heap.size w0 w ∧ ∃ v g, e = .returned v ∧ RS w g rs v ∧ (∀ r, r < os1.length → RO w g r (os1.getD r .none)) ∧
      (∀ r, g.df r ↔ r < os1.length) ∧ g.Fz = g0.Fz ∧ g.Tz = g0.Tz ∧ ∀ b r, g.om b = some r → w0.heap.size ≤ b ∧ b < w.heap.size) : Con P f ags [] rs os1 := by
  refine ⟨hen, fun w0 g0 vals hp hg => ?_⟩
  obtain ⟨B, hB1, hB2, hB3⟩ := hg
  refine (h w0 g0 vals hp.args ⟨B, hB1, fun _ h => h.elim, hB3⟩).mono ?_
  rintro e w ⟨hb, v, g, rfl, h1, h2, h3, h4, h5, h6⟩
  have hno : ∀ b, b < w0.heap.size → g.om b = none := fun b hlt => by
    cases hb' : g.om b with
    | none => rfl
    | some r => have := (h6 b r hb').1; omega
  refine ⟨v, g, rfl, h1, h2, h3, Nat.zero_le _, fun b hb' => ?_, h5, fun b hb' => hno b (hp.tz b hb').1, fun b r hb' => ⟨.inl (h6 b r hb').1, (h6 b r hb').2⟩, fun r hr => absurd hr (Nat.not_lt_zero r), hb.os, hb.tape, hb.output, hb.size, fun k hk _ => hb.block k hk⟩
  rw [h4] at hb'
  exact ⟨.inr (.inl hb'), Nat.lt_of_lt_of_le (hp.fz b hb').1 hb.size, hno b (hp.fz b hb').1⟩

theorem itoa_con (hgl : ∀ {B : Nat} {w : World}, Glob.ok P B w → TabBelow P B w "internal/strconv.uint64pow10" .u64 pow10Tab) (L : LaysM.n171 P ρ) {f : Nat} (hf : ρ.f 171 = f)
    (hen : ∀ (vals : Array Value) (w : World), (callFunc f vals).run P w = .ok (.enter f vals) w) {n : Int} {r : ByteArray} (hn : -9223372036854775808 ≤ n ∧ n ≤ 9223372036854775807) (hr : some (⟨(itoa n).toArray⟩ : ByteArray) = some r) :
    Con P f [vint .i64 n] [] (vstr r) [] := by
  subst hf
  cases hr
  refine pure_con hen fun w0 g0 vals ha hg => ?_
  match vals, ha with
  | [], h => exact h.elim
  | _ :: _ :: _, h => exact h.2.elim
  | [v0], ⟨h1, _⟩ =>
    have k1 : v0 = .int .i64 n := RV.cell h1
    subst k1
    obtain ⟨B, hB1, _, hB3⟩ := hg
    refine (Any.strconv_Itoa L n hn.1 hn.2 w0 (hgl hB3).here).mono ?_
    rintro e w ⟨rfl, k, os, rfl⟩
    exact ⟨below_grow w0.heap.size w0 (Nat.le_refl _) k os, _, { Fz := g0.Fz, Tz := g0.Tz, om := fun _ => none, rv := g0.rv, df := fun _ => False }, rfl, ⟨[_], rfl, rfl, trivial⟩, fun r hr => absurd hr (Nat.not_lt_zero r), fun r => ⟨fun h => h.elim, fun h => absurd h (Nat.not_lt_zero r)⟩, rfl, rfl, fun b r h => by cases h⟩

theorem split_con (hgl : ∀ {B : Nat} {w : World}, Glob.ok P B w → ∀ w', Below B w w' → ∃ m, w'.cell? ⟨ρ.g 1, 0, none⟩ = some (.int .i64 m)) (L : LaysM.n146 P ρ) {f e9 : Nat} (hf : ρ.f 146 = f) (h9 : ρ.t 9 = e9) (hone : e9 = e9)
    (hen : ∀ (vals : Array Value) (w : World), (callFunc f vals).run P w = .ok (.enter f vals) w) {s p : ByteArray} {r : List ByteArray} (hn : s.size < 4294967281 ∧ 1 ≤ p.size) (hr : some (splitB p 0 (countB s p) s) = some r) :
    Con P f [vstr s, vstr p] [] (.val false [.row 0]) [.row e9 r.length 1 (gl cStr r)] := by
  subst hf; subst h9
  cases hr
  refine pure_con hen fun w0 g0 vals ha hg => ?_
  match vals, ha with
  | [], h => exact h.elim
  | [_], h => exact h.2.elim
  | _ :: _ :: _ :: _, h => exact h.2.2.elim
  | [v0, v1], ⟨h1, h2, _⟩ =>
    have k1 : v0 = .string s := RV.cell h1
    have k2 : v1 = .string p := RV.cell h2
    subst k1; subst k2
    obtain ⟨B, hB1, _, hB3⟩ := hg
    obtain ⟨m, hm⟩ := hgl hB3 w0 (Below.refl _ _)
    have hlen : (splitB p 0 (countB s p) s).length = countB s p + 1 := splitB_all p hn.2 0 _ s rfl
    have hle := countB_le p hn.2 s.size s (Nat.le_refl _)
    refine (Any.strings_Split { L with } L.i9 s p m w0 hn.1 hm hn.2).mono ?_
    rintro e w ⟨rfl, rfl⟩
    refine ⟨(Below.refl _ w0).alloc (Nat.le_refl _) _, _, { Fz := g0.Fz, Tz := g0.Tz, om := fun b => if b = w0.heap.size then some 0 else none, rv := fun _ => .slice (some ⟨w0.heap.size, 0, none⟩) (countB s p + 1) (countB s p + 1), df := fun r => r < 1 }, rfl,
      ⟨[_], rfl, ⟨by show (0 : Nat) < 1; omega, rfl, rfl⟩, trivial⟩, fun r hr => ?_, fun r => Iff.rfl, rfl, rfl, fun b r h => ?_⟩
    · obtain rfl : r = 0 := by simp at hr; omega
      refine ⟨by omega, by unfold bound; omega, ⟨(splitB p 0 (countB s p) s).map Value.string, ⟨by rw [List.length_map, Nat.mul_one], .inr ⟨w0.heap.size, _, ((splitB p 0 (countB s p) s).map Value.string).toArray, by rw [hlen], Nat.zero_le _, heap_alloc_new w0 _, by omega, by unfold maxLen; omega, by simp [hlen], by rw [Nat.mul_one]; exact List.take_of_length_le (by simp)⟩⟩, fun i hi j hj => ?_⟩, fun b hb => ?_⟩
      · obtain rfl : j = 0 := by omega
        rw [Nat.mul_one, Nat.add_zero]
        refine ⟨.string ((splitB p 0 (countB s p) s).getD i default), ?_, rfl⟩
        rw [List.getElem?_map, List.getElem?_eq_getElem hi, List.getD_eq_getElem?_getD, List.getElem?_eq_getElem hi]
        rfl
      · simp only [Value.ownBlock, Option.some.injEq] at hb
        show (if b = w0.heap.size then some 0 else none) = some 0
        rw [if_pos hb.symm]
    · have h8 : (if b = w0.heap.size then some 0 else none) = some r := h
      split at h8
      · rename_i h9
        subst h9
        exact ⟨Nat.le_refl _, by simp⟩
      · cases h8
end
end Go.Vs

/-! strings.Split at this program: the laying is printed by the kit's tool. -/
namespace Go.Proofs
open Go.Shelf
def Tryd.laysM146_ren : Go.Shelf.Ren := ⟨fun | 146 => 40 | 221 => 59 | 268 => 70 | 138 => 71 | 143 => 72 | 195 => 79 | 197 => 80 | 218 => 81 | 219 => 82 | 260 => 99 | 217 => 100 | 225 => 101 | 224 => 102 | 267 => 103 | 266 => 118 | 314 => 119 | n => n, fun | 9 => 9 | 31 => 71 | 3 => 3 | 4 => 4 | 0 => 0 | 105 => 127 | 21 => 21 | 5 => 5 | 46 => 146 | 119 => 162 | 139 => 165 | 138 => 164 | 146 => 166 | 51 => 159 | n => n, fun | 1 => 0 | 3 => 2 | 4 => 3 | n => n⟩
theorem Tryd.laysM146 : Go.Proofs.LaysM.n146 Tryd.prog Tryd.laysM146_ren := {
  mixed := by kernel_rfl
  f138 := Tryd.func71.trans (congrArg some (by kernel_rfl))
  f143 := Tryd.func72.trans (congrArg some (by kernel_rfl))
  f146 := Tryd.func40.trans (congrArg some (by kernel_rfl))
  f195 := Tryd.func79.trans (congrArg some (by kernel_rfl))
  f197 := Tryd.func80.trans (congrArg some (by kernel_rfl))
  f217 := Tryd.func100.trans (congrArg some (by kernel_rfl))
  f218 := Tryd.func81.trans (congrArg some (by kernel_rfl))
  f219 := Tryd.func82.trans (congrArg some (by kernel_rfl))
  f221 := Tryd.func59.trans (congrArg some (by kernel_rfl))
  f224 := Tryd.func102.trans (congrArg some (by kernel_rfl))
  f225 := Tryd.func101.trans (congrArg some (by kernel_rfl))
  f260 := Tryd.func99.trans (congrArg some (by kernel_rfl))
  f266 := Tryd.func118.trans (congrArg some (by kernel_rfl))
  f267 := Tryd.func103.trans (congrArg some (by kernel_rfl))
  f268 := Tryd.func70.trans (congrArg some (by kernel_rfl))
  f314 := Tryd.func119.trans (congrArg some (by kernel_rfl))
  t0 := Tryd.underlying0
  a0 := Tryd.isAgg0
  z0 := Tryd.sizeOf0
  v0 := Tryd.zeroValue0
  t3 := Tryd.underlying3
  a3 := Tryd.isAgg3
  z3 := Tryd.sizeOf3
  v3 := Tryd.zeroValue3
  t4 := Tryd.underlying4
  a4 := Tryd.isAgg4
  z4 := Tryd.sizeOf4
  v4 := Tryd.zeroValue4
  t5 := Tryd.underlying5
  a5 := Tryd.isAgg5
  z5 := Tryd.sizeOf5
  v5 := Tryd.zeroValue5
  t9 := Tryd.underlying9
  a9 := Tryd.isAgg9
  z9 := Tryd.sizeOf9
  v9 := Tryd.zeroValue9
  t21 := Tryd.underlying21
  a21 := Tryd.isAgg21
  z21 := Tryd.sizeOf21
  v21 := Tryd.zeroValue21
  t31 := Tryd.underlying71
  a31 := Tryd.isAgg71
  z31 := Tryd.sizeOf71
  v31 := Tryd.zeroValue71
  t46 := Tryd.underlying146
  a46 := Tryd.isAgg146
  z46 := Tryd.sizeOf146
  v46 := Tryd.zeroValue146
  t51 := Tryd.underlying159
  a51 := Tryd.isAgg159
  z51 := Tryd.sizeOf159
  v51 := Tryd.zeroValue159
  t105 := Tryd.underlying127
  a105 := Tryd.isAgg127
  z105 := Tryd.sizeOf127
  v105 := Tryd.zeroValue127
  t119 := Tryd.underlying162
  a119 := Tryd.isAgg162
  z119 := Tryd.sizeOf162
  t138 := Tryd.underlying164
  a138 := Tryd.isAgg164
  z138 := Tryd.sizeOf164
  v138 := Tryd.zeroValue164
  t139 := Tryd.underlying165
  a139 := Tryd.isAgg165
  z139 := Tryd.sizeOf165
  v139 := Tryd.zeroValue165
  t146 := Tryd.underlying166
  a146 := Tryd.isAgg166
  z146 := Tryd.sizeOf166
  v146 := Tryd.zeroValue166
  g1 := by kernel_rfl
  g3 := by kernel_rfl
  g4 := by kernel_rfl
  i0 := by kernel_rfl
  i3 := by kernel_rfl
  i4 := by kernel_rfl
  i5 := by kernel_rfl
  i9 := by kernel_rfl
  i21 := by kernel_rfl
  i31 := by kernel_rfl
  i46 := by kernel_rfl
  i51 := by kernel_rfl
  i105 := by kernel_rfl
  i138 := by kernel_rfl
  i139 := by kernel_rfl
  i146 := by kernel_rfl
  m1 := by kernel_rfl
  s1_3 := fun w h => Go.Proofs.cell_of_shapedOpen_int (zero := #[.int .i64 0]) (t := 3) h (of_decide_eq_true (by kernel_rfl)) (by kernel_rfl) rfl (by kernel_rfl) (by kernel_rfl) Tryd.underlying3
  m3 := by kernel_rfl
  m4 := by kernel_rfl }
end Go.Proofs
namespace Go.Proofs.PanM
open Go.Vs
open Go.Lib (splitB countB)
def g_split (s p : ByteArray) : Option (List ByteArray) := ck (s.size < 4294967281 ∧ 1 ≤ p.size) (some (splitB p 0 (countB s p) s))
theorem g_split_c {a0 a1 : ByteArray} {r : List ByteArray} (hF : g_split a0 a1 = some r) : Con Tryd.prog 40 [vstr a0, vstr a1] [] (.val false [.row 0]) [.row 9 r.length 1 (gl cStr r)] :=
  split_con (P := Tryd.prog) (fun {B w} (h : Glob.ok Tryd.prog B w) => h) Tryd.laysM146 rfl rfl rfl (enters_of Tryd.func40 (by kernel_rfl) rfl) (ckE hF).1 (ckE hF).2
end Go.Proofs.PanM

/-! Printed by wip/tools/walk.py. -/
namespace Go.Proofs.PanM
open Go.Vs
set_option maxRecDepth 8000
def i_eventOf (a0 : ByteArray) : Option (PanEvent × Bool) :=
  (g_split a0 (⟨#[32]⟩ : ByteArray)).bind (fun y1 => (i_lineKinds).bind (fun y2 => loopN (fun i4 (v51 : Unit) κ52 => lt (y2.getD i4 default) (fun x53 => ix y1 0 (fun _ => cond (!(x53.word.toList == (y1.getD 0 default).toList)) (κ52 ()) (cond (!decide (((y1.length : Nat) : Int) = (w64 ((x53.fields.size : Int) + 1)))) (κ52 ()) (ck (0 ≤ (1 : Int) ∧ (1 : Int) ≤ (y1.length : Int)) (loopN (fun i55 (v84 : PanEvent) κ85 => jn (fun (v87 : PanEvent) => κ85 v87) (fun j88 => ix (y1.drop 1) ((i55 : Nat) : Int) (fun x89 => (i_number x89).bind (fun y90 => cond (!y90.2) (some (({ Kind := 0, Server := 0, Other := 0, Client := 0, Word := 0, Keep := false, Range := 0, Op := 0, Disk := 0, Block := 0, Epoch := 0, Data := 0 } : PanEvent), false)) (ixs x53.fields ((i55 : Nat) : Int) (fun y91 => cond (decide (y91 = 99)) (j88 ({ Kind := v84.Kind, Server := v84.Server, Other := v84.Other, Client := y90.1, Word := v84.Word, Keep := v84.Keep, Range := v84.Range, Op := v84.Op, Disk := v84.Disk, Block := v84.Block, Epoch := v84.Epoch, Data := v84.Data } : PanEvent)) (cond (decide (y91 = 111)) (j88 ({ Kind := v84.Kind, Server := v84.Server, Other := v84.Other, Client := v84.Client, Word := v84.Word, Keep := v84.Keep, Range := v84.Range, Op := y90.1, Disk := v84.Disk, Block := v84.Block, Epoch := v84.Epoch, Data := v84.Data } : PanEvent)) (cond (decide (y91 = 112)) (j88 ({ Kind := v84.Kind, Server := v84.Server, Other := v84.Other, Client := v84.Client, Word := v84.Word, Keep := v84.Keep, Range := v84.Range, Op := v84.Op, Disk := y90.1, Block := v84.Block, Epoch := v84.Epoch, Data := v84.Data } : PanEvent)) (cond (decide (y91 = 98)) (j88 ({ Kind := v84.Kind, Server := v84.Server, Other := v84.Other, Client := v84.Client, Word := v84.Word, Keep := v84.Keep, Range := v84.Range, Op := v84.Op, Disk := v84.Disk, Block := y90.1, Epoch := v84.Epoch, Data := v84.Data } : PanEvent)) (cond (decide (y91 = 101)) (j88 ({ Kind := v84.Kind, Server := v84.Server, Other := v84.Other, Client := v84.Client, Word := v84.Word, Keep := v84.Keep, Range := v84.Range, Op := v84.Op, Disk := v84.Disk, Block := v84.Block, Epoch := y90.1, Data := v84.Data } : PanEvent)) (cond (decide (y91 = 100)) (j88 ({ Kind := v84.Kind, Server := v84.Server, Other := v84.Other, Client := v84.Client, Word := v84.Word, Keep := v84.Keep, Range := v84.Range, Op := v84.Op, Disk := v84.Disk, Block := v84.Block, Epoch := v84.Epoch, Data := y90.1 } : PanEvent)) (cond (decide (y91 = 115)) (j88 ({ Kind := v84.Kind, Server := y90.1, Other := v84.Other, Client := v84.Client, Word := v84.Word, Keep := v84.Keep, Range := v84.Range, Op := v84.Op, Disk := v84.Disk, Block := v84.Block, Epoch := v84.Epoch, Data := v84.Data } : PanEvent)) (cond (decide (y91 = 119)) (j88 ({ Kind := v84.Kind, Server := v84.Server, Other := v84.Other, Client := v84.Client, Word := y90.1, Keep := v84.Keep, Range := v84.Range, Op := v84.Op, Disk := v84.Disk, Block := v84.Block, Epoch := v84.Epoch, Data := v84.Data } : PanEvent)) (cond (decide (y91 = 114)) (j88 ({ Kind := v84.Kind, Server := v84.Server, Other := v84.Other, Client := v84.Client, Word := v84.Word, Keep := v84.Keep, Range := y90.1, Op := v84.Op, Disk := v84.Disk, Block := v84.Block, Epoch := v84.Epoch, Data := v84.Data } : PanEvent)) (j88 ({ Kind := v84.Kind, Server := v84.Server, Other := y90.1, Client := v84.Client, Word := v84.Word, Keep := v84.Keep, Range := v84.Range, Op := v84.Op, Disk := v84.Disk, Block := v84.Block, Epoch := v84.Epoch, Data := v84.Data } : PanEvent)))))))))))))))) (fun (v84 : PanEvent) => some (v84, true)) (y1.length - 1) 0 ({ Kind := x53.kind, Server := 0, Other := 0, Client := 0, Word := 0, Keep := x53.keep, Range := 0, Op := 0, Disk := 0, Block := 0, Epoch := 0, Data := 0 } : PanEvent))))))) (fun (v51 : Unit) => some (({ Kind := 0, Server := 0, Other := 0, Client := 0, Word := 0, Keep := false, Range := 0, Op := 0, Disk := 0, Block := 0, Epoch := 0, Data := 0 } : PanEvent), false)) y2.length 0 ()))
theorem i_eventOf_c {a0 : ByteArray} {r : PanEvent × Bool} (hF : i_eventOf a0 = some r) : Con Tryd.prog 41 [vstr a0] [] (.tup [(true, (PanEvent.L r.1)), (false, [.u (.bool r.2)])]) [] := by
  refine Con.of_Dz tabOk Tryd.func41 rfl rfl rfl ?_
  delta i_eventOf at hF
  refine Dz.seq ?_
  refine Dz.reg ?_
  refine Dz.seq ?_
  refine Dz.reg ?_
  refine bdE hF (fun y1 hy1 hF => ?_)
  refine callG [] (g_split_c hy1) ⟨m_val rfl, m_val rfl, trivial⟩ trivial rfl ?_
  refine Dz.seq ?_
  refine Dz.seq ?_
  refine Dz.reg ?_
  refine bdE hF (fun y2 hy2 hF => ?_)
  refine callG [] (i_lineKinds_c hy2) trivial trivial rfl ?_
  intro hb3; replace hb3 : y2.length ≤ 140737488355328 := hb3
  refine Dz.blk ?_
  refine Dz.cnt hF (fun i4 v51 => ([(2, .ptr 0 0), (4, .val false [.row 1]), (14, .val false [.row 2]), (15, vint .i64 ((y2.length : Nat) : Int)), (16, vint .i64 ((i4 : Nat) : Int))], [.box 48 [.u (cI 0), .u (cI 0), .u (cI 0), .u (cI 0), .u (cI 0), .u (.bool false), .u (cI 0), .u (cI 0), .u (cI 0), .u (cI 0), .u (cI 0), .u (cI 0)], .row 9 y1.length 1 (gl cStr y1), .row 61 y2.length 4 (gl lineKind.c y2)])) (entG [0, 1, 2] ⟨m_ptr rfl, ⟨rfl, rfl, trivial⟩, ⟨rfl, rfl, trivial⟩, m_val rfl, m_val rfl, trivial⟩ ⟨⟨rfl, o_box rfl⟩, ⟨rfl, o_row⟩, ⟨rfl, o_row⟩, trivial⟩ rfl) (fun v51 hF => ?_) (fun i4 v51 κ52 hi0i4 hi1i4 hF => ?_)
  · refine Dz.seq ?_
    refine Dz.reg ?_
    refine Dz.seq ?_
    refine Dz.ff (b := decide (((0 + y2.length : Nat) : Int) < ((y2.length : Nat) : Int))) rfl (decide_eq_false (by omega)) ?_
    refine Dz.exit ?_
    refine Dz.seq ?_
    refine Dz.reg ?_
    refine Dz.ret ?_
    cases hF
    exact finG [] [] rfl rfl ⟨⟨rfl, mls_same rfl⟩, ⟨rfl, mls_same rfl⟩, trivial⟩ trivial rfl
  · refine Dz.seq ?_
    refine Dz.reg ?_
    refine Dz.seq ?_
    refine Dz.tt (b := decide (((i4 : Nat) : Int) < ((y2.length : Nat) : Int))) rfl (decide_eq_true (by omega)) ?_
    refine Dz.skip ?_
    refine Dz.seq ?_
    refine Dz.blk ?_
    refine Dz.seq ?_
    refine Dz.reg ?_
    refine vge (n := ((i4 : Nat) : Int)) (hi := (y2.length : Int)) (by omega) (by omega) ?_
    have hF := ltE hF
    refine Dz.seq ?_
    refine Dz.seq ?_
    refine Dz.drw 4 [⟨[22,23,24], [], 4, 4⟩, ⟨[22,23,24], [3], 4, 4⟩, ⟨[20,21], [], 4, 4⟩, ⟨[20,21], [1], 4, 4⟩, ⟨[20,21], [1], 4, 4⟩, ⟨[], [], 4, 4⟩, ⟨[], [], 4, 4⟩, ⟨[29,30,31,32], [], 4, 4⟩, ⟨[29,30,31,32], [1], 4, 4⟩, ⟨[27,28], [], 4, 4⟩, ⟨[27,28], [3], 4, 4⟩, ⟨[27,28], [], 4, 4⟩, ⟨[27,28], [], 4, 4⟩, ⟨[], [], 4, 4⟩, ⟨[], [], 4, 4⟩] ⟨by kernel_rfl, by kernel_rfl, rfl⟩ ?_
    refine vix hF (fun _ _ hF => ?_)
    refine vif hF (fun _ hF => ?_) (fun _ hF => ?_)
    · refine Dz.tt (b := true) rfl rfl ?_
      refine Dz.exit ?_
      refine Dz.reg ?_
      refine vsucc (by omega) ?_
      exact ⟨(), entG [0, 1, 2] ⟨m_ptr rfl, ⟨rfl, rfl, trivial⟩, ⟨rfl, rfl, trivial⟩, m_val rfl, m_val rfl, trivial⟩ ⟨⟨rfl, o_box rfl⟩, ⟨rfl, o_row⟩, ⟨rfl, o_row⟩, trivial⟩ rfl, hF⟩
    · refine vw64 ?_
      refine Dz.ite rfl hF (fun _ hF => ?_) (fun _ hF => ?_)
      · refine Dz.exit ?_
        refine Dz.reg ?_
        refine vsucc (by omega) ?_
        exact ⟨(), entG [0, 1, 2] ⟨m_ptr rfl, ⟨rfl, rfl, trivial⟩, ⟨rfl, rfl, trivial⟩, m_val rfl, m_val rfl, trivial⟩ ⟨⟨rfl, o_box rfl⟩, ⟨rfl, o_row⟩, ⟨rfl, o_row⟩, trivial⟩ rfl, hF⟩
      · refine Dz.skip ?_
        refine Dz.seq ?_
        refine Dz.reg ?_
        refine Dz.seq ?_
        refine Dz.seq ?_
        refine Dz.ent (x := ([(2, .ptr 0 0), (4, .val false [.u (ul cStr 1 false y1)]), (6, .ptr 1 0), (7, .ptr 2 0)], [.box 48 [.u (cI 0), .u (cI 0), .u (cI 0), .u (cI 0), .u (cI 0), .u (.bool false), .u (cI 0), .u (cI 0), .u (cI 0), .u (cI 0), .u (cI 0), .u (cI 0)], .box 61 (lineKind.L (y2.getD i4 default)), .box 48 [.u (cI ((y2.getD i4 default).kind)), .u (cI 0), .u (cI 0), .u (cI 0), .u (cI 0), .u (.bool ((y2.getD i4 default).keep)), .u (cI 0), .u (cI 0), .u (cI 0), .u (cI 0), .u (cI 0), .u (cI 0)]])) (entF [.frz 1] [0, 3, 4] rfl ⟨m_ptr rfl, ⟨rfl, LeU.refl _, trivial⟩, m_ptr rfl, m_ptr rfl, trivial⟩ ⟨⟨rfl, o_box rfl⟩, ⟨rfl, o_box rfl⟩, ⟨rfl, o_box rfl⟩, trivial⟩ rfl) ?_
        refine Dz.reg ?_
        refine vck hF id (fun _ hF => ?_)
        intro hb54; replace hb54 : (y1.length - 1) ≤ 140737488355328 := hb54
        refine Dz.slotLe 41 (ul cStr 1 false (y1.drop 1)) rfl (LeU.cut (by simp <;> omega) (EqG.drop _)) ?_
        refine Dz.blk ?_
        refine Dz.cnt hF (fun i55 v84 => ([(2, .ptr 0 0), (6, .ptr 1 0), (7, .ptr 2 0), (41, .val false [.u (ul cStr 1 false (y1.drop 1))]), (42, vint .i64 (((y1.length - 1) : Nat) : Int)), (43, vint .i64 ((i55 : Nat) : Int))], [.box 48 [.u (cI 0), .u (cI 0), .u (cI 0), .u (cI 0), .u (cI 0), .u (.bool false), .u (cI 0), .u (cI 0), .u (cI 0), .u (cI 0), .u (cI 0), .u (cI 0)], .box 61 (lineKind.L (y2.getD i4 default)), .box 48 (PanEvent.L v84)])) (entG [0, 1, 2] ⟨m_ptr rfl, m_ptr rfl, m_ptr rfl, m_val rfl, m_val rfl, m_val rfl, trivial⟩ ⟨⟨rfl, o_box rfl⟩, ⟨rfl, o_box rfl⟩, ⟨rfl, o_box rfl⟩, trivial⟩ rfl) (fun v84 hF => ?_) (fun i55 v84 κ85 hi0i55 hi1i55 hF => ?_)
        · refine Dz.seq ?_
          refine Dz.reg ?_
          refine Dz.seq ?_
          refine Dz.ff (b := decide (((0 + (y1.length - 1) : Nat) : Int) < (((y1.length - 1) : Nat) : Int))) rfl (decide_eq_false (by omega)) ?_
          refine Dz.exit ?_
          refine Dz.seq ?_
          refine Dz.reg ?_
          refine Dz.ret ?_
          cases hF
          exact finG [] [] rfl rfl ⟨⟨rfl, mls_same rfl⟩, ⟨rfl, mls_same rfl⟩, trivial⟩ trivial rfl
        · refine Dz.seq ?_
          refine Dz.reg ?_
          refine Dz.seq ?_
          refine Dz.tt (b := decide (((i55 : Nat) : Int) < (((y1.length - 1) : Nat) : Int))) rfl (decide_eq_true (by omega)) ?_
          refine Dz.skip ?_
          refine Dz.jn hF (fun v87 => ([(2, .ptr 0 0), (6, .ptr 1 0), (7, .ptr 2 0), (41, .val false [.u (ul cStr 1 false (y1.drop 1))]), (42, vint .i64 (((y1.length - 1) : Nat) : Int)), (43, vint .i64 ((i55 : Nat) : Int))], [.box 48 [.u (cI 0), .u (cI 0), .u (cI 0), .u (cI 0), .u (cI 0), .u (.bool false), .u (cI 0), .u (cI 0), .u (cI 0), .u (cI 0), .u (cI 0), .u (cI 0)], .box 61 (lineKind.L (y2.getD i4 default)), .box 48 (PanEvent.L v87)])) (fun v87 hF => ?_) (fun hF => ?_)
          · refine Dz.reg ?_
            refine vsucc (by omega) ?_
            exact ⟨v87, entG [0, 1, 2] ⟨m_ptr rfl, m_ptr rfl, m_ptr rfl, m_val rfl, m_val rfl, m_val rfl, trivial⟩ ⟨⟨rfl, o_box rfl⟩, ⟨rfl, o_box rfl⟩, ⟨rfl, o_box rfl⟩, trivial⟩ rfl, hF⟩
          · refine Dz.blk ?_
            refine Dz.seq ?_
            refine Dz.reg ?_
            refine vix hF (fun _ _ hF => ?_)
            refine Dz.seq ?_
            refine Dz.reg ?_
            refine bdE hF (fun y90 hy90 hF => ?_)
            refine callG [] (i_number_c hy90) ⟨m_val rfl, trivial⟩ trivial rfl ?_
            refine Dz.seq ?_
            refine Dz.seq ?_
            refine Dz.reg ?_
            refine Dz.ite rfl hF (fun _ hF => ?_) (fun _ hF => ?_)
            · refine Dz.seq ?_
              refine Dz.reg ?_
              refine Dz.ret ?_
              cases hF
              exact finG [] [] rfl rfl ⟨⟨rfl, mls_same rfl⟩, ⟨rfl, mls_same rfl⟩, trivial⟩ trivial rfl
            · refine Dz.skip ?_
              refine Dz.reg ?_
              refine vixs hF (fun _ _ hF => ?_)
              refine vcase hF (fun hw92 hF => ?_) (fun hw92 hF => ?_)
              · refine callG [2] (i_field_w99 (a0 := v84)) ⟨m_ptr rfl, ⟨rfl, ⟨_, rfl, of_decide_eq_true hw92⟩, trivial⟩, trivial⟩ ⟨⟨rfl, o_box rfl⟩, trivial⟩ rfl ?_
                exact ⟨({ Kind := v84.Kind, Server := v84.Server, Other := v84.Other, Client := y90.1, Word := v84.Word, Keep := v84.Keep, Range := v84.Range, Op := v84.Op, Disk := v84.Disk, Block := v84.Block, Epoch := v84.Epoch, Data := v84.Data } : PanEvent), entG [0, 1, 2] ⟨m_ptr rfl, m_ptr rfl, m_ptr rfl, m_val rfl, m_val rfl, m_val rfl, trivial⟩ ⟨⟨rfl, o_box rfl⟩, ⟨rfl, o_box rfl⟩, ⟨rfl, o_box rfl⟩, trivial⟩ rfl, hF⟩
              · refine vcase hF (fun hw93 hF => ?_) (fun hw93 hF => ?_)
                · refine callG [2] (i_field_w111 (a0 := v84)) ⟨m_ptr rfl, ⟨rfl, ⟨_, rfl, of_decide_eq_true hw93⟩, trivial⟩, trivial⟩ ⟨⟨rfl, o_box rfl⟩, trivial⟩ rfl ?_
                  exact ⟨({ Kind := v84.Kind, Server := v84.Server, Other := v84.Other, Client := v84.Client, Word := v84.Word, Keep := v84.Keep, Range := v84.Range, Op := y90.1, Disk := v84.Disk, Block := v84.Block, Epoch := v84.Epoch, Data := v84.Data } : PanEvent), entG [0, 1, 2] ⟨m_ptr rfl, m_ptr rfl, m_ptr rfl, m_val rfl, m_val rfl, m_val rfl, trivial⟩ ⟨⟨rfl, o_box rfl⟩, ⟨rfl, o_box rfl⟩, ⟨rfl, o_box rfl⟩, trivial⟩ rfl, hF⟩
                · refine vcase hF (fun hw94 hF => ?_) (fun hw94 hF => ?_)
                  · refine callG [2] (i_field_w112 (a0 := v84)) ⟨m_ptr rfl, ⟨rfl, ⟨_, rfl, of_decide_eq_true hw94⟩, trivial⟩, trivial⟩ ⟨⟨rfl, o_box rfl⟩, trivial⟩ rfl ?_
                    exact ⟨({ Kind := v84.Kind, Server := v84.Server, Other := v84.Other, Client := v84.Client, Word := v84.Word, Keep := v84.Keep, Range := v84.Range, Op := v84.Op, Disk := y90.1, Block := v84.Block, Epoch := v84.Epoch, Data := v84.Data } : PanEvent), entG [0, 1, 2] ⟨m_ptr rfl, m_ptr rfl, m_ptr rfl, m_val rfl, m_val rfl, m_val rfl, trivial⟩ ⟨⟨rfl, o_box rfl⟩, ⟨rfl, o_box rfl⟩, ⟨rfl, o_box rfl⟩, trivial⟩ rfl, hF⟩
                  · refine vcase hF (fun hw95 hF => ?_) (fun hw95 hF => ?_)
                    · refine callG [2] (i_field_w98 (a0 := v84)) ⟨m_ptr rfl, ⟨rfl, ⟨_, rfl, of_decide_eq_true hw95⟩, trivial⟩, trivial⟩ ⟨⟨rfl, o_box rfl⟩, trivial⟩ rfl ?_
                      exact ⟨({ Kind := v84.Kind, Server := v84.Server, Other := v84.Other, Client := v84.Client, Word := v84.Word, Keep := v84.Keep, Range := v84.Range, Op := v84.Op, Disk := v84.Disk, Block := y90.1, Epoch := v84.Epoch, Data := v84.Data } : PanEvent), entG [0, 1, 2] ⟨m_ptr rfl, m_ptr rfl, m_ptr rfl, m_val rfl, m_val rfl, m_val rfl, trivial⟩ ⟨⟨rfl, o_box rfl⟩, ⟨rfl, o_box rfl⟩, ⟨rfl, o_box rfl⟩, trivial⟩ rfl, hF⟩
                    · refine vcase hF (fun hw96 hF => ?_) (fun hw96 hF => ?_)
                      · refine callG [2] (i_field_w101 (a0 := v84)) ⟨m_ptr rfl, ⟨rfl, ⟨_, rfl, of_decide_eq_true hw96⟩, trivial⟩, trivial⟩ ⟨⟨rfl, o_box rfl⟩, trivial⟩ rfl ?_
                        exact ⟨({ Kind := v84.Kind, Server := v84.Server, Other := v84.Other, Client := v84.Client, Word := v84.Word, Keep := v84.Keep, Range := v84.Range, Op := v84.Op, Disk := v84.Disk, Block := v84.Block, Epoch := y90.1, Data := v84.Data } : PanEvent), entG [0, 1, 2] ⟨m_ptr rfl, m_ptr rfl, m_ptr rfl, m_val rfl, m_val rfl, m_val rfl, trivial⟩ ⟨⟨rfl, o_box rfl⟩, ⟨rfl, o_box rfl⟩, ⟨rfl, o_box rfl⟩, trivial⟩ rfl, hF⟩
                      · refine vcase hF (fun hw97 hF => ?_) (fun hw97 hF => ?_)
                        · refine callG [2] (i_field_w100 (a0 := v84)) ⟨m_ptr rfl, ⟨rfl, ⟨_, rfl, of_decide_eq_true hw97⟩, trivial⟩, trivial⟩ ⟨⟨rfl, o_box rfl⟩, trivial⟩ rfl ?_
                          exact ⟨({ Kind := v84.Kind, Server := v84.Server, Other := v84.Other, Client := v84.Client, Word := v84.Word, Keep := v84.Keep, Range := v84.Range, Op := v84.Op, Disk := v84.Disk, Block := v84.Block, Epoch := v84.Epoch, Data := y90.1 } : PanEvent), entG [0, 1, 2] ⟨m_ptr rfl, m_ptr rfl, m_ptr rfl, m_val rfl, m_val rfl, m_val rfl, trivial⟩ ⟨⟨rfl, o_box rfl⟩, ⟨rfl, o_box rfl⟩, ⟨rfl, o_box rfl⟩, trivial⟩ rfl, hF⟩
                        · refine vcase hF (fun hw98 hF => ?_) (fun hw98 hF => ?_)
                          · refine callG [2] (i_field_w115 (a0 := v84)) ⟨m_ptr rfl, ⟨rfl, ⟨_, rfl, of_decide_eq_true hw98⟩, trivial⟩, trivial⟩ ⟨⟨rfl, o_box rfl⟩, trivial⟩ rfl ?_
                            exact ⟨({ Kind := v84.Kind, Server := y90.1, Other := v84.Other, Client := v84.Client, Word := v84.Word, Keep := v84.Keep, Range := v84.Range, Op := v84.Op, Disk := v84.Disk, Block := v84.Block, Epoch := v84.Epoch, Data := v84.Data } : PanEvent), entG [0, 1, 2] ⟨m_ptr rfl, m_ptr rfl, m_ptr rfl, m_val rfl, m_val rfl, m_val rfl, trivial⟩ ⟨⟨rfl, o_box rfl⟩, ⟨rfl, o_box rfl⟩, ⟨rfl, o_box rfl⟩, trivial⟩ rfl, hF⟩
                          · refine vcase hF (fun hw99 hF => ?_) (fun hw99 hF => ?_)
                            · refine callG [2] (i_field_w119 (a0 := v84)) ⟨m_ptr rfl, ⟨rfl, ⟨_, rfl, of_decide_eq_true hw99⟩, trivial⟩, trivial⟩ ⟨⟨rfl, o_box rfl⟩, trivial⟩ rfl ?_
                              exact ⟨({ Kind := v84.Kind, Server := v84.Server, Other := v84.Other, Client := v84.Client, Word := y90.1, Keep := v84.Keep, Range := v84.Range, Op := v84.Op, Disk := v84.Disk, Block := v84.Block, Epoch := v84.Epoch, Data := v84.Data } : PanEvent), entG [0, 1, 2] ⟨m_ptr rfl, m_ptr rfl, m_ptr rfl, m_val rfl, m_val rfl, m_val rfl, trivial⟩ ⟨⟨rfl, o_box rfl⟩, ⟨rfl, o_box rfl⟩, ⟨rfl, o_box rfl⟩, trivial⟩ rfl, hF⟩
                            · refine vcase hF (fun hw100 hF => ?_) (fun hw100 hF => ?_)
                              · refine callG [2] (i_field_w114 (a0 := v84)) ⟨m_ptr rfl, ⟨rfl, ⟨_, rfl, of_decide_eq_true hw100⟩, trivial⟩, trivial⟩ ⟨⟨rfl, o_box rfl⟩, trivial⟩ rfl ?_
                                exact ⟨({ Kind := v84.Kind, Server := v84.Server, Other := v84.Other, Client := v84.Client, Word := v84.Word, Keep := v84.Keep, Range := y90.1, Op := v84.Op, Disk := v84.Disk, Block := v84.Block, Epoch := v84.Epoch, Data := v84.Data } : PanEvent), entG [0, 1, 2] ⟨m_ptr rfl, m_ptr rfl, m_ptr rfl, m_val rfl, m_val rfl, m_val rfl, trivial⟩ ⟨⟨rfl, o_box rfl⟩, ⟨rfl, o_box rfl⟩, ⟨rfl, o_box rfl⟩, trivial⟩ rfl, hF⟩
                              · refine callG [2] (i_field_wd (a0 := v84) (of_decide_eq_false hw92) (of_decide_eq_false hw93) (of_decide_eq_false hw94) (of_decide_eq_false hw95) (of_decide_eq_false hw96) (of_decide_eq_false hw97) (of_decide_eq_false hw98) (of_decide_eq_false hw99) (of_decide_eq_false hw100)) ⟨m_ptr rfl, m_val rfl, trivial⟩ ⟨⟨rfl, o_box rfl⟩, trivial⟩ rfl ?_
                                exact ⟨({ Kind := v84.Kind, Server := v84.Server, Other := y90.1, Client := v84.Client, Word := v84.Word, Keep := v84.Keep, Range := v84.Range, Op := v84.Op, Disk := v84.Disk, Block := v84.Block, Epoch := v84.Epoch, Data := v84.Data } : PanEvent), entG [0, 1, 2] ⟨m_ptr rfl, m_ptr rfl, m_ptr rfl, m_val rfl, m_val rfl, m_val rfl, trivial⟩ ⟨⟨rfl, o_box rfl⟩, ⟨rfl, o_box rfl⟩, ⟨rfl, o_box rfl⟩, trivial⟩ rfl, hF⟩
end Go.Proofs.PanM

/-! Printed by wip/tools/walk.py. -/
namespace Go.Proofs.PanM
open Go.Vs
set_option maxRecDepth 8000
def i_copied_PanEvent (a0 : (List PanEvent)) : Option ((List PanEvent)) :=
  cond (decide (((a0.length : Nat) : Int) = 0)) (some ([] : List PanEvent)) (ck (0 ≤ ((a0.length : Nat) : Int) ∧ ((a0.length : Nat) : Int) * 96 ≤ 140737488355328) (some (cpy (List.replicate a0.length (({ Kind := 0, Server := 0, Other := 0, Client := 0, Word := 0, Keep := false, Range := 0, Op := 0, Disk := 0, Block := 0, Epoch := 0, Data := 0 } : PanEvent) : PanEvent)) a0)))
theorem i_copied_PanEvent_c {t0_0 : Bool} {a0 : (List PanEvent)} {r : (List PanEvent)} (hF : i_copied_PanEvent a0 = some r) : Con Tryd.prog 42 [.val false [.u (ul PanEvent.c 12 t0_0 a0)]] [] (.val false [.row 0]) [.row 48 r.length 12 (gl PanEvent.c r)] := by
  refine Con.of_Dz tabOk Tryd.func42 rfl rfl rfl ?_
  delta i_copied_PanEvent at hF
  refine Dz.seq ?_
  refine Dz.reg ?_
  refine Dz.seq ?_
  refine Dz.seq ?_
  refine Dz.reg ?_
  intro hb1; replace hb1 : a0.length ≤ 140737488355328 := hb1
  refine Dz.ite rfl hF (fun _ hF => ?_) (fun _ hF => ?_)
  · refine Dz.seq ?_
    refine Dz.reg ?_
    refine Dz.ret ?_
    cases hF
    exact finG [.slot 2 48 12] [0] rfl rfl (⟨rfl, rfl, trivial⟩) ⟨⟨rfl, o_rowE (by simp <;> omega) EqG.nilr⟩, trivial⟩ rfl
  · refine Dz.skip ?_
    refine Dz.seq ?_
    refine Dz.reg ?_
    intro hb2; replace hb2 : a0.length ≤ 140737488355328 := hb2
    refine vck hF (fun h => ⟨rfl, h⟩) (fun hk hF => ?_)
    refine Dz.row 0 (List.replicate a0.length (({ Kind := 0, Server := 0, Other := 0, Client := 0, Word := 0, Keep := false, Range := 0, Op := 0, Disk := 0, Block := 0, Epoch := 0, Data := 0 } : PanEvent) : PanEvent)).length (gl PanEvent.c (List.replicate a0.length (({ Kind := 0, Server := 0, Other := 0, Client := 0, Word := 0, Keep := false, Range := 0, Op := 0, Disk := 0, Block := 0, Epoch := 0, Data := 0 } : PanEvent) : PanEvent))) rfl (by simp <;> omega) (EqG.rep' (c := PanEvent.c) (sz := 12) _ ⟨LeU.refl _, LeU.refl _, LeU.refl _, LeU.refl _, LeU.refl _, LeU.refl _, LeU.refl _, LeU.refl _, LeU.refl _, LeU.refl _, LeU.refl _, LeU.refl _, trivial⟩) ?_
    refine Dz.seq ?_
    refine Dz.reg ?_
    refine Dz.row 0 (cpy (List.replicate a0.length (({ Kind := 0, Server := 0, Other := 0, Client := 0, Word := 0, Keep := false, Range := 0, Op := 0, Disk := 0, Block := 0, Epoch := 0, Data := 0 } : PanEvent) : PanEvent)) a0).length (gl PanEvent.c (cpy (List.replicate a0.length (({ Kind := 0, Server := 0, Other := 0, Client := 0, Word := 0, Keep := false, Range := 0, Op := 0, Disk := 0, Block := 0, Epoch := 0, Data := 0 } : PanEvent) : PanEvent)) a0)) rfl (by simp <;> omega) (EqG.cpy rfl rfl (EqG.refl _ _ _) (EqG.refl _ _ _)) ?_
    refine Dz.seq ?_
    refine Dz.reg ?_
    refine Dz.ret ?_
    cases hF
    exact finG [] [0] rfl rfl (⟨rfl, rfl, trivial⟩) ⟨⟨rfl, o_row⟩, trivial⟩ rfl
end Go.Proofs.PanM

/-! Printed by wip/tools/walk.py. -/
namespace Go.Proofs.PanM
open Go.Vs
set_option maxRecDepth 8000
def i_PanRead (a0 : ByteArray) : Option ((List PanEvent) × Int) :=
  cond (decide ((40000 : Int) < (a0.size : Int))) (some (([] : List PanEvent), (-1))) ((g_split a0 (⟨#[10]⟩ : ByteArray)).bind (fun y1 => loopN (fun i3 (v10 : List PanEvent) κ11 => cond ((y1.getD i3 default).toList == (⟨#[]⟩ : ByteArray).toList) (κ11 v10) ((i_eventOf (y1.getD i3 default)).bind (fun y12 => cond (!y12.2) (some (([] : List PanEvent), ((i3 + 1 : Nat) : Int))) (ck ((v10.length + 1) * 96 ≤ 140737488355328) (κ11 (v10 ++ ([y12.1] : List PanEvent))))))) (fun (v10 : List PanEvent) => (i_copied_PanEvent v10).bind (fun y13 => some (y13, 0))) y1.length 0 ([] : List PanEvent)))
theorem i_PanRead_c {a0 : ByteArray} {r : (List PanEvent) × Int} (hF : i_PanRead a0 = some r) : Con Tryd.prog 13 [vstr a0] [] (.tup [(false, [.row 0]), (false, [.u (cI r.2)])]) [.row 48 r.1.length 12 (gl PanEvent.c r.1)] := by
  refine Con.of_Dz tabOk Tryd.func13 rfl rfl rfl ?_
  delta i_PanRead at hF
  refine Dz.seq ?_
  refine Dz.reg ?_
  refine Dz.seq ?_
  refine Dz.seq ?_
  refine Dz.reg ?_
  refine Dz.ite rfl hF (fun _ hF => ?_) (fun _ hF => ?_)
  · refine Dz.seq ?_
    refine Dz.reg ?_
    refine Dz.ret ?_
    cases hF
    exact finG [.slot 2 48 12] [0] rfl rfl ⟨⟨rfl, ⟨rfl, trivial⟩⟩, ⟨rfl, mls_same rfl⟩, trivial⟩ ⟨⟨rfl, o_rowE (by simp <;> omega) EqG.nilr⟩, trivial⟩ rfl
  · refine Dz.skip ?_
    refine Dz.seq ?_
    refine Dz.reg ?_
    refine Dz.seq ?_
    refine Dz.seq ?_
    refine Dz.reg ?_
    refine bdE hF (fun y1 hy1 hF => ?_)
    refine callG [] (g_split_c hy1) ⟨m_val rfl, m_val rfl, trivial⟩ trivial rfl ?_
    intro hb2; replace hb2 : y1.length ≤ 140737488355328 := hb2
    refine Dz.blk ?_
    refine Dz.cnt hF (fun i3 v10 => ([(4, .val false [.row 0]), (13, .val false [.row 1]), (14, vint .i64 ((y1.length : Nat) : Int)), (15, vint .i64 ((i3 : Nat) : Int))], [.row 48 v10.length 12 (gl PanEvent.c v10), .row 9 y1.length 1 (gl cStr y1)])) (entF [.slot 4 48 12] [1, 0] rfl ⟨⟨rfl, rfl, trivial⟩, ⟨rfl, rfl, trivial⟩, m_val rfl, m_val rfl, trivial⟩ ⟨⟨rfl, o_rowE (by simp <;> omega) EqG.nilr⟩, ⟨rfl, o_row⟩, trivial⟩ rfl) (fun v10 hF => ?_) (fun i3 v10 κ11 hi0i3 hi1i3 hF => ?_)
    · refine Dz.seq ?_
      refine Dz.reg ?_
      refine Dz.seq ?_
      refine Dz.ff (b := decide (((0 + y1.length : Nat) : Int) < ((y1.length : Nat) : Int))) rfl (decide_eq_false (by omega)) ?_
      refine Dz.exit ?_
      refine Dz.seq ?_
      refine Dz.reg ?_
      refine bdE hF (fun y13 hy13 hF => ?_)
      refine callL [] (i_copied_PanEvent_c hy13) ⟨⟨rfl, ⟨rfl, rfl, LeU.refl _⟩, trivial⟩, trivial⟩ trivial rfl ⟨⟨trivial, trivial⟩, ⟨ntm_gl, trivial⟩⟩ ?_
      refine Dz.ret ?_
      cases hF
      exact finG [] [2] rfl rfl ⟨⟨rfl, ⟨rfl, trivial⟩⟩, ⟨rfl, mls_same rfl⟩, trivial⟩ ⟨⟨rfl, o_row⟩, trivial⟩ rfl
    · refine Dz.seq ?_
      refine Dz.reg ?_
      refine Dz.seq ?_
      refine Dz.tt (b := decide (((i3 : Nat) : Int) < ((y1.length : Nat) : Int))) rfl (decide_eq_true (by omega)) ?_
      refine Dz.skip ?_
      refine Dz.seq ?_
      refine Dz.blk ?_
      refine Dz.seq ?_
      refine Dz.reg ?_
      refine vge (n := ((i3 : Nat) : Int)) (hi := (y1.length : Int)) (by omega) (by omega) ?_
      refine Dz.seq ?_
      refine Dz.seq ?_
      refine Dz.reg ?_
      refine Dz.ite rfl hF (fun _ hF => ?_) (fun _ hF => ?_)
      · refine Dz.exit ?_
        refine Dz.reg ?_
        refine vsucc (by omega) ?_
        exact ⟨v10, entG [0, 1] ⟨⟨rfl, rfl, trivial⟩, ⟨rfl, rfl, trivial⟩, m_val rfl, m_val rfl, trivial⟩ ⟨⟨rfl, o_row⟩, ⟨rfl, o_row⟩, trivial⟩ rfl, hF⟩
      · refine Dz.skip ?_
        refine Dz.seq ?_
        refine Dz.reg ?_
        refine bdE hF (fun y12 hy12 hF => ?_)
        refine callG [] (i_eventOf_c hy12) ⟨m_val rfl, trivial⟩ trivial rfl ?_
        refine Dz.seq ?_
        refine Dz.seq ?_
        refine Dz.reg ?_
        refine Dz.ite rfl hF (fun _ hF => ?_) (fun _ hF => ?_)
        · refine Dz.seq ?_
          refine Dz.reg ?_
          refine vsucc (by omega) ?_
          refine Dz.ret ?_
          cases hF
          exact finG [.slot 2 48 12] [3] rfl rfl ⟨⟨rfl, ⟨rfl, trivial⟩⟩, ⟨rfl, mls_same rfl⟩, trivial⟩ ⟨⟨rfl, o_rowE (by simp <;> omega) EqG.nilr⟩, trivial⟩ rfl
        · refine Dz.skip ?_
          refine Dz.reg ?_
          refine vck hF id (fun _ hF => ?_)
          refine Dz.row 3 ([y12.1] : List PanEvent).length (gl PanEvent.c ([y12.1] : List PanEvent)) rfl (by simp <;> omega) (EqG.lit (c := PanEvent.c) (sz := 12) (L := ([y12.1] : List PanEvent)) ⟨LeU.refl _, LeU.refl _, LeU.refl _, LeU.refl _, LeU.refl _, LeU.refl _, LeU.refl _, LeU.refl _, LeU.refl _, LeU.refl _, LeU.refl _, LeU.refl _, trivial⟩) ?_
          refine Dz.row 4 (v10 ++ ([y12.1] : List PanEvent)).length (gl PanEvent.c (v10 ++ ([y12.1] : List PanEvent))) rfl (by simp <;> omega) (EqG.app rfl (by simp <;> omega) (EqG.refl _ _ _) (EqG.lit (c := PanEvent.c) (sz := 12) (L := ([y12.1] : List PanEvent)) ⟨LeU.refl _, LeU.refl _, LeU.refl _, LeU.refl _, LeU.refl _, LeU.refl _, LeU.refl _, LeU.refl _, LeU.refl _, LeU.refl _, LeU.refl _, LeU.refl _, trivial⟩)) ?_
          refine Dz.reg ?_
          refine vsucc (by omega) ?_
          exact ⟨(v10 ++ ([y12.1] : List PanEvent)), entG [4, 1] ⟨⟨rfl, rfl, trivial⟩, ⟨rfl, rfl, trivial⟩, m_val rfl, m_val rfl, trivial⟩ ⟨⟨rfl, o_row⟩, ⟨rfl, o_row⟩, trivial⟩ rfl, hF⟩
end Go.Proofs.PanM

/-! Printed by wip/tools/walk.py. -/
namespace Go.Proofs.PanM
open Go.Vs
set_option maxRecDepth 8000
def l_markPanEventS (a0 : (List PanEvent)) (a1 : Int) : Option (Int × List PanEvent) :=
  loopF (fun (v64 : Int × Int × List PanEvent) κ65 => cond (decide (v64.2.1 < ((v64.2.2.length : Nat) : Int))) (ix v64.2.2 v64.2.1 (fun _ => lt (v64.2.2.set v64.2.1.toNat ({ Kind := v64.1, Server := (v64.2.2.getD v64.2.1.toNat default).Server, Other := (v64.2.2.getD v64.2.1.toNat default).Other, Client := (v64.2.2.getD v64.2.1.toNat default).Client, Word := (v64.2.2.getD v64.2.1.toNat default).Word, Keep := (v64.2.2.getD v64.2.1.toNat default).Keep, Range := (v64.2.2.getD v64.2.1.toNat default).Range, Op := (v64.2.2.getD v64.2.1.toNat default).Op, Disk := (v64.2.2.getD v64.2.1.toNat default).Disk, Block := (v64.2.2.getD v64.2.1.toNat default).Block, Epoch := (v64.2.2.getD v64.2.1.toNat default).Epoch, Data := (v64.2.2.getD v64.2.1.toNat default).Data } : PanEvent)) (fun r67 => ix r67 v64.2.1 (fun _ => lt (r67.set v64.2.1.toNat ({ Kind := (r67.getD v64.2.1.toNat default).Kind, Server := (w64 (v64.1 + 1)), Other := (r67.getD v64.2.1.toNat default).Other, Client := (r67.getD v64.2.1.toNat default).Client, Word := (r67.getD v64.2.1.toNat default).Word, Keep := (r67.getD v64.2.1.toNat default).Keep, Range := (r67.getD v64.2.1.toNat default).Range, Op := (r67.getD v64.2.1.toNat default).Op, Disk := (r67.getD v64.2.1.toNat default).Disk, Block := (r67.getD v64.2.1.toNat default).Block, Epoch := (r67.getD v64.2.1.toNat default).Epoch, Data := (r67.getD v64.2.1.toNat default).Data } : PanEvent)) (fun r68 => ix r68 v64.2.1 (fun _ => lt (r68.set v64.2.1.toNat ({ Kind := (r68.getD v64.2.1.toNat default).Kind, Server := (r68.getD v64.2.1.toNat default).Server, Other := (w64 ((w64 (v64.1 + 1)) + 1)), Client := (r68.getD v64.2.1.toNat default).Client, Word := (r68.getD v64.2.1.toNat default).Word, Keep := (r68.getD v64.2.1.toNat default).Keep, Range := (r68.getD v64.2.1.toNat default).Range, Op := (r68.getD v64.2.1.toNat default).Op, Disk := (r68.getD v64.2.1.toNat default).Disk, Block := (r68.getD v64.2.1.toNat default).Block, Epoch := (r68.getD v64.2.1.toNat default).Epoch, Data := (r68.getD v64.2.1.toNat default).Data } : PanEvent)) (fun r69 => ix r69 v64.2.1 (fun _ => lt (r69.set v64.2.1.toNat ({ Kind := (r69.getD v64.2.1.toNat default).Kind, Server := (r69.getD v64.2.1.toNat default).Server, Other := (r69.getD v64.2.1.toNat default).Other, Client := (w64 ((w64 ((w64 (v64.1 + 1)) + 1)) + 1)), Word := (r69.getD v64.2.1.toNat default).Word, Keep := (r69.getD v64.2.1.toNat default).Keep, Range := (r69.getD v64.2.1.toNat default).Range, Op := (r69.getD v64.2.1.toNat default).Op, Disk := (r69.getD v64.2.1.toNat default).Disk, Block := (r69.getD v64.2.1.toNat default).Block, Epoch := (r69.getD v64.2.1.toNat default).Epoch, Data := (r69.getD v64.2.1.toNat default).Data } : PanEvent)) (fun r70 => ix r70 v64.2.1 (fun _ => lt (r70.set v64.2.1.toNat ({ Kind := (r70.getD v64.2.1.toNat default).Kind, Server := (r70.getD v64.2.1.toNat default).Server, Other := (r70.getD v64.2.1.toNat default).Other, Client := (r70.getD v64.2.1.toNat default).Client, Word := (w64 ((w64 ((w64 ((w64 (v64.1 + 1)) + 1)) + 1)) + 1)), Keep := (r70.getD v64.2.1.toNat default).Keep, Range := (r70.getD v64.2.1.toNat default).Range, Op := (r70.getD v64.2.1.toNat default).Op, Disk := (r70.getD v64.2.1.toNat default).Disk, Block := (r70.getD v64.2.1.toNat default).Block, Epoch := (r70.getD v64.2.1.toNat default).Epoch, Data := (r70.getD v64.2.1.toNat default).Data } : PanEvent)) (fun r71 => ix r71 v64.2.1 (fun _ => lt (r71.set v64.2.1.toNat ({ Kind := (r71.getD v64.2.1.toNat default).Kind, Server := (r71.getD v64.2.1.toNat default).Server, Other := (r71.getD v64.2.1.toNat default).Other, Client := (r71.getD v64.2.1.toNat default).Client, Word := (r71.getD v64.2.1.toNat default).Word, Keep := decide ((Int.tmod (w64 ((w64 ((w64 ((w64 ((w64 (v64.1 + 1)) + 1)) + 1)) + 1)) + 1)) 3) = 0), Range := (r71.getD v64.2.1.toNat default).Range, Op := (r71.getD v64.2.1.toNat default).Op, Disk := (r71.getD v64.2.1.toNat default).Disk, Block := (r71.getD v64.2.1.toNat default).Block, Epoch := (r71.getD v64.2.1.toNat default).Epoch, Data := (r71.getD v64.2.1.toNat default).Data } : PanEvent)) (fun r72 => ix r72 v64.2.1 (fun _ => lt (r72.set v64.2.1.toNat ({ Kind := (r72.getD v64.2.1.toNat default).Kind, Server := (r72.getD v64.2.1.toNat default).Server, Other := (r72.getD v64.2.1.toNat default).Other, Client := (r72.getD v64.2.1.toNat default).Client, Word := (r72.getD v64.2.1.toNat default).Word, Keep := (r72.getD v64.2.1.toNat default).Keep, Range := (w64 ((w64 ((w64 ((w64 ((w64 ((w64 (v64.1 + 1)) + 1)) + 1)) + 1)) + 1)) + 1)), Op := (r72.getD v64.2.1.toNat default).Op, Disk := (r72.getD v64.2.1.toNat default).Disk, Block := (r72.getD v64.2.1.toNat default).Block, Epoch := (r72.getD v64.2.1.toNat default).Epoch, Data := (r72.getD v64.2.1.toNat default).Data } : PanEvent)) (fun r73 => ix r73 v64.2.1 (fun _ => lt (r73.set v64.2.1.toNat ({ Kind := (r73.getD v64.2.1.toNat default).Kind, Server := (r73.getD v64.2.1.toNat default).Server, Other := (r73.getD v64.2.1.toNat default).Other, Client := (r73.getD v64.2.1.toNat default).Client, Word := (r73.getD v64.2.1.toNat default).Word, Keep := (r73.getD v64.2.1.toNat default).Keep, Range := (r73.getD v64.2.1.toNat default).Range, Op := (w64 ((w64 ((w64 ((w64 ((w64 ((w64 ((w64 (v64.1 + 1)) + 1)) + 1)) + 1)) + 1)) + 1)) + 1)), Disk := (r73.getD v64.2.1.toNat default).Disk, Block := (r73.getD v64.2.1.toNat default).Block, Epoch := (r73.getD v64.2.1.toNat default).Epoch, Data := (r73.getD v64.2.1.toNat default).Data } : PanEvent)) (fun r74 => ix r74 v64.2.1 (fun _ => lt (r74.set v64.2.1.toNat ({ Kind := (r74.getD v64.2.1.toNat default).Kind, Server := (r74.getD v64.2.1.toNat default).Server, Other := (r74.getD v64.2.1.toNat default).Other, Client := (r74.getD v64.2.1.toNat default).Client, Word := (r74.getD v64.2.1.toNat default).Word, Keep := (r74.getD v64.2.1.toNat default).Keep, Range := (r74.getD v64.2.1.toNat default).Range, Op := (r74.getD v64.2.1.toNat default).Op, Disk := (w64 ((w64 ((w64 ((w64 ((w64 ((w64 ((w64 ((w64 (v64.1 + 1)) + 1)) + 1)) + 1)) + 1)) + 1)) + 1)) + 1)), Block := (r74.getD v64.2.1.toNat default).Block, Epoch := (r74.getD v64.2.1.toNat default).Epoch, Data := (r74.getD v64.2.1.toNat default).Data } : PanEvent)) (fun r75 => ix r75 v64.2.1 (fun _ => lt (r75.set v64.2.1.toNat ({ Kind := (r75.getD v64.2.1.toNat default).Kind, Server := (r75.getD v64.2.1.toNat default).Server, Other := (r75.getD v64.2.1.toNat default).Other, Client := (r75.getD v64.2.1.toNat default).Client, Word := (r75.getD v64.2.1.toNat default).Word, Keep := (r75.getD v64.2.1.toNat default).Keep, Range := (r75.getD v64.2.1.toNat default).Range, Op := (r75.getD v64.2.1.toNat default).Op, Disk := (r75.getD v64.2.1.toNat default).Disk, Block := (w64 ((w64 ((w64 ((w64 ((w64 ((w64 ((w64 ((w64 ((w64 (v64.1 + 1)) + 1)) + 1)) + 1)) + 1)) + 1)) + 1)) + 1)) + 1)), Epoch := (r75.getD v64.2.1.toNat default).Epoch, Data := (r75.getD v64.2.1.toNat default).Data } : PanEvent)) (fun r76 => ix r76 v64.2.1 (fun _ => lt (r76.set v64.2.1.toNat ({ Kind := (r76.getD v64.2.1.toNat default).Kind, Server := (r76.getD v64.2.1.toNat default).Server, Other := (r76.getD v64.2.1.toNat default).Other, Client := (r76.getD v64.2.1.toNat default).Client, Word := (r76.getD v64.2.1.toNat default).Word, Keep := (r76.getD v64.2.1.toNat default).Keep, Range := (r76.getD v64.2.1.toNat default).Range, Op := (r76.getD v64.2.1.toNat default).Op, Disk := (r76.getD v64.2.1.toNat default).Disk, Block := (r76.getD v64.2.1.toNat default).Block, Epoch := (w64 ((w64 ((w64 ((w64 ((w64 ((w64 ((w64 ((w64 ((w64 ((w64 (v64.1 + 1)) + 1)) + 1)) + 1)) + 1)) + 1)) + 1)) + 1)) + 1)) + 1)), Data := (r76.getD v64.2.1.toNat default).Data } : PanEvent)) (fun r77 => ix r77 v64.2.1 (fun _ => lt (r77.set v64.2.1.toNat ({ Kind := (r77.getD v64.2.1.toNat default).Kind, Server := (r77.getD v64.2.1.toNat default).Server, Other := (r77.getD v64.2.1.toNat default).Other, Client := (r77.getD v64.2.1.toNat default).Client, Word := (r77.getD v64.2.1.toNat default).Word, Keep := (r77.getD v64.2.1.toNat default).Keep, Range := (r77.getD v64.2.1.toNat default).Range, Op := (r77.getD v64.2.1.toNat default).Op, Disk := (r77.getD v64.2.1.toNat default).Disk, Block := (r77.getD v64.2.1.toNat default).Block, Epoch := (r77.getD v64.2.1.toNat default).Epoch, Data := (w64 ((w64 ((w64 ((w64 ((w64 ((w64 ((w64 ((w64 ((w64 ((w64 ((w64 (v64.1 + 1)) + 1)) + 1)) + 1)) + 1)) + 1)) + 1)) + 1)) + 1)) + 1)) + 1)) } : PanEvent)) (fun r78 => κ65 ((w64 ((w64 ((w64 ((w64 ((w64 ((w64 ((w64 ((w64 ((w64 ((w64 ((w64 ((w64 (v64.1 + 1)) + 1)) + 1)) + 1)) + 1)) + 1)) + 1)) + 1)) + 1)) + 1)) + 1)) + 1)), (w64 (v64.2.1 + 1)), r78)))))))))))))))))))))))))) (some (v64.1, v64.2.2))) ((((a0.length : Nat) : Int)).toNat + 1) (a1, 0, a0)
theorem l_markPanEventS_c {a0 : (List PanEvent)} {a1 : Int} {r : Int × List PanEvent} (hF : l_markPanEventS a0 a1 = some r) : Con Tryd.prog 14 [.val false [.row 0], vint .i64 a1] [.row 48 a0.length 12 (gl PanEvent.c a0)] (vint .i64 r.1) [.row 48 r.2.length 12 (gl PanEvent.c r.2)] := by
  refine Con.of_Dz tabOk Tryd.func14 rfl rfl rfl ?_
  delta l_markPanEventS at hF
  refine Dz.seq ?_
  refine Dz.reg ?_
  refine Dz.seq ?_
  refine Dz.seq ?_
  refine Dz.reg ?_
  refine Dz.blk ?_
  refine Dz.whl hF (fun v64 => ([(0, .val false [.row 0]), (1, vint .i64 v64.1), (5, vint .i64 v64.2.1)], [.row 48 v64.2.2.length 12 (gl PanEvent.c v64.2.2)])) (entG [0] ⟨⟨rfl, rfl, trivial⟩, m_val rfl, m_val rfl, trivial⟩ ⟨⟨rfl, o_row⟩, trivial⟩ rfl) (fun v64 κ65 hF => ?_)
  · refine Dz.seq ?_
    refine Dz.seq ?_
    refine Dz.reg ?_
    intro hb66; replace hb66 : v64.2.2.length ≤ 140737488355328 := hb66
    refine Dz.ite rfl hF (fun _ hF => ?_) (fun _ hF => ?_)
    · refine Dz.skip ?_
      refine Dz.seq ?_
      refine Dz.blk ?_
      refine Dz.seq ?_
      refine Dz.reg ?_
      refine vix hF (fun _ _ hF => ?_)
      refine ltX hF (fun r67 hr67 hF => ?_)
      have hlr67 : r67.length = v64.2.2.length := by rw [hr67]; simp <;> omega
      refine Dz.row 0 r67.length (gl PanEvent.c r67) rfl (by rw [hr67]; simp <;> omega) (by rw [hr67]; exact (EqG.set' rfl (EqG.refl _ _ _) ⟨LeU.refl _, LeU.refl _, LeU.refl _, LeU.refl _, LeU.refl _, LeU.refl _, LeU.refl _, LeU.refl _, LeU.refl _, LeU.refl _, LeU.refl _, LeU.refl _, trivial⟩)) ?_
      refine Dz.seq ?_
      refine Dz.reg ?_
      refine vw64 ?_
      refine Dz.seq ?_
      refine Dz.reg ?_
      refine vix hF (fun _ _ hF => ?_)
      refine ltX hF (fun r68 hr68 hF => ?_)
      have hlr68 : r68.length = r67.length := by rw [hr68]; simp <;> omega
      refine Dz.row 0 r68.length (gl PanEvent.c r68) rfl (by rw [hr68]; simp <;> omega) (by rw [hr68]; exact (EqG.set' rfl (EqG.refl _ _ _) ⟨LeU.refl _, LeU.refl _, LeU.refl _, LeU.refl _, LeU.refl _, LeU.refl _, LeU.refl _, LeU.refl _, LeU.refl _, LeU.refl _, LeU.refl _, LeU.refl _, trivial⟩)) ?_
      refine Dz.seq ?_
      refine Dz.reg ?_
      refine vw64 ?_
      refine Dz.seq ?_
      refine Dz.reg ?_
      refine vix hF (fun _ _ hF => ?_)
      refine ltX hF (fun r69 hr69 hF => ?_)
      have hlr69 : r69.length = r68.length := by rw [hr69]; simp <;> omega
      refine Dz.row 0 r69.length (gl PanEvent.c r69) rfl (by rw [hr69]; simp <;> omega) (by rw [hr69]; exact (EqG.set' rfl (EqG.refl _ _ _) ⟨LeU.refl _, LeU.refl _, LeU.refl _, LeU.refl _, LeU.refl _, LeU.refl _, LeU.refl _, LeU.refl _, LeU.refl _, LeU.refl _, LeU.refl _, LeU.refl _, trivial⟩)) ?_
      refine Dz.seq ?_
      refine Dz.reg ?_
      refine vw64 ?_
      refine Dz.seq ?_
      refine Dz.ent (x := ([(0, .val false [.row 0]), (1, vint .i64 (w64 ((w64 ((w64 (v64.1 + 1)) + 1)) + 1))), (5, vint .i64 v64.2.1)], [.row 48 r69.length 12 (gl PanEvent.c r69)])) (entG [0] ⟨⟨rfl, rfl, trivial⟩, m_val rfl, m_val rfl, trivial⟩ ⟨⟨rfl, o_row⟩, trivial⟩ rfl) ?_
      refine Dz.reg ?_
      refine vix hF (fun _ _ hF => ?_)
      refine ltX hF (fun r70 hr70 hF => ?_)
      have hlr70 : r70.length = r69.length := by rw [hr70]; simp <;> omega
      refine Dz.row 0 r70.length (gl PanEvent.c r70) rfl (by rw [hr70]; simp <;> omega) (by rw [hr70]; exact (EqG.set' rfl (EqG.refl _ _ _) ⟨LeU.refl _, LeU.refl _, LeU.refl _, LeU.refl _, LeU.refl _, LeU.refl _, LeU.refl _, LeU.refl _, LeU.refl _, LeU.refl _, LeU.refl _, LeU.refl _, trivial⟩)) ?_
      refine Dz.seq ?_
      refine Dz.reg ?_
      refine vw64 ?_
      refine Dz.seq ?_
      refine Dz.reg ?_
      refine vix hF (fun _ _ hF => ?_)
      refine ltX hF (fun r71 hr71 hF => ?_)
      have hlr71 : r71.length = r70.length := by rw [hr71]; simp <;> omega
      refine Dz.row 0 r71.length (gl PanEvent.c r71) rfl (by rw [hr71]; simp <;> omega) (by rw [hr71]; exact (EqG.set' rfl (EqG.refl _ _ _) ⟨LeU.refl _, LeU.refl _, LeU.refl _, LeU.refl _, LeU.refl _, LeU.refl _, LeU.refl _, LeU.refl _, LeU.refl _, LeU.refl _, LeU.refl _, LeU.refl _, trivial⟩)) ?_
      refine Dz.seq ?_
      refine Dz.reg ?_
      refine vw64 ?_
      refine Dz.seq ?_
      refine Dz.reg ?_
      refine ⟨by decide, _, rfl, ?_⟩
      refine vix hF (fun _ _ hF => ?_)
      refine ltX hF (fun r72 hr72 hF => ?_)
      have hlr72 : r72.length = r71.length := by rw [hr72]; simp <;> omega
      refine Dz.row 0 r72.length (gl PanEvent.c r72) rfl (by rw [hr72]; simp <;> omega) (by rw [hr72]; exact (EqG.set' rfl (EqG.refl _ _ _) ⟨LeU.refl _, LeU.refl _, LeU.refl _, LeU.refl _, LeU.refl _, LeU.refl _, LeU.refl _, LeU.refl _, LeU.refl _, LeU.refl _, LeU.refl _, LeU.refl _, trivial⟩)) ?_
      refine Dz.seq ?_
      refine Dz.reg ?_
      refine vw64 ?_
      refine Dz.seq ?_
      refine Dz.ent (x := ([(0, .val false [.row 0]), (1, vint .i64 (w64 ((w64 ((w64 ((w64 ((w64 ((w64 (v64.1 + 1)) + 1)) + 1)) + 1)) + 1)) + 1))), (5, vint .i64 v64.2.1)], [.row 48 r72.length 12 (gl PanEvent.c r72)])) (entG [0] ⟨⟨rfl, rfl, trivial⟩, m_val rfl, m_val rfl, trivial⟩ ⟨⟨rfl, o_row⟩, trivial⟩ rfl) ?_
      refine Dz.reg ?_
      refine vix hF (fun _ _ hF => ?_)
      refine ltX hF (fun r73 hr73 hF => ?_)
      have hlr73 : r73.length = r72.length := by rw [hr73]; simp <;> omega
      refine Dz.row 0 r73.length (gl PanEvent.c r73) rfl (by rw [hr73]; simp <;> omega) (by rw [hr73]; exact (EqG.set' rfl (EqG.refl _ _ _) ⟨LeU.refl _, LeU.refl _, LeU.refl _, LeU.refl _, LeU.refl _, LeU.refl _, LeU.refl _, LeU.refl _, LeU.refl _, LeU.refl _, LeU.refl _, LeU.refl _, trivial⟩)) ?_
      refine Dz.seq ?_
      refine Dz.reg ?_
      refine vw64 ?_
      refine Dz.seq ?_
      refine Dz.reg ?_
      refine vix hF (fun _ _ hF => ?_)
      refine ltX hF (fun r74 hr74 hF => ?_)
      have hlr74 : r74.length = r73.length := by rw [hr74]; simp <;> omega
      refine Dz.row 0 r74.length (gl PanEvent.c r74) rfl (by rw [hr74]; simp <;> omega) (by rw [hr74]; exact (EqG.set' rfl (EqG.refl _ _ _) ⟨LeU.refl _, LeU.refl _, LeU.refl _, LeU.refl _, LeU.refl _, LeU.refl _, LeU.refl _, LeU.refl _, LeU.refl _, LeU.refl _, LeU.refl _, LeU.refl _, trivial⟩)) ?_
      refine Dz.seq ?_
      refine Dz.reg ?_
      refine vw64 ?_
      refine Dz.seq ?_
      refine Dz.reg ?_
      refine vix hF (fun _ _ hF => ?_)
      refine ltX hF (fun r75 hr75 hF => ?_)
      have hlr75 : r75.length = r74.length := by rw [hr75]; simp <;> omega
      refine Dz.row 0 r75.length (gl PanEvent.c r75) rfl (by rw [hr75]; simp <;> omega) (by rw [hr75]; exact (EqG.set' rfl (EqG.refl _ _ _) ⟨LeU.refl _, LeU.refl _, LeU.refl _, LeU.refl _, LeU.refl _, LeU.refl _, LeU.refl _, LeU.refl _, LeU.refl _, LeU.refl _, LeU.refl _, LeU.refl _, trivial⟩)) ?_
      refine Dz.seq ?_
      refine Dz.reg ?_
      refine vw64 ?_
      refine Dz.seq ?_
      refine Dz.reg ?_
      refine vix hF (fun _ _ hF => ?_)
      refine ltX hF (fun r76 hr76 hF => ?_)
      have hlr76 : r76.length = r75.length := by rw [hr76]; simp <;> omega
      refine Dz.row 0 r76.length (gl PanEvent.c r76) rfl (by rw [hr76]; simp <;> omega) (by rw [hr76]; exact (EqG.set' rfl (EqG.refl _ _ _) ⟨LeU.refl _, LeU.refl _, LeU.refl _, LeU.refl _, LeU.refl _, LeU.refl _, LeU.refl _, LeU.refl _, LeU.refl _, LeU.refl _, LeU.refl _, LeU.refl _, trivial⟩)) ?_
      refine Dz.seq ?_
      refine Dz.ent (x := ([(0, .val false [.row 0]), (1, vint .i64 (w64 ((w64 ((w64 ((w64 ((w64 ((w64 ((w64 ((w64 ((w64 (v64.1 + 1)) + 1)) + 1)) + 1)) + 1)) + 1)) + 1)) + 1)) + 1))), (5, vint .i64 v64.2.1)], [.row 48 r76.length 12 (gl PanEvent.c r76)])) (entG [0] ⟨⟨rfl, rfl, trivial⟩, m_val rfl, m_val rfl, trivial⟩ ⟨⟨rfl, o_row⟩, trivial⟩ rfl) ?_
      refine Dz.reg ?_
      refine vw64 ?_
      refine Dz.seq ?_
      refine Dz.reg ?_
      refine vix hF (fun _ _ hF => ?_)
      refine ltX hF (fun r77 hr77 hF => ?_)
      have hlr77 : r77.length = r76.length := by rw [hr77]; simp <;> omega
      refine Dz.row 0 r77.length (gl PanEvent.c r77) rfl (by rw [hr77]; simp <;> omega) (by rw [hr77]; exact (EqG.set' rfl (EqG.refl _ _ _) ⟨LeU.refl _, LeU.refl _, LeU.refl _, LeU.refl _, LeU.refl _, LeU.refl _, LeU.refl _, LeU.refl _, LeU.refl _, LeU.refl _, LeU.refl _, LeU.refl _, trivial⟩)) ?_
      refine Dz.seq ?_
      refine Dz.reg ?_
      refine vw64 ?_
      refine Dz.seq ?_
      refine Dz.reg ?_
      refine vix hF (fun _ _ hF => ?_)
      refine ltX hF (fun r78 hr78 hF => ?_)
      have hlr78 : r78.length = r77.length := by rw [hr78]; simp <;> omega
      refine Dz.row 0 r78.length (gl PanEvent.c r78) rfl (by rw [hr78]; simp <;> omega) (by rw [hr78]; exact (EqG.set' rfl (EqG.refl _ _ _) ⟨LeU.refl _, LeU.refl _, LeU.refl _, LeU.refl _, LeU.refl _, LeU.refl _, LeU.refl _, LeU.refl _, LeU.refl _, LeU.refl _, LeU.refl _, LeU.refl _, trivial⟩)) ?_
      refine Dz.reg ?_
      refine vw64 ?_
      refine Dz.reg ?_
      refine vw64 ?_
      exact ⟨((w64 ((w64 ((w64 ((w64 ((w64 ((w64 ((w64 ((w64 ((w64 ((w64 ((w64 ((w64 (v64.1 + 1)) + 1)) + 1)) + 1)) + 1)) + 1)) + 1)) + 1)) + 1)) + 1)) + 1)) + 1)), (w64 (v64.2.1 + 1)), r78), entG [0] ⟨⟨rfl, rfl, trivial⟩, m_val rfl, m_val rfl, trivial⟩ ⟨⟨rfl, o_row⟩, trivial⟩ rfl, hF⟩
    · refine Dz.exit ?_
      refine Dz.seq ?_
      refine Dz.reg ?_
      refine Dz.ret ?_
      cases hF
      exact finG [] [0] rfl rfl (m_val rfl) ⟨⟨rfl, o_row⟩, trivial⟩ rfl
end Go.Proofs.PanM

/-! Printed by wip/tools/walk.py. -/
namespace Go.Proofs.PanM
open Go.Vs
set_option maxRecDepth 8000
def l_heldPanEventS (a0 : (List PanEvent)) (a1 : Int) : Option (Int) :=
  loopN (fun i1 (v6 : Int) κ7 => cond (!decide ((a0.getD i1 default).Kind = v6)) (some (-1)) (cond (!decide ((a0.getD i1 default).Server = (w64 (v6 + 1)))) (some (-1)) (cond (!decide ((a0.getD i1 default).Other = (w64 ((w64 (v6 + 1)) + 1)))) (some (-1)) (cond (!decide ((a0.getD i1 default).Client = (w64 ((w64 ((w64 (v6 + 1)) + 1)) + 1)))) (some (-1)) (cond (!decide ((a0.getD i1 default).Word = (w64 ((w64 ((w64 ((w64 (v6 + 1)) + 1)) + 1)) + 1)))) (some (-1)) (cond (!(((a0.getD i1 default).Keep) == (decide ((Int.tmod (w64 ((w64 ((w64 ((w64 ((w64 (v6 + 1)) + 1)) + 1)) + 1)) + 1)) 3) = 0)))) (some (-1)) (cond (!decide ((a0.getD i1 default).Range = (w64 ((w64 ((w64 ((w64 ((w64 ((w64 (v6 + 1)) + 1)) + 1)) + 1)) + 1)) + 1)))) (some (-1)) (cond (!decide ((a0.getD i1 default).Op = (w64 ((w64 ((w64 ((w64 ((w64 ((w64 ((w64 (v6 + 1)) + 1)) + 1)) + 1)) + 1)) + 1)) + 1)))) (some (-1)) (cond (!decide ((a0.getD i1 default).Disk = (w64 ((w64 ((w64 ((w64 ((w64 ((w64 ((w64 ((w64 (v6 + 1)) + 1)) + 1)) + 1)) + 1)) + 1)) + 1)) + 1)))) (some (-1)) (cond (!decide ((a0.getD i1 default).Block = (w64 ((w64 ((w64 ((w64 ((w64 ((w64 ((w64 ((w64 ((w64 (v6 + 1)) + 1)) + 1)) + 1)) + 1)) + 1)) + 1)) + 1)) + 1)))) (some (-1)) (cond (!decide ((a0.getD i1 default).Epoch = (w64 ((w64 ((w64 ((w64 ((w64 ((w64 ((w64 ((w64 ((w64 ((w64 (v6 + 1)) + 1)) + 1)) + 1)) + 1)) + 1)) + 1)) + 1)) + 1)) + 1)))) (some (-1)) (cond (!decide ((a0.getD i1 default).Data = (w64 ((w64 ((w64 ((w64 ((w64 ((w64 ((w64 ((w64 ((w64 ((w64 ((w64 (v6 + 1)) + 1)) + 1)) + 1)) + 1)) + 1)) + 1)) + 1)) + 1)) + 1)) + 1)))) (some (-1)) (κ7 (w64 ((w64 ((w64 ((w64 ((w64 ((w64 ((w64 ((w64 ((w64 ((w64 ((w64 ((w64 (v6 + 1)) + 1)) + 1)) + 1)) + 1)) + 1)) + 1)) + 1)) + 1)) + 1)) + 1)) + 1))))))))))))))) (fun (v6 : Int) => some v6) a0.length 0 a1
theorem l_heldPanEventS_c {t0_0 : Bool} {a0 : (List PanEvent)} {a1 : Int} {r : Int} (hF : l_heldPanEventS a0 a1 = some r) : Con Tryd.prog 15 [.val false [.u (ul PanEvent.c 12 t0_0 a0)], vint .i64 a1] [] (vint .i64 r) [] := by
  refine Con.of_Dz tabOk Tryd.func15 rfl rfl rfl ?_
  delta l_heldPanEventS at hF
  refine Dz.seq ?_
  refine Dz.reg ?_
  refine Dz.seq ?_
  refine Dz.seq ?_
  refine Dz.reg ?_
  refine Dz.blk ?_
  refine Dz.cnt hF (fun i1 v6 => ([(0, .val false [.u (ul PanEvent.c 12 t0_0 a0)]), (1, vint .i64 v6), (5, vint .i64 ((i1 : Nat) : Int))], [])) (entG [] ⟨m_val rfl, m_val rfl, m_val rfl, trivial⟩ trivial rfl) (fun v6 hF => ?_) (fun i1 v6 κ7 hi0i1 hi1i1 hF => ?_)
  · refine Dz.seq ?_
    refine Dz.seq ?_
    refine Dz.reg ?_
    intro hb9; replace hb9 : a0.length ≤ 140737488355328 := hb9
    refine Dz.ff (b := decide (((0 + a0.length : Nat) : Int) < ((a0.length : Nat) : Int))) rfl (decide_eq_false (by omega)) ?_
    refine Dz.exit ?_
    refine Dz.seq ?_
    refine Dz.reg ?_
    refine Dz.ret ?_
    cases hF
    exact finG [] [] rfl rfl (m_val rfl) trivial rfl
  · refine Dz.seq ?_
    refine Dz.seq ?_
    refine Dz.reg ?_
    intro hb8; replace hb8 : a0.length ≤ 140737488355328 := hb8
    refine Dz.tt (b := decide (((i1 : Nat) : Int) < ((a0.length : Nat) : Int))) rfl (decide_eq_true (by omega)) ?_
    refine Dz.skip ?_
    refine Dz.seq ?_
    refine Dz.blk ?_
    refine Dz.seq ?_
    refine Dz.seq ?_
    refine Dz.reg ?_
    refine vge (n := ((i1 : Nat) : Int)) (hi := (a0.length : Int)) (by omega) (by omega) ?_
    refine Dz.ite rfl hF (fun _ hF => ?_) (fun _ hF => ?_)
    · refine Dz.seq ?_
      refine Dz.reg ?_
      refine Dz.ret ?_
      cases hF
      exact finG [] [] rfl rfl (m_val rfl) trivial rfl
    · refine Dz.skip ?_
      refine Dz.seq ?_
      refine Dz.reg ?_
      refine vw64 ?_
      refine Dz.seq ?_
      refine Dz.seq ?_
      refine Dz.reg ?_
      refine vge (n := ((i1 : Nat) : Int)) (hi := (a0.length : Int)) (by omega) (by omega) ?_
      refine Dz.ite rfl hF (fun _ hF => ?_) (fun _ hF => ?_)
      · refine Dz.seq ?_
        refine Dz.reg ?_
        refine Dz.ret ?_
        cases hF
        exact finG [] [] rfl rfl (m_val rfl) trivial rfl
      · refine Dz.skip ?_
        refine Dz.seq ?_
        refine Dz.reg ?_
        refine vw64 ?_
        refine Dz.seq ?_
        refine Dz.seq ?_
        refine Dz.reg ?_
        refine vge (n := ((i1 : Nat) : Int)) (hi := (a0.length : Int)) (by omega) (by omega) ?_
        refine Dz.ite rfl hF (fun _ hF => ?_) (fun _ hF => ?_)
        · refine Dz.seq ?_
          refine Dz.reg ?_
          refine Dz.ret ?_
          cases hF
          exact finG [] [] rfl rfl (m_val rfl) trivial rfl
        · refine Dz.skip ?_
          refine Dz.seq ?_
          refine Dz.reg ?_
          refine vw64 ?_
          refine Dz.seq ?_
          refine Dz.seq ?_
          refine Dz.ent (x := ([(0, .val false [.u (ul PanEvent.c 12 t0_0 a0)]), (1, vint .i64 (w64 ((w64 ((w64 (v6 + 1)) + 1)) + 1))), (5, vint .i64 ((i1 : Nat) : Int))], [])) (entG [] ⟨m_val rfl, m_val rfl, m_val rfl, trivial⟩ trivial rfl) ?_
          refine Dz.reg ?_
          refine vge (n := ((i1 : Nat) : Int)) (hi := (a0.length : Int)) (by omega) (by omega) ?_
          refine Dz.ite rfl hF (fun _ hF => ?_) (fun _ hF => ?_)
          · refine Dz.seq ?_
            refine Dz.reg ?_
            refine Dz.ret ?_
            cases hF
            exact finG [] [] rfl rfl (m_val rfl) trivial rfl
          · refine Dz.skip ?_
            refine Dz.seq ?_
            refine Dz.reg ?_
            refine vw64 ?_
            refine Dz.seq ?_
            refine Dz.seq ?_
            refine Dz.reg ?_
            refine vge (n := ((i1 : Nat) : Int)) (hi := (a0.length : Int)) (by omega) (by omega) ?_
            refine Dz.ite rfl hF (fun _ hF => ?_) (fun _ hF => ?_)
            · refine Dz.seq ?_
              refine Dz.reg ?_
              refine Dz.ret ?_
              cases hF
              exact finG [] [] rfl rfl (m_val rfl) trivial rfl
            · refine Dz.skip ?_
              refine Dz.seq ?_
              refine Dz.reg ?_
              refine vw64 ?_
              refine Dz.seq ?_
              refine Dz.seq ?_
              refine Dz.reg ?_
              refine vge (n := ((i1 : Nat) : Int)) (hi := (a0.length : Int)) (by omega) (by omega) ?_
              refine ⟨by decide, _, rfl, ?_⟩
              refine Dz.ite rfl hF (fun _ hF => ?_) (fun _ hF => ?_)
              · refine Dz.seq ?_
                refine Dz.reg ?_
                refine Dz.ret ?_
                cases hF
                exact finG [] [] rfl rfl (m_val rfl) trivial rfl
              · refine Dz.skip ?_
                refine Dz.seq ?_
                refine Dz.reg ?_
                refine vw64 ?_
                refine Dz.seq ?_
                refine Dz.seq ?_
                refine Dz.reg ?_
                refine vge (n := ((i1 : Nat) : Int)) (hi := (a0.length : Int)) (by omega) (by omega) ?_
                refine Dz.ite rfl hF (fun _ hF => ?_) (fun _ hF => ?_)
                · refine Dz.seq ?_
                  refine Dz.reg ?_
                  refine Dz.ret ?_
                  cases hF
                  exact finG [] [] rfl rfl (m_val rfl) trivial rfl
                · refine Dz.skip ?_
                  refine Dz.seq ?_
                  refine Dz.ent (x := ([(0, .val false [.u (ul PanEvent.c 12 t0_0 a0)]), (1, vint .i64 (w64 ((w64 ((w64 ((w64 ((w64 ((w64 (v6 + 1)) + 1)) + 1)) + 1)) + 1)) + 1))), (5, vint .i64 ((i1 : Nat) : Int))], [])) (entG [] ⟨m_val rfl, m_val rfl, m_val rfl, trivial⟩ trivial rfl) ?_
                  refine Dz.reg ?_
                  refine vw64 ?_
                  refine Dz.seq ?_
                  refine Dz.seq ?_
                  refine Dz.reg ?_
                  refine vge (n := ((i1 : Nat) : Int)) (hi := (a0.length : Int)) (by omega) (by omega) ?_
                  refine Dz.ite rfl hF (fun _ hF => ?_) (fun _ hF => ?_)
                  · refine Dz.seq ?_
                    refine Dz.reg ?_
                    refine Dz.ret ?_
                    cases hF
                    exact finG [] [] rfl rfl (m_val rfl) trivial rfl
                  · refine Dz.skip ?_
                    refine Dz.seq ?_
                    refine Dz.reg ?_
                    refine vw64 ?_
                    refine Dz.seq ?_
                    refine Dz.seq ?_
                    refine Dz.reg ?_
                    refine vge (n := ((i1 : Nat) : Int)) (hi := (a0.length : Int)) (by omega) (by omega) ?_
                    refine Dz.ite rfl hF (fun _ hF => ?_) (fun _ hF => ?_)
                    · refine Dz.seq ?_
                      refine Dz.reg ?_
                      refine Dz.ret ?_
                      cases hF
                      exact finG [] [] rfl rfl (m_val rfl) trivial rfl
                    · refine Dz.skip ?_
                      refine Dz.seq ?_
                      refine Dz.reg ?_
                      refine vw64 ?_
                      refine Dz.seq ?_
                      refine Dz.seq ?_
                      refine Dz.reg ?_
                      refine vge (n := ((i1 : Nat) : Int)) (hi := (a0.length : Int)) (by omega) (by omega) ?_
                      refine Dz.ite rfl hF (fun _ hF => ?_) (fun _ hF => ?_)
                      · refine Dz.seq ?_
                        refine Dz.reg ?_
                        refine Dz.ret ?_
                        cases hF
                        exact finG [] [] rfl rfl (m_val rfl) trivial rfl
                      · refine Dz.skip ?_
                        refine Dz.seq ?_
                        refine Dz.reg ?_
                        refine vw64 ?_
                        refine Dz.seq ?_
                        refine Dz.seq ?_
                        refine Dz.reg ?_
                        refine vge (n := ((i1 : Nat) : Int)) (hi := (a0.length : Int)) (by omega) (by omega) ?_
                        refine Dz.ite rfl hF (fun _ hF => ?_) (fun _ hF => ?_)
                        · refine Dz.seq ?_
                          refine Dz.ent (x := ([], [])) (entG [] trivial trivial rfl) ?_
                          refine Dz.reg ?_
                          refine Dz.ret ?_
                          cases hF
                          exact finG [] [] rfl rfl (m_val rfl) trivial rfl
                        · refine Dz.skip ?_
                          refine Dz.seq ?_
                          refine Dz.ent (x := ([(0, .val false [.u (ul PanEvent.c 12 t0_0 a0)]), (1, vint .i64 (w64 ((w64 ((w64 ((w64 ((w64 ((w64 ((w64 ((w64 ((w64 ((w64 (v6 + 1)) + 1)) + 1)) + 1)) + 1)) + 1)) + 1)) + 1)) + 1)) + 1))), (5, vint .i64 ((i1 : Nat) : Int))], [])) (entG [] ⟨m_val rfl, m_val rfl, m_val rfl, trivial⟩ trivial rfl) ?_
                          refine Dz.reg ?_
                          refine vw64 ?_
                          refine Dz.seq ?_
                          refine Dz.seq ?_
                          refine Dz.reg ?_
                          refine vge (n := ((i1 : Nat) : Int)) (hi := (a0.length : Int)) (by omega) (by omega) ?_
                          refine Dz.ite rfl hF (fun _ hF => ?_) (fun _ hF => ?_)
                          · refine Dz.seq ?_
                            refine Dz.reg ?_
                            refine Dz.ret ?_
                            cases hF
                            exact finG [] [] rfl rfl (m_val rfl) trivial rfl
                          · refine Dz.skip ?_
                            refine Dz.reg ?_
                            refine vw64 ?_
                            refine Dz.reg ?_
                            refine vsucc (by omega) ?_
                            exact ⟨(w64 ((w64 ((w64 ((w64 ((w64 ((w64 ((w64 ((w64 ((w64 ((w64 ((w64 ((w64 (v6 + 1)) + 1)) + 1)) + 1)) + 1)) + 1)) + 1)) + 1)) + 1)) + 1)) + 1)) + 1)), entG [] ⟨m_val rfl, m_val rfl, m_val rfl, trivial⟩ trivial rfl, hF⟩
end Go.Proofs.PanM

/-! Printed by wip/tools/walk.py. -/
namespace Go.Proofs.PanM
open Go.Vs
set_option maxRecDepth 8000
def l_FnExactPanRead (a0 : ByteArray) : Option (Bool) :=
  cond (decide ((1048576 : Int) < (a0.size : Int))) (some true) ((s_PanRead a0).bind (fun y1 => (i_PanRead a0).bind (fun y2 => (l_eqPanEventS y2.1 y1.1).bind (fun y3 => cond (!y3) (some false) (cond (!decide (y2.2 = y1.2)) (some false) ((l_markPanEventS y2.1 1).bind (fun y4 => (l_heldPanEventS y4.2 1).bind (fun y5 => cond (decide (y5 < 0)) (some false) (cond (!decide (y5 = y4.1)) (some false) ((i_PanRead a0).bind (fun y6 => (l_eqPanEventS y6.1 y1.1).bind (fun y7 => cond (!y7) (some false) (cond (!decide (y6.2 = y1.2)) (some false) ((l_heldPanEventS y4.2 1).bind (fun y8 => cond (decide (y8 < 0)) (some false) (cond (!decide (y8 = y4.1)) (some false) (some true)))))))))))))))))
theorem l_FnExactPanRead_c {a0 : ByteArray} {r : Bool} (hF : l_FnExactPanRead a0 = some r) : Con Tryd.prog 4 [vstr a0] [] (vbool r) [] := by
  refine Con.of_Dz tabOk Tryd.func4 rfl rfl rfl ?_
  delta l_FnExactPanRead at hF
  refine Dz.seq ?_
  refine Dz.reg ?_
  refine Dz.seq ?_
  refine Dz.seq ?_
  refine Dz.reg ?_
  refine Dz.ite rfl hF (fun _ hF => ?_) (fun _ hF => ?_)
  · refine Dz.seq ?_
    refine Dz.reg ?_
    refine Dz.ret ?_
    cases hF
    exact finG [] [] rfl rfl (m_val rfl) trivial rfl
  · refine Dz.skip ?_
    refine Dz.seq ?_
    refine Dz.reg ?_
    refine bdE hF (fun y1 hy1 hF => ?_)
    refine callG [] (s_PanRead_c hy1) ⟨m_val rfl, trivial⟩ trivial rfl ?_
    refine Dz.seq ?_
    refine Dz.reg ?_
    refine bdE hF (fun y2 hy2 hF => ?_)
    refine callG [] (i_PanRead_c hy2) ⟨m_val rfl, trivial⟩ trivial rfl ?_
    refine Dz.seq ?_
    refine Dz.seq ?_
    refine Dz.reg ?_
    refine bdE hF (fun y3 hy3 hF => ?_)
    refine callL [] (l_eqPanEventS_c hy3) ⟨⟨rfl, ⟨rfl, rfl, LeU.refl _⟩, trivial⟩, ⟨rfl, ⟨rfl, rfl, LeU.refl _⟩, trivial⟩, trivial⟩ trivial rfl ⟨⟨trivial, trivial⟩, trivial⟩ ?_
    refine vif hF (fun _ hF => ?_) (fun _ hF => ?_)
    · refine Dz.tt (b := true) rfl rfl ?_
      refine Dz.seq ?_
      refine Dz.reg ?_
      refine Dz.ret ?_
      cases hF
      exact finG [] [] rfl rfl (m_val rfl) trivial rfl
    · refine Dz.ite rfl hF (fun _ hF => ?_) (fun _ hF => ?_)
      · refine Dz.seq ?_
        refine Dz.reg ?_
        refine Dz.ret ?_
        cases hF
        exact finG [] [] rfl rfl (m_val rfl) trivial rfl
      · refine Dz.skip ?_
        refine Dz.seq ?_
        refine Dz.reg ?_
        refine Dz.seq ?_
        refine Dz.reg ?_
        refine bdE hF (fun y4 hy4 hF => ?_)
        refine callG [1] (l_markPanEventS_c hy4) ⟨⟨rfl, rfl, trivial⟩, m_val rfl, trivial⟩ ⟨⟨rfl, o_row⟩, trivial⟩ rfl ?_
        refine Dz.seq ?_
        refine Dz.ent (x := ([(0, vstr a0), (3, .val false [.row 0]), (4, vint .i64 y1.2), (5, .val false [.row 1]), (7, vint .i64 y4.1)], [.row 48 y1.1.length 12 (gl PanEvent.c y1.1), .row 48 y4.2.length 12 (gl PanEvent.c y4.2)])) (entG [0, 1] ⟨m_val rfl, ⟨rfl, rfl, trivial⟩, m_val rfl, ⟨rfl, rfl, trivial⟩, m_val rfl, trivial⟩ ⟨⟨rfl, o_row⟩, ⟨rfl, o_row⟩, trivial⟩ rfl) ?_
        refine Dz.reg ?_
        refine Dz.seq ?_
        refine Dz.reg ?_
        refine bdE hF (fun y5 hy5 hF => ?_)
        refine callL [] (l_heldPanEventS_c hy5) ⟨⟨rfl, ⟨rfl, rfl, LeU.refl _⟩, trivial⟩, m_val rfl, trivial⟩ trivial rfl ⟨⟨trivial, trivial⟩, trivial⟩ ?_
        refine Dz.seq ?_
        refine Dz.seq ?_
        refine Dz.reg ?_
        refine Dz.ite rfl hF (fun _ hF => ?_) (fun _ hF => ?_)
        · refine Dz.seq ?_
          refine Dz.reg ?_
          refine Dz.ret ?_
          cases hF
          exact finG [] [] rfl rfl (m_val rfl) trivial rfl
        · refine Dz.skip ?_
          refine Dz.seq ?_
          refine Dz.seq ?_
          refine Dz.reg ?_
          refine Dz.ite rfl hF (fun _ hF => ?_) (fun _ hF => ?_)
          · refine Dz.seq ?_
            refine Dz.reg ?_
            refine Dz.ret ?_
            cases hF
            exact finG [] [] rfl rfl (m_val rfl) trivial rfl
          · refine Dz.skip ?_
            refine Dz.seq ?_
            refine Dz.reg ?_
            refine bdE hF (fun y6 hy6 hF => ?_)
            refine callG [] (i_PanRead_c hy6) ⟨m_val rfl, trivial⟩ trivial rfl ?_
            refine Dz.seq ?_
            refine Dz.seq ?_
            refine Dz.reg ?_
            refine bdE hF (fun y7 hy7 hF => ?_)
            refine callL [] (l_eqPanEventS_c hy7) ⟨⟨rfl, ⟨rfl, rfl, LeU.refl _⟩, trivial⟩, ⟨rfl, ⟨rfl, rfl, LeU.refl _⟩, trivial⟩, trivial⟩ trivial rfl ⟨⟨trivial, trivial⟩, trivial⟩ ?_
            refine vif hF (fun _ hF => ?_) (fun _ hF => ?_)
            · refine Dz.tt (b := true) rfl rfl ?_
              refine Dz.seq ?_
              refine Dz.reg ?_
              refine Dz.ret ?_
              cases hF
              exact finG [] [] rfl rfl (m_val rfl) trivial rfl
            · refine Dz.ite rfl hF (fun _ hF => ?_) (fun _ hF => ?_)
              · refine Dz.seq ?_
                refine Dz.reg ?_
                refine Dz.ret ?_
                cases hF
                exact finG [] [] rfl rfl (m_val rfl) trivial rfl
              · refine Dz.skip ?_
                refine Dz.seq ?_
                refine Dz.reg ?_
                refine Dz.seq ?_
                refine Dz.reg ?_
                refine bdE hF (fun y8 hy8 hF => ?_)
                refine callL [] (l_heldPanEventS_c hy8) ⟨⟨rfl, ⟨rfl, rfl, LeU.refl _⟩, trivial⟩, m_val rfl, trivial⟩ trivial rfl ⟨⟨trivial, trivial⟩, trivial⟩ ?_
                refine Dz.seq ?_
                refine Dz.seq ?_
                refine Dz.ent (x := ([(7, vint .i64 y4.1), (8, vint .i64 y8)], [])) (entG [] ⟨m_val rfl, m_val rfl, trivial⟩ trivial rfl) ?_
                refine Dz.reg ?_
                refine Dz.ite rfl hF (fun _ hF => ?_) (fun _ hF => ?_)
                · refine Dz.seq ?_
                  refine Dz.reg ?_
                  refine Dz.ret ?_
                  cases hF
                  exact finG [] [] rfl rfl (m_val rfl) trivial rfl
                · refine Dz.skip ?_
                  refine Dz.seq ?_
                  refine Dz.seq ?_
                  refine Dz.reg ?_
                  refine Dz.ite rfl hF (fun _ hF => ?_) (fun _ hF => ?_)
                  · refine Dz.seq ?_
                    refine Dz.reg ?_
                    refine Dz.ret ?_
                    cases hF
                    exact finG [] [] rfl rfl (m_val rfl) trivial rfl
                  · refine Dz.skip ?_
                    refine Dz.seq ?_
                    refine Dz.reg ?_
                    refine Dz.ret ?_
                    cases hF
                    exact finG [] [] rfl rfl (m_val rfl) trivial rfl
end Go.Proofs.PanM

/-! Plain laws: cutting a text, and a number of a line. -/
namespace Go.Proofs.PanM
open Go.Vs
open Go.Lib (itoa decDigits index count splitK splitB countB)

theorem snoc_ind {P : List UInt8 → Prop} (h0 : P []) (h1 : ∀ l d, P l → P (l ++ [d])) (l : List UInt8) : P l := by
  rw [← List.reverse_reverse l]
  induction l.reverse with
  | nil => exact h0
  | cons a t ih => rw [List.reverse_cons]; exact h1 _ _ ih
theorem i_in_eq (a b c : Int) : i_in a b c = some (inB a b c) := inB_cond a b c

/-! ### Cutting -/
def cutL (c : UInt8) : List UInt8 → List (List UInt8)
  | [] => [[]]
  | b :: l => if b = c then [] :: cutL c l else match cutL c l with
    | [] => [[b]]
    | h :: t => (b :: h) :: t
theorem cutL_ne (c : UInt8) : ∀ l, cutL c l ≠ []
  | [] => by simp [cutL]
  | b :: l => by
    unfold cutL
    split
    · simp
    · cases cutL c l <;> simp
theorem cutL_none (c : UInt8) : ∀ l, c ∉ l → cutL c l = [l]
  | [], _ => rfl
  | b :: l, h => by
    rw [List.mem_cons, not_or] at h
    unfold cutL
    rw [if_neg (fun e => h.1 e.symm), cutL_none c l h.2]
theorem cutL_app (c : UInt8) : ∀ x y, c ∉ x → cutL c (x ++ c :: y) = x :: cutL c y
  | [], y, _ => by simp [cutL]
  | b :: x, y, h => by
    rw [List.mem_cons, not_or] at h
    show cutL c (b :: (x ++ c :: y)) = _
    rw [cutL, if_neg (fun e => h.1 e.symm), cutL_app c x y h.2]
theorem cutL_len (c : UInt8) : ∀ l, (cutL c l).length ≤ l.length + 1 ∧ ∀ x ∈ cutL c l, x.length ≤ l.length
  | [] => by simp [cutL]
  | b :: l => by
    have h := cutL_len c l
    unfold cutL
    split
    · simp only [List.length_cons]
      refine ⟨by omega, fun x hx => ?_⟩
      rcases List.mem_cons.1 hx with e | e
      · subst e; simp
      · have := h.2 x e; omega
    · cases hc : cutL c l with
      | nil => exact absurd hc (cutL_ne c l)
      | cons a t =>
        rw [hc] at h
        simp only [List.length_cons] at h ⊢
        refine ⟨by omega, fun x hx => ?_⟩
        rcases List.mem_cons.1 hx with e | e
        · subst e
          have := h.2 a (List.mem_cons_self ..)
          simp only [List.length_cons]; omega
        · have := h.2 x (List.mem_cons_of_mem _ e); omega

theorem splitK_cut (c : UInt8) : ∀ s : List UInt8, splitK [c] 0 (count s [c]) s = cutL c s
  | [] => by
    rw [Go.Lib.count_miss (by simp [index])]; rfl
  | b :: l => by
    by_cases h : b = c
    · subst h
      rw [Go.Lib.count_cons_eq, Nat.add_comm]
      have hix : index (b :: l) [b] = 0 := by rw [index]; simp [List.isPrefixOf]
      rw [splitK, hix, if_neg (by decide), cutL, if_pos rfl]
      show List.take 0 _ :: splitK [b] 0 (count l [b]) (List.drop 1 (b :: l)) = _
      rw [List.drop_one, List.tail_cons, splitK_cut b l]; rfl
    · rw [Go.Lib.count_cons_ne b c l h, cutL, if_neg h, ← splitK_cut c l]
      have hp : ([c] : List UInt8).isPrefixOf (b :: l) = false := by simp [List.isPrefixOf, Ne.symm h]
      have hix : index (b :: l) [c] = if index l [c] == -1 then -1 else index l [c] + 1 := by rw [index, hp]; simp
      have hge := Go.Lib.index_ge l [c]
      cases hk : count l [c] with
      | zero => rfl
      | succ k =>
        by_cases hm : index l [c] = -1
        · rw [Go.Lib.count_miss hm] at hk; cases hk
        · obtain ⟨j, hj⟩ : ∃ j : Nat, index l [c] = j := ⟨(index l [c]).toNat, by omega⟩
          rw [splitK, splitK, hix, hj, if_neg (show ¬ (((j : Int) == -1) = true) from fun e => by have := beq_iff_eq.1 e; omega), if_neg (fun e => by have := beq_iff_eq.1 e; omega), if_neg (fun e => by have := beq_iff_eq.1 e; omega)]
          have e1 : ((j : Int) + 1).toNat = j + 1 := by omega
          have e2 : ((j : Int)).toNat = j := by omega
          rw [e1, e2]
          simp
def ba (l : List UInt8) : ByteArray := ⟨l.toArray⟩
theorem ba_data (s : ByteArray) : ba s.data.toList = s := rfl
theorem ba_size (l : List UInt8) : (ba l).size = l.length := rfl
theorem ba_toList (l : List UInt8) : (ba l).toList = l := by rw [ByteArray.toList_eq]; rfl
def cutB (c : UInt8) (s : ByteArray) : List ByteArray := (cutL c s.data.toList).map ba
theorem cutB_ne (c : UInt8) (s : ByteArray) : 1 ≤ (cutB c s).length := by
  have := List.length_pos_iff.2 (cutL_ne c s.data.toList)
  simp [cutB]; omega
theorem cutB_len (c : UInt8) (s : ByteArray) : (cutB c s).length ≤ s.size + 1 ∧ ∀ x ∈ cutB c s, x.size ≤ s.size := by
  have h := cutL_len c s.data.toList
  refine ⟨by simpa [cutB] using h.1, fun x hx => ?_⟩
  obtain ⟨l, hl, rfl⟩ := List.mem_map.1 hx
  exact h.2 l hl
theorem split_cut (c : UInt8) (s : ByteArray) : splitB ⟨#[c]⟩ 0 (countB s ⟨#[c]⟩) s = cutB c s := by
  have h := Go.Lib.splitB_data ⟨#[c]⟩ 0 (countB s ⟨#[c]⟩) s
  have h1 : (splitB ⟨#[c]⟩ 0 (countB s ⟨#[c]⟩) s).map (fun x => ba x.data.toList) = splitB ⟨#[c]⟩ 0 (countB s ⟨#[c]⟩) s := by
    simp only [ba_data, List.map_id']
  rw [← h1]
  have h2 : (splitB ⟨#[c]⟩ 0 (countB s ⟨#[c]⟩) s).map (fun x => ba x.data.toList) = ((splitB ⟨#[c]⟩ 0 (countB s ⟨#[c]⟩) s).map (·.data.toList)).map ba := by
    rw [List.map_map]; rfl
  rw [h2, h]
  unfold cutB
  congr 1
  exact splitK_cut c s.data.toList
theorem g_split_eq (c : UInt8) (s : ByteArray) (h : s.size ≤ 1048576) : g_split s ⟨#[c]⟩ = some (cutB c s) := by
  unfold g_split
  rw [ck_pos ⟨by omega, by exact Nat.le_refl 1⟩, split_cut]

theorem byteAt_data {s : ByteArray} {i : Nat} (h : i < s.size) : byteAt s i = ((s.data.toList.getD i 0).toNat : Int) := by
  unfold byteAt
  rw [dif_pos h, List.getD_eq_getElem?_getD, List.getElem?_eq_getElem (by simpa using h)]
  simp; rfl
theorem ixs_pos {R : Type} {s : ByteArray} {i : Nat} {κ : Int → Option R} (h : i < s.size) : ixs s ((i : Nat) : Int) κ = κ (byteAt s i) := by
  unfold ixs
  rw [if_pos (by omega)]; rfl
theorem drop_getD {α : Type} {L : List α} {d : α} {i : Nat} (h : i < L.length) : L.drop i = L.getD i d :: L.drop (i + 1) := by
  rw [List.drop_eq_getElem_cons h, List.getD_eq_getElem?_getD, List.getElem?_eq_getElem h]; rfl

theorem s_l65Cut_eq (c : UInt8) (s : ByteArray) (h : s.size ≤ 1048576) : s_l65Cut s (c.toNat : Int) = some (cutB c s) := by
  unfold s_l65Cut
  have hd : s.data.toList.length = s.size := by simp
  rw [ck_pos (by omega)]
  have e0 : ((s.size : Int)).toNat = s.size := by omega
  rw [e0]
  refine loopN_eq (fun i (v : Int × List ByteArray) => ∃ f : Nat, v.1 = (f : Int) ∧ f ≤ i ∧ v.2.length ≤ i ∧ c ∉ (s.data.toList.drop f).take (i - f) ∧ v.2 ++ (cutL c (s.data.toList.drop f)).map ba = cutB c s) ⟨0, rfl, Nat.le_refl _, Nat.le_refl _, by simp, by simp [cutB]⟩ (fun i v κ _ hi ⟨f, h1, h2, h3, h4, h5⟩ => ?_) (fun v ⟨f, h1, h2, h3, h4, h5⟩ => ?_)
  · obtain ⟨v1, v2⟩ := v
    simp only at h1 h3 h5 ⊢
    subst h1
    rw [ixs_pos (by omega), byteAt_data (by omega)]
    have hsplit : s.data.toList.drop f = (s.data.toList.drop f).take (i - f) ++ s.data.toList.getD i 0 :: s.data.toList.drop (i + 1) := by
      conv => lhs; rw [← List.take_append_drop (i - f) (s.data.toList.drop f)]
      rw [List.drop_drop, show f + (i - f) = i by omega, ← drop_getD (by omega)]
    by_cases hc : s.data.toList.getD i 0 = c
    · rw [decide_eq_true (by rw [hc]), cond_true, ck_pos (by omega), ck_pos (by omega)]
      refine ⟨_, ⟨i + 1, rfl, Nat.le_refl _, ?_, by simp, ?_⟩, rfl⟩
      · simp only [List.length_append, List.length_cons, List.length_nil]; omega
      · simp only
        rw [← h5, hsplit, hc, cutL_app c _ _ h4, List.map_cons, List.append_assoc]
        congr 1
        show [s.extract f i] ++ _ = [ba _] ++ _
        congr 2
        have := Go.Lib.extract_data s f i
        rw [← this, ba_data]
    · rw [decide_eq_false (fun e => hc (UInt8.toNat_inj.1 (by omega))), cond_false]
      refine ⟨_, ⟨f, rfl, by omega, by simp only; omega, ?_, h5⟩, rfl⟩
      rw [show i + 1 - f = (i - f) + 1 by omega, List.take_add_one, List.mem_append, not_or]
      refine ⟨h4, ?_⟩
      rw [List.getElem?_drop, show f + (i - f) = i by omega]
      intro hm
      rw [List.getElem?_eq_getElem (by omega)] at hm
      simp only [Option.toList_some, List.mem_singleton] at hm
      apply hc
      rw [List.getD_eq_getElem?_getD, List.getElem?_eq_getElem (by omega)]
      exact hm.symm
  · obtain ⟨v1, v2⟩ := v
    simp only at h1 h3 h5 ⊢
    subst h1
    rw [Nat.zero_add] at h2 h3 h4
    rw [ck_pos (by omega), ck_pos (by omega)]
    rw [List.take_of_length_le (by rw [List.length_drop]; omega)] at h4
    rw [cutL_none c _ h4] at h5
    rw [← h5]
    congr 2
    show [s.extract f s.size] = [ba _]
    congr 1
    have := Go.Lib.extract_data s f s.size
    rw [List.take_of_length_le (by rw [List.length_drop]; omega)] at this
    rw [← this, ba_data]

/-! ### A number -/
def digB (d : UInt8) : Bool := inB (d.toNat : Int) 48 57
def numOK (l : List UInt8) : Bool := decide (1 ≤ l.length ∧ l.length ≤ 5) && (!(decide (l.getD 0 0 = 48) && decide (1 < l.length)) && l.all digB)
/-- A number of a line, if it is one. -/
def numV (s : ByteArray) : Option Int := if numOK s.data.toList then some (valD s.data.toList) else none

theorem digB_of {d : UInt8} (h : digB d = true) : 48 ≤ d.toNat ∧ d.toNat ≤ 57 := by
  have := inB_of h
  omega
theorem valD_lt : ∀ l : List UInt8, l.all digB = true → valD l < 10 ^ l.length := by
  intro l
  induction l using snoc_ind with
  | h0 => intro _; decide
  | h1 l d ih =>
    intro h
    rw [List.all_append] at h
    simp only [List.all_cons, List.all_nil, Bool.and_true, Bool.and_eq_true] at h
    have h1 := ih h.1
    have h2 := digB_of h.2
    rw [valD_snoc, List.length_append, List.length_cons, List.length_nil, Nat.pow_succ]
    omega
theorem dec_lead : ∀ u : Nat, 1 ≤ u → ∃ d t, decDigits u = d :: t ∧ d ≠ 48 := by
  intro u
  induction u using Nat.strongRecOn with
  | _ u ih =>
    intro hu
    rw [decDigits]
    by_cases h : u < 10
    · rw [dif_pos h]
      refine ⟨_, [], rfl, fun e => ?_⟩
      have := congrArg UInt8.toNat e
      rw [ofNat_digit h] at this
      have h48 : (48 : UInt8).toNat = 48 := rfl
      omega
    · rw [dif_neg h]
      obtain ⟨d, t, e, hd⟩ := ih (u / 10) (by omega) (by omega)
      rw [e]
      exact ⟨d, _, rfl, hd⟩
theorem valD_pos : ∀ l : List UInt8, l ≠ [] → l.getD 0 0 ≠ 48 → l.all digB = true → 1 ≤ valD l := by
  intro l
  induction l using snoc_ind with
  | h0 => intro h; exact absurd rfl h
  | h1 l d ih =>
    intro _ h0 h
    rw [List.all_append] at h
    simp only [List.all_cons, List.all_nil, Bool.and_true, Bool.and_eq_true] at h
    have h2 := digB_of h.2
    rw [valD_snoc]
    cases l with
    | nil =>
      simp only [List.nil_append, List.getD_cons_zero] at h0
      have : d.toNat ≠ 48 := fun e => h0 (UInt8.toNat_inj.1 e)
      have : valD [] = 0 := rfl
      omega
    | cons a t =>
      have := ih (by simp) (by simpa using h0) h.1
      omega
theorem dec_val : ∀ l : List UInt8, l ≠ [] → l.all digB = true → ¬ (l.getD 0 0 = 48 ∧ 1 < l.length) → decDigits (valD l) = l := by
  intro l
  induction l using snoc_ind with
  | h0 => intro h; exact absurd rfl h
  | h1 l d ih =>
    intro _ h h0
    rw [List.all_append] at h
    simp only [List.all_cons, List.all_nil, Bool.and_true, Bool.and_eq_true] at h
    have h2 := digB_of h.2
    rw [valD_snoc]
    have hd : ∀ m : Nat, m = d.toNat - 48 → UInt8.ofNat (48 + m) = d := fun m hm => by
      apply UInt8.toNat_inj.1
      rw [ofNat_digit (by omega)]; omega
    cases l with
    | nil =>
      have : valD [] = 0 := rfl
      rw [decDigits, dif_pos (by omega), hd _ (by omega)]; rfl
    | cons a t =>
      have ha : ¬ (a = 48) := fun e => h0 ⟨by simpa using e, by simp⟩
      have hp := valD_pos (a :: t) (by simp) (by simpa using ha) h.1
      rw [decDigits, dif_neg (by omega), show (10 * valD (a :: t) + (d.toNat - 48)) / 10 = valD (a :: t) by omega, ih (by simp) h.1 (fun hh => ha (by simpa using hh.1)), hd _ (by omega)]
theorem dec_num (l : List UInt8) (h1 : l ≠ []) (h2 : l.all digB = true) : (decDigits (valD l) == l) = !(decide (l.getD 0 0 = 48) && decide (1 < l.length)) := by
  by_cases h : l.getD 0 0 = 48 ∧ 1 < l.length
  · rw [decide_eq_true h.1, decide_eq_true h.2]
    apply beq_false_of_ne
    intro e
    obtain ⟨a, t, rfl⟩ : ∃ a t, l = a :: t := by
      cases l with
      | nil => exact absurd rfl h1
      | cons a t => exact ⟨a, t, rfl⟩
    have ha : a = 48 := by simpa using h.1
    by_cases hz : valD (a :: t) = 0
    · rw [hz] at e
      have : decDigits 0 = [48] := by rw [decDigits, dif_pos (by omega)]; rfl
      rw [this] at e
      have := congrArg List.length e
      have h2 := h.2
      simp only [List.length_cons, List.length_nil] at this h2
      omega
    · obtain ⟨d, t', e', hd⟩ := dec_lead (valD (a :: t)) (by omega)
      rw [e'] at e
      exact hd ((List.cons.inj e).1.trans ha)
  · rw [dec_val l h1 h2 h, beq_self_eq_true]
    cases h3 : decide (l.getD 0 0 = 48) <;> cases h4 : decide (1 < l.length) <;> first | rfl | exact absurd ⟨of_decide_eq_true h3, of_decide_eq_true h4⟩ h

theorem s_l6Dec_nat (u : Nat) : u < 1000000 → ∀ k, u < k → s_l6Dec k (u : Int) = some (ba (decDigits u)) := by
  induction u using Nat.strongRecOn with
  | _ u ih =>
    intro hu k hk
    obtain ⟨k, rfl⟩ : ∃ m, k = m + 1 := ⟨k - 1, by omega⟩
    show s_l6Dec_b (s_l6Dec k) (u : Int) = _
    unfold s_l6Dec_b
    rw [decide_eq_false (by omega), decide_eq_false (show ¬ ((u : Int) < 0) by omega)]
    simp only [cond_false]
    have hb : ∀ m : Nat, m < 10 → strOfNums ([(IntKind.wrap .u8 (w64 (48 + (m : Int))))] : List Int) = ba [UInt8.ofNat (48 + m)] := by
      intro m hm
      rw [w64_eq (by omega) (by omega), IntKind.wrap_u8]
      unfold strOfNums ba
      congr 2
      show [UInt8.ofNat _] = _
      congr 2
      omega
    rw [decDigits]
    by_cases h : u < 10
    · rw [decide_eq_true (by omega), dif_pos h, cond_true, hb u h]
    · rw [decide_eq_false (by omega), dif_neg h, cond_false]
      have hd : IntKind.wrap .i64 (Int.tdiv (u : Int) 10) = ((u / 10 : Nat) : Int) := by
        have h1 : Int.tdiv (u : Int) 10 = ((u / 10 : Nat) : Int) := rfl
        rw [h1]
        exact (wrap64 (by omega) (by omega)).symm
      have hm : Int.tmod (u : Int) 10 = ((u % 10 : Nat) : Int) := rfl
      rw [hd, hm, ih (u / 10) (by omega) (by omega) k (by omega), hb (u % 10) (by omega)]
      simp only [Option.bind_some]
      have hl : (decDigits (u / 10)).length ≤ 20 := by
        have h0 := Go.Lib.decDigits_length (u / 10)
        have h1 := Go.Lib.numDigits_eq
        rw [h0]
        rw [Go.Lib.nDigits]
        split
        · omega
        · rw [Go.Lib.nDigits]
          split
          · omega
          · rw [Go.Lib.nDigits]
            split
            · omega
            · rw [Go.Lib.nDigits]
              split
              · omega
              · rw [Go.Lib.nDigits]
                split
                · omega
                · omega
      rw [ck_pos (by
        show (decDigits (u / 10)).length + 1 ≤ _
        omega)]
      congr 1

theorem valD_take {l : List UInt8} {i : Nat} (h : i < l.length) : valD (l.take (i + 1)) = 10 * valD (l.take i) + ((l.getD i 0).toNat - 48) := by
  rw [List.take_add_one, List.getElem?_eq_getElem h]
  show valD (_ ++ [l[i]]) = _
  rw [valD_snoc, List.getD_eq_getElem?_getD, List.getElem?_eq_getElem h]; rfl
theorem val_bound {l : List UInt8} (h : l.all digB = true) (hl : l.length ≤ 5) (i : Nat) : valD (l.take i) < 100000 := by
  have h1 := valD_lt (l.take i) (by
    rw [List.all_eq_true] at h ⊢
    exact fun x hx => h x (List.mem_of_mem_take hx))
  have h2 : (l.take i).length ≤ 5 := by rw [List.length_take]; omega
  have h3 : 10 ^ (l.take i).length ≤ 10 ^ 5 := Nat.pow_le_pow_right (by omega) h2
  omega
theorem all_take {l : List UInt8} {i : Nat} (h : i < l.length) : (l.take (i + 1)).all digB = ((l.take i).all digB && digB (l.getD i 0)) := by
  rw [List.take_add_one, List.getElem?_eq_getElem h, List.all_append, List.getD_eq_getElem?_getD, List.getElem?_eq_getElem h]; simp

/-- The loop over the digits. -/
theorem digits_loop {R : Type} {l : List UInt8} (hl : l.length ≤ 5) (r0 : Option R) (after : Int → Option R) (body : Nat → Int → (Int → Option R) → Option R)
    (hb : ∀ i (u : Nat) κ, i < l.length → u < 100000 → body i (u : Int) κ = cond (digB (l.getD i 0)) (κ ((10 * u + ((l.getD i 0).toNat - 48) : Nat) : Int)) r0) :
    loopN body after l.length 0 0 = cond (l.all digB) (after (valD l : Int)) r0 := by
  have key : ∀ (d i : Nat), i + d = l.length → (l.take i).all digB = true → loopN body after d i (valD (l.take i) : Int) = cond (l.all digB) (after (valD l : Int)) r0 := by
    intro d
    induction d with
    | zero =>
      intro i hi h
      rw [List.take_of_length_le (by omega)] at h ⊢
      rw [h]; rfl
    | succ d ih =>
      intro i hi h
      show body i _ (loopN body after d (i + 1)) = _
      have hv : valD (l.take i) < 100000 := by
        have := val_bound (l := l.take i) h (by rw [List.length_take]; omega) i
        rwa [List.take_take, Nat.min_self] at this
      rw [hb i _ _ (by omega) hv]
      cases hd : digB (l.getD i 0) with
      | false =>
        have : l.all digB = false := by
          rw [← List.take_append_drop (i + 1) l, List.all_append, all_take (by omega), hd]; simp
        rw [this]; rfl
      | true =>
        rw [← valD_take (by omega), ← ih (i + 1) (by omega) (by rw [all_take (by omega), h, hd]; rfl)]
        rfl
  exact key l.length 0 (by omega) rfl

theorem num_step (u : Nat) (d : UInt8) (hu : u < 100000) (hd : digB d = true) : w64 (w64 (10 * (u : Int)) + IntKind.wrap .i64 (IntKind.wrap .u8 ((d.toNat : Int) - 48))) = ((10 * u + (d.toNat - 48) : Nat) : Int) := by
  have h := digB_of hd
  rw [w64_eq (n := 10 * (u : Int)) (by omega) (by omega), IntKind.wrap_u8]
  have : ((d.toNat : Int) - 48) % 256 = ((d.toNat - 48 : Nat) : Int) := by omega
  rw [this, ← wrap64 (by omega) (by omega), w64_eq (by omega) (by omega)]
  omega

theorem i_number_eq (s : ByteArray) : i_number s = some (match numV s with | some n => (n, true) | none => (0, false)) := by
  unfold i_number numV numOK
  have hd : s.data.toList.length = s.size := by simp
  simp only [jn_eq, i_in_eq, Option.bind_some]
  by_cases h1 : 1 ≤ s.size ∧ s.size ≤ 5
  · rw [inB_t (by omega)]
    simp only [Bool.not_true, cond_false]
    rw [show ixs s 0 = ixs s ((0 : Nat) : Int) from rfl, ixs_pos (by omega), byteAt_data (by omega)]
    rw [decide_eq_true (show 1 ≤ s.data.toList.length ∧ s.data.toList.length ≤ 5 by omega)]
    have hz : decide (((s.data.toList.getD 0 0).toNat : Int) = 48) = decide (s.data.toList.getD 0 0 = 48) :=
      decide_eq_decide.2 ⟨fun e => UInt8.toNat_inj.1 (by show _ = 48; omega), fun e => by rw [e]; rfl⟩
    have hs : decide ((1 : Int) < (s.size : Int)) = decide (1 < s.data.toList.length) := decide_eq_decide.2 (by omega)
    rw [hz, hs]
    have L : ck ((s.size : Int) ≤ 4611686018427387904) (loopN (fun i2 (v11 : Int) κ12 => ixs s ((i2 : Nat) : Int) (fun y13 => cond (!inB (IntKind.wrap .i64 y13) 48 57) (some ((0 : Int), false)) (ixs s ((i2 : Nat) : Int) (fun y15 => κ12 (w64 ((w64 (10 * v11)) + (IntKind.wrap .i64 (IntKind.wrap .u8 (y15 - 48))))))))) (fun (v11 : Int) => some (v11, true)) ((s.size : Int).toNat) 0 0) = cond (s.data.toList.all digB) (some ((valD s.data.toList : Int), true)) (some (0, false)) := by
      rw [ck_pos (by omega), show ((s.size : Int)).toNat = s.data.toList.length by omega]
      refine digits_loop (by omega) _ _ _ (fun i u κ hi hu => ?_)
      simp only [ixs_pos (show i < s.size by omega), byteAt_data (show i < s.size by omega)]
      have hw : IntKind.wrap .i64 ((s.data.toList.getD i 0).toNat : Int) = ((s.data.toList.getD i 0).toNat : Int) := (wrap64 (by omega) (by have := (s.data.toList.getD i 0).toNat_lt; omega)).symm
      rw [hw]
      cases hdg : digB (s.data.toList.getD i 0) with
      | false =>
        have : inB ((s.data.toList.getD i 0).toNat : Int) 48 57 = false := hdg
        rw [this]; rfl
      | true =>
        have : inB ((s.data.toList.getD i 0).toNat : Int) 48 57 = true := hdg
        rw [this]
        simp only [Bool.not_true, cond_false, cond_true]
        rw [num_step u _ hu hdg]
    rw [L]
    cases decide (s.data.toList.getD 0 0 = 48) <;> cases decide (1 < s.data.toList.length) <;> cases s.data.toList.all digB <;> rfl
  · rw [inB_f (by omega), decide_eq_false (show ¬ (1 ≤ s.data.toList.length ∧ s.data.toList.length ≤ 5) by omega)]
    rfl

theorem s_l65Num_eq (s : ByteArray) : s_l65Num s = some (match numV s with | some n => n | none => -1) := by
  unfold s_l65Num numV numOK
  have hd : s.data.toList.length = s.size := by simp
  by_cases h1 : s.size < 1
  · rw [decide_eq_true (by omega), decide_eq_false (show ¬ (1 ≤ s.data.toList.length ∧ s.data.toList.length ≤ 5) by omega)]; rfl
  · rw [decide_eq_false (by omega)]
    by_cases h2 : 5 < s.size
    · rw [decide_eq_true (by omega), decide_eq_false (show ¬ (1 ≤ s.data.toList.length ∧ s.data.toList.length ≤ 5) by omega)]; rfl
    · rw [decide_eq_false (by omega), decide_eq_true (show 1 ≤ s.data.toList.length ∧ s.data.toList.length ≤ 5 by omega), cond_false, cond_false, ck_pos (by omega), show ((s.size : Int)).toNat = s.data.toList.length by omega]
      refine (digits_loop (by omega) (some (-1)) _ _ (fun i u κ hi hu => ?_)).trans ?_
      · simp only [ixs_pos (show i < s.size by omega), byteAt_data (show i < s.size by omega)]
        cases hdg : digB (s.data.toList.getD i 0) with
        | false =>
          have : inB ((s.data.toList.getD i 0).toNat : Int) 48 57 = false := hdg
          have hn : ¬ (48 ≤ ((s.data.toList.getD i 0).toNat : Int) ∧ ((s.data.toList.getD i 0).toNat : Int) ≤ 57) := fun h => by rw [inB_t h] at this; cases this
          by_cases h3 : ((s.data.toList.getD i 0).toNat : Int) < 48
          · rw [decide_eq_true h3]; rfl
          · rw [decide_eq_false h3, decide_eq_true (by omega)]; rfl
        | true =>
          have := digB_of hdg
          rw [decide_eq_false (by omega), decide_eq_false (by omega), Int.mul_comm (u : Int) 10]
          simp only [cond_false, cond_true]
          rw [num_step u _ hu hdg]
      · cases hall : s.data.toList.all digB with
        | false => simp
        | true =>
          have hv := val_bound hall (by omega) s.data.toList.length
          rw [List.take_of_length_le (Nat.le_refl _)] at hv
          simp only [cond_true]
          rw [s_l6Dec_nat _ (by omega) _ (by omega)]
          simp only [Option.bind_some]
          rw [ba_toList, ByteArray.toList_eq, dec_num _ (fun e => by rw [e] at hd; simp at hd; omega) hall]
          cases decide (s.data.toList.getD 0 0 = 48) <;> cases decide (1 < s.data.toList.length) <;> rfl
end Go.Proofs.PanM

/-! Plain laws: a line of a script read; PanRead. -/
namespace Go.Proofs.PanM
open Go.Vs

def fieldS (m : PanEvent) (b n : Int) : PanEvent :=
  cond (decide (b = 99)) { m with Client := n } (cond (decide (b = 111)) { m with Op := n } (cond (decide (b = 112)) { m with Disk := n } (cond (decide (b = 98)) { m with Block := n } (cond (decide (b = 101)) { m with Epoch := n } (cond (decide (b = 100)) { m with Data := n } (cond (decide (b = 115)) { m with Server := n } (cond (decide (b = 119)) { m with Word := n } (cond (decide (b = 114)) { m with Range := n } { m with Other := n }))))))))
def setN (m : PanEvent) : List Int → List Int → PanEvent
  | b :: bs, n :: ns => setN (fieldS m b n) bs ns
  | _, _ => m
def ev0 (k : Int) (b : Bool) : PanEvent := { Kind := k, Server := 0, Other := 0, Client := 0, Word := 0, Keep := b, Range := 0, Op := 0, Disk := 0, Block := 0, Epoch := 0, Data := 0 }
def bytesI (s : ByteArray) : List Int := (List.range s.size).map (byteAt s)

def kindL : List lineKind := [({ word := (⟨#[98, 101, 103, 105, 110, 115]⟩ : ByteArray), kind := 1, keep := false, fields := (⟨#[99, 111, 112, 98, 101, 100]⟩ : ByteArray) } : lineKind), ({ word := (⟨#[115, 101, 110, 100, 115]⟩ : ByteArray), kind := 2, keep := false, fields := (⟨#[99, 115]⟩ : ByteArray) } : lineKind), ({ word := (⟨#[103, 105, 118, 101, 115]⟩ : ByteArray), kind := 3, keep := false, fields := (⟨#[99]⟩ : ByteArray) } : lineKind), ({ word := (⟨#[98, 114, 105, 110, 103, 115]⟩ : ByteArray), kind := 4, keep := false, fields := (⟨#[119]⟩ : ByteArray) } : lineKind), ({ word := (⟨#[100, 111, 117, 98, 108, 101, 115]⟩ : ByteArray), kind := 4, keep := true, fields := (⟨#[119]⟩ : ByteArray) } : lineKind), ({ word := (⟨#[108, 111, 115, 101, 115]⟩ : ByteArray), kind := 5, keep := false, fields := (⟨#[119]⟩ : ByteArray) } : lineKind), ({ word := (⟨#[102, 97, 108, 108, 115]⟩ : ByteArray), kind := 6, keep := false, fields := (⟨#[115]⟩ : ByteArray) } : lineKind), ({ word := (⟨#[114, 105, 115, 101, 115]⟩ : ByteArray), kind := 7, keep := false, fields := (⟨#[115]⟩ : ByteArray) } : lineKind), ({ word := (⟨#[103, 111, 101, 115]⟩ : ByteArray), kind := 8, keep := false, fields := (⟨#[115]⟩ : ByteArray) } : lineKind), ({ word := (⟨#[115, 117, 115, 112, 101, 99, 116, 115]⟩ : ByteArray), kind := 9, keep := false, fields := (⟨#[115, 114]⟩ : ByteArray) } : lineKind), ({ word := (⟨#[116, 101, 110, 100, 115]⟩ : ByteArray), kind := 10, keep := false, fields := (⟨#[115, 114]⟩ : ByteArray) } : lineKind), ({ word := (⟨#[106, 111, 105, 110, 115]⟩ : ByteArray), kind := 10, keep := true, fields := (⟨#[115, 114]⟩ : ByteArray) } : lineKind), ({ word := (⟨#[115, 101, 101, 107, 115]⟩ : ByteArray), kind := 11, keep := false, fields := (⟨#[115]⟩ : ByteArray) } : lineKind), ({ word := (⟨#[110, 101, 101, 100, 115]⟩ : ByteArray), kind := 12, keep := false, fields := (⟨#[115, 120]⟩ : ByteArray) } : lineKind)]
theorem i_lineKinds_eq : i_lineKinds = some kindL := rfl

def numsV : List ByteArray → Option (List Int)
  | [] => some []
  | s :: r => match numV s with
    | none => none
    | some n => match numsV r with
      | none => none
      | some ns => some (n :: ns)
theorem numsV_len : ∀ (W : List ByteArray) (ns : List Int), numsV W = some ns → ns.length = W.length
  | [], ns, h => by cases h; rfl
  | s :: r, ns, h => by
    unfold numsV at h
    split at h
    · cases h
    · split at h
      · cases h
      · rename_i h1 ms h2
        cases h
        simp [numsV_len r ms h2]
theorem numV_pos {s : ByteArray} {n : Int} (h : numV s = some n) : 0 ≤ n := by
  unfold numV at h
  split at h
  · cases h; omega
  · cases h
def zeroE : PanEvent := ev0 0 false
def madeX (x : lineKind) (ns : List Int) : PanEvent := setN (ev0 x.kind x.keep) (bytesI x.fields) ns

/-- The spec's numbers. -/
theorem spec_nums {R : Type} (y : List ByteArray) (hy : y.length ≤ 1048577) (r0 : Option R) (after : List Int → Option R) (body : Nat → List Int → (List Int → Option R) → Option R)
    (hb : ∀ i v κ, body i v κ = (s_l65Num (y.getD i default)).bind (fun y12 => cond (decide (y12 < 0)) r0 (ck ((v.length + 1) * 8 ≤ 140737488355328) (κ (v ++ ([y12] : List Int)))))) :
    ∀ (d i : Nat) (v : List Int), i + d = y.length → v.length ≤ i → loopN body after d i v = match numsV (y.drop i) with | none => r0 | some ns => after (v ++ ns) := by
  intro d
  induction d with
  | zero =>
    intro i v hi hv
    rw [List.drop_eq_nil_of_le (by omega)]
    show after v = after (v ++ [])
    rw [List.append_nil]
  | succ d ih =>
    intro i v hi hv
    show body i v (loopN body after d (i + 1)) = _
    rw [hb, s_l65Num_eq, drop_getD (d := default) (by omega : i < y.length), numsV]
    cases hn : numV (y.getD i default) with
    | none => rfl
    | some n =>
      simp only [Option.bind_some]
      rw [decide_eq_false (by have := numV_pos hn; omega), cond_false, ck_pos (by omega), ih (i + 1) _ (by omega) (by simp only [List.length_append, List.length_cons, List.length_nil]; omega)]
      cases numsV (y.drop (i + 1)) with
      | none => rfl
      | some ns => simp

/-- The first kind of line with a word. -/
def pick {R : Type} (w0 : ByteArray) (G : lineKind → R) : List lineKind → R → R
  | [], z => z
  | x :: r, z => cond (!(w0.toList == x.word.toList)) (pick w0 G r z) (G x)
theorem pick_find {R : Type} (w0 : ByteArray) (G : lineKind → R) (z : R) : ∀ L : List lineKind, pick w0 G L z = match L.find? (fun x => w0.toList == x.word.toList) with | some x => G x | none => z
  | [] => rfl
  | x :: r => by
    rw [pick, List.find?_cons, pick_find w0 G z r]
    cases w0.toList == x.word.toList <;> rfl
theorem made_eq (x : lineKind) (hx : x ∈ kindL) (ns : List Int) (hn : ns.length = x.fields.size) : s_l65Made x.kind x.keep ns = some (madeX x ns) := by
  simp only [kindL, List.mem_cons, List.not_mem_nil, or_false] at hx
  rcases hx with h | h | h | h | h | h | h | h | h | h | h | h | h | h <;> subst h
  · match ns, hn with
    | [_, _, _, _, _, _], _ => rfl
  all_goals first
    | (match ns, hn with
       | [_], _ => rfl)
    | (match ns, hn with
       | [_, _], _ => rfl)
theorem nums_len (x : lineKind) (hx : x ∈ kindL) : ∃ l : List Int, s_l65Nums (ev0 x.kind false) = some l ∧ l.length = x.fields.size := by
  simp only [kindL, List.mem_cons, List.not_mem_nil, or_false] at hx
  rcases hx with h | h | h | h | h | h | h | h | h | h | h | h | h | h <;> subst h <;> exact ⟨_, rfl, rfl⟩
/-- What the spec does at a kind. -/
def specG (ns : List Int) (x : lineKind) : Option (PanEvent × Bool) :=
  (s_l65Nums (ev0 x.kind false)).bind (fun y92 => cond (!decide (((ns.length : Nat) : Int) = ((y92.length : Nat) : Int))) (some (zeroE, false)) ((s_l65Made x.kind x.keep ns).bind (fun y94 => some (y94, true))))
theorem specG_eq (x : lineKind) (hx : x ∈ kindL) (ns : List Int) : specG ns x = some (if ns.length = x.fields.size then (madeX x ns, true) else (zeroE, false)) := by
  obtain ⟨l, h1, h2⟩ := nums_len x hx
  unfold specG
  rw [h1]
  simp only [Option.bind_some]
  by_cases h : ns.length = x.fields.size
  · rw [decide_eq_true (by omega), made_eq x hx ns h, if_pos h]; rfl
  · rw [decide_eq_false (by omega), if_neg h]; rfl

def lineV (s : ByteArray) : PanEvent × Bool :=
  match numsV ((cutB 32 s).drop 1) with
  | none => (zeroE, false)
  | some ns => match kindL.find? (fun x => (((cutB 32 s).getD 0 default).toList == x.word.toList)) with
    | none => (zeroE, false)
    | some x => if ns.length = x.fields.size then (madeX x ns, true) else (zeroE, false)

theorem s_l65Line_eq (s : ByteArray) (h : s.size ≤ 1048576) : s_l65Line s = some (lineV s) := by
  unfold s_l65Line
  rw [show ((32 : Int)) = (((32 : UInt8).toNat : Nat) : Int) from rfl, s_l65Cut_eq 32 s h]
  simp only [Option.bind_some, jn_eq]
  have hl := cutB_len 32 s
  have hne := cutB_ne 32 s
  unfold lineV
  generalize cutB 32 s = y at *
  have hix : ∀ {R : Type} (κ : ByteArray → Option R), ix y 0 κ = κ (y.getD 0 default) := fun κ => ix_nat (i := 0) (by omega)
  refine (spec_nums y (by omega) (some (zeroE, false)) _ _ (fun i v κ => rfl) (y.length - 1) 1 [] (by omega) (by simp)).trans ?_
  cases numsV (y.drop 1) with
  | none => rfl
  | some ns =>
    simp only [List.nil_append]
    have key : ∀ (body : Int → (Int → Option (PanEvent × Bool)) → Option (PanEvent × Bool)),
        (∀ v78 κ79, body v78 κ79 = cond (decide (v78 ≤ 12)) (loopN (fun i80 (v88 : Unit) κ89 => cond (decide (((i80 : Nat) : Int) = 1)) (cond (!decide (v78 = 4)) (cond (!decide (v78 = 10)) (κ89 ()) ((s_l65Word v78 (decide (((i80 : Nat) : Int) = 1))).bind (fun y96 => cond (!((y.getD 0 default).toList == y96.toList)) (κ89 ()) ((s_l65Nums (ev0 v78 false)).bind (fun y92 => cond (!decide (((ns.length : Nat) : Int) = ((y92.length : Nat) : Int))) (some (zeroE, false)) ((s_l65Made v78 (decide (((i80 : Nat) : Int) = 1)) ns).bind (fun y94 => some (y94, true)))))))) ((s_l65Word v78 (decide (((i80 : Nat) : Int) = 1))).bind (fun y97 => cond (!((y.getD 0 default).toList == y97.toList)) (κ89 ()) ((s_l65Nums (ev0 v78 false)).bind (fun y92 => cond (!decide (((ns.length : Nat) : Int) = ((y92.length : Nat) : Int))) (some (zeroE, false)) ((s_l65Made v78 (decide (((i80 : Nat) : Int) = 1)) ns).bind (fun y94 => some (y94, true)))))))) ((s_l65Word v78 (decide (((i80 : Nat) : Int) = 1))).bind (fun y98 => cond (!((y.getD 0 default).toList == y98.toList)) (κ89 ()) ((s_l65Nums (ev0 v78 false)).bind (fun y92 => cond (!decide (((ns.length : Nat) : Int) = ((y92.length : Nat) : Int))) (some (zeroE, false)) ((s_l65Made v78 (decide (((i80 : Nat) : Int) = 1)) ns).bind (fun y94 => some (y94, true)))))))) (fun (v88 : Unit) => κ79 (w64 (v78 + 1))) 2 0 ()) (some (zeroE, false))) →
        loopF body 14 1 = pick (y.getD 0 default) (specG ns) kindL (some (zeroE, false)) := by
      intro body hb
      generalize y.getD 0 default = w0 at *
      have st : ∀ k f, loopF body (f + 1) k = body k (loopF body f) := fun _ _ => rfl
      show loopF body 14 1 = cond (!(w0.toList == _)) _ _
      rw [st, hb]
      refine congrFun (congrArg (cond (!(w0.toList == _))) ?_) _
      show loopF body 13 2 = cond (!(w0.toList == _)) _ _
      rw [st, hb]
      refine congrFun (congrArg (cond (!(w0.toList == _))) ?_) _
      show loopF body 12 3 = cond (!(w0.toList == _)) _ _
      rw [st, hb]
      refine congrFun (congrArg (cond (!(w0.toList == _))) ?_) _
      show loopF body 11 4 = cond (!(w0.toList == _)) (cond (!(w0.toList == _)) _ _) _
      rw [st, hb]
      refine congrFun (congrArg (cond (!(w0.toList == _))) ?_) _
      refine congrFun (congrArg (cond (!(w0.toList == _))) ?_) _
      show loopF body 10 5 = cond (!(w0.toList == _)) _ _
      rw [st, hb]
      refine congrFun (congrArg (cond (!(w0.toList == _))) ?_) _
      show loopF body 9 6 = cond (!(w0.toList == _)) _ _
      rw [st, hb]
      refine congrFun (congrArg (cond (!(w0.toList == _))) ?_) _
      show loopF body 8 7 = cond (!(w0.toList == _)) _ _
      rw [st, hb]
      refine congrFun (congrArg (cond (!(w0.toList == _))) ?_) _
      show loopF body 7 8 = cond (!(w0.toList == _)) _ _
      rw [st, hb]
      refine congrFun (congrArg (cond (!(w0.toList == _))) ?_) _
      show loopF body 6 9 = cond (!(w0.toList == _)) _ _
      rw [st, hb]
      refine congrFun (congrArg (cond (!(w0.toList == _))) ?_) _
      show loopF body 5 10 = cond (!(w0.toList == _)) (cond (!(w0.toList == _)) _ _) _
      rw [st, hb]
      refine congrFun (congrArg (cond (!(w0.toList == _))) ?_) _
      refine congrFun (congrArg (cond (!(w0.toList == _))) ?_) _
      show loopF body 4 11 = cond (!(w0.toList == _)) _ _
      rw [st, hb]
      refine congrFun (congrArg (cond (!(w0.toList == _))) ?_) _
      show loopF body 3 12 = cond (!(w0.toList == _)) _ _
      rw [st, hb]
      refine congrFun (congrArg (cond (!(w0.toList == _))) ?_) _
      show loopF body 2 13 = _
      rw [st, hb]
      rfl
    simp only [hix]
    refine (key _ (fun v78 κ79 => rfl)).trans ?_
    rw [pick_find]
    cases hf : kindL.find? (fun x => ((y.getD 0 default).toList == x.word.toList)) with
    | none => rfl
    | some x =>
      simp only
      rw [specG_eq x (List.mem_of_find?_eq_some hf)]
end Go.Proofs.PanM

/-! Plain laws: PanRead. -/
namespace Go.Proofs.PanM
open Go.Vs

theorem loop_find {α R : Type} [Inhabited α] (L : List α) (p : α → Bool) (G : α → Option R) (after : Unit → Option R) (body : Nat → Unit → (Unit → Option R) → Option R)
    (hb : ∀ i κ, i < L.length → body i () κ = cond (p (L.getD i default)) (G (L.getD i default)) (κ ())) :
    loopN body after L.length 0 () = match L.find? p with | some x => G x | none => after () := by
  have key : ∀ (d i : Nat), i + d = L.length → loopN body after d i () = match (L.drop i).find? p with | some x => G x | none => after () := by
    intro d
    induction d with
    | zero => intro i hi; rw [List.drop_eq_nil_of_le (by omega)]; rfl
    | succ d ih =>
      intro i hi
      show body i () (loopN body after d (i + 1)) = _
      rw [hb i _ (by omega), ih (i + 1) (by omega), drop_getD (d := default) (by omega : i < L.length), List.find?_cons]
      cases p (L.getD i default) <;> rfl
  exact key L.length 0 (by omega)

theorem find_and {α β : Type} [DecidableEq β] (wd : α → β) (w : β) (q : α → Bool) : ∀ L : List α, (L.map wd).Nodup →
    L.find? (fun x => decide (wd x = w) && q x) = (L.find? (fun x => decide (wd x = w))).filter q
  | [], _ => rfl
  | x :: r, h => by
    rw [List.map_cons, List.nodup_cons] at h
    rw [List.find?_cons, List.find?_cons]
    by_cases hx : wd x = w
    · rw [decide_eq_true hx, Bool.true_and]
      cases hq : q x with
      | true => simp [Option.filter, hq]
      | false =>
        have : r.find? (fun y => decide (wd y = w) && q y) = none := by
          rw [List.find?_eq_none]
          intro y hy he
          rw [Bool.and_eq_true] at he
          exact h.1 (List.mem_map.2 ⟨y, hy, (of_decide_eq_true he.1).trans hx.symm⟩)
        simp only [this, Option.filter, hq]; rfl
    · rw [decide_eq_false hx, Bool.false_and]
      exact find_and wd w q r h.2

theorem kinds_nodup : (kindL.map fun x => x.word.data.toList).Nodup := by decide
theorem kinds_fields : ∀ x ∈ kindL, x.fields.size ≤ 6 := by
  intro x hx
  simp only [kindL, List.mem_cons, List.not_mem_nil, or_false] at hx
  rcases hx with h | h | h | h | h | h | h | h | h | h | h | h | h | h <;> subst h <;> decide

/-- The numbers of a line, into an event. -/
theorem impl_nums (y : List ByteArray) (fs : ByteArray) (hf : fs.size = y.length) (body : Nat → PanEvent → (PanEvent → Option (PanEvent × Bool)) → Option (PanEvent × Bool))
    (hb : ∀ i v κ, i < y.length → body i v κ = match numV (y.getD i default) with | none => some (zeroE, false) | some n => κ (fieldS v (byteAt fs i) n)) :
    ∀ (d i : Nat) (v : PanEvent), i + d = y.length → loopN body (fun v => some (v, true)) d i v = some (match numsV (y.drop i) with | none => (zeroE, false) | some ns => (setN v ((bytesI fs).drop i) ns, true)) := by
  have hlen : (bytesI fs).length = fs.size := by simp [bytesI]
  intro d
  induction d with
  | zero =>
    intro i v hi
    rw [List.drop_eq_nil_of_le (by omega), List.drop_eq_nil_of_le (by omega)]
    rfl
  | succ d ih =>
    intro i v hi
    show body i v (loopN body _ d (i + 1)) = _
    rw [hb i v _ (by omega), drop_getD (d := default) (by omega : i < y.length), numsV]
    cases hn : numV (y.getD i default) with
    | none => rfl
    | some n =>
      have hdrop : (bytesI fs).drop i = byteAt fs i :: (bytesI fs).drop (i + 1) := by
        rw [List.drop_eq_getElem_cons (by omega)]
        congr 1
        simp [bytesI]
      simp only
      rw [ih (i + 1) _ (by omega), hdrop]
      cases numsV (y.drop (i + 1)) with
      | none => rfl
      | some ns => rfl

theorem i_eventOf_eq (s : ByteArray) (h : s.size ≤ 1048576) : i_eventOf s = some (lineV s) := by
  unfold i_eventOf
  rw [show (⟨#[32]⟩ : ByteArray) = ⟨#[(32 : UInt8)]⟩ from rfl, g_split_eq 32 s h]
  simp only [Option.bind_some, i_lineKinds_eq, lt_eq, jn_eq]
  have hl := cutB_len 32 s
  have hne := cutB_ne 32 s
  unfold lineV
  generalize cutB 32 s = y at *
  have hix : ∀ {R : Type} (κ : ByteArray → Option R), ix y 0 κ = κ (y.getD 0 default) := fun κ => ix_nat (i := 0) (by omega)
  simp only [hix]
  have hd1 : (y.drop 1).length = y.length - 1 := by simp
  refine (loop_find kindL (fun x => (x.word.toList == (y.getD 0 default).toList) && decide (x.fields.size = (y.drop 1).length)) (fun x => some (match numsV (y.drop 1) with | none => (zeroE, false) | some ns => (madeX x ns, true))) _ _ (fun i κ hi => ?_)).trans ?_
  · have hmem : kindL.getD i default ∈ kindL := by
      rw [List.getD_eq_getElem?_getD, List.getElem?_eq_getElem (by omega)]
      exact List.getElem_mem _
    have hf6 := kinds_fields _ hmem
    generalize kindL.getD i default = x at *
    cases x.word.toList == (y.getD 0 default).toList with
    | false => rfl
    | true =>
      rw [w64_eq (by omega) (by omega)]
      by_cases hfs : x.fields.size = (y.drop 1).length
      · rw [decide_eq_true hfs, decide_eq_true (by omega), ck_pos (by omega)]
        simp only [Bool.not_true, cond_false, Bool.true_and, cond_true]
        rw [show y.length - 1 = (y.drop 1).length by omega]
        refine (impl_nums (y.drop 1) x.fields hfs _ (fun i v κ hi => ?_) _ 0 _ (by omega)).trans ?_
        · rw [ix_nat hi, i_number_eq]
          simp only [Option.bind_some]
          cases numV ((y.drop 1).getD i default) with
          | none => rfl
          | some n =>
            simp only [Bool.not_true, cond_false]
            rw [ixs_pos (by omega)]
            unfold fieldS
            generalize byteAt x.fields i = b
            cases decide (b = 99) <;> cases decide (b = 111) <;> cases decide (b = 112) <;> cases decide (b = 98) <;> cases decide (b = 101) <;> cases decide (b = 100) <;> cases decide (b = 115) <;> cases decide (b = 119) <;> cases decide (b = 114) <;> rfl
        · rfl
      · rw [decide_eq_false hfs, decide_eq_false (by omega)]; rfl
  · have e1 : (fun x : lineKind => (x.word.toList == (y.getD 0 default).toList) && decide (x.fields.size = (y.drop 1).length)) = fun x => decide (x.word.data.toList = (y.getD 0 default).data.toList) && decide (x.fields.size = (y.drop 1).length) := by
      funext x
      have : (x.word.data.toList == (y.getD 0 default).data.toList) = decide (x.word.data.toList = (y.getD 0 default).data.toList) := by
        rw [Bool.eq_iff_iff, beq_iff_eq, decide_eq_true_iff]
      rw [ByteArray.toList_eq, ByteArray.toList_eq, this]
    have e2 : (fun x : lineKind => ((y.getD 0 default).toList == x.word.toList)) = fun x => decide (x.word.data.toList = (y.getD 0 default).data.toList) := by
      funext x
      rw [ByteArray.toList_eq, ByteArray.toList_eq]
      rw [Bool.eq_iff_iff, beq_iff_eq, decide_eq_true_iff]
      exact ⟨Eq.symm, Eq.symm⟩
    rw [e1, e2, find_and (fun x : lineKind => x.word.data.toList) _ _ _ kinds_nodup]
    cases hf : kindL.find? (fun x => decide (x.word.data.toList = (y.getD 0 default).data.toList)) with
    | none => cases numsV (y.drop 1) <;> rfl
    | some x =>
      cases hn : numsV (y.drop 1) with
      | none =>
        generalize Option.filter _ (some x) = q
        cases q <;> rfl
      | some ns =>
        have := numsV_len _ _ hn
        by_cases hfs : x.fields.size = (y.drop 1).length
        · simp [Option.filter, this, hfs]
        · have hne : ¬ ns.length = x.fields.size := by omega
          simp only [hne, if_false]
          simp only [Option.filter, hfs, decide_false]
          rfl

/-! ### PanRead -/
theorem empty_eq (s : ByteArray) : (s.toList == (⟨#[]⟩ : ByteArray).toList) = decide (s.size = 0) := by
  rw [ByteArray.toList_eq, ByteArray.toList_eq, Bool.eq_iff_iff, beq_iff_eq, decide_eq_true_iff]
  exact ⟨fun h => congrArg List.length h, fun h => List.eq_nil_of_length_eq_zero h⟩
theorem i_copied_eq (L : List PanEvent) (h : L.length ≤ 1048577) : i_copied_PanEvent L = some L := by
  unfold i_copied_PanEvent
  cases L with
  | nil => rfl
  | cons a t =>
    rw [decide_eq_false (by simp only [List.length_cons]; omega), cond_false, ck_pos (by omega)]
    unfold cpy
    simp
theorem two_loops {α R : Type} {P : R → Prop} (Z : Nat → α → Prop) (b1 b2 : Nat → α → (α → Option R) → Option R) (a1 a2 : α → Option R) (n : Nat)
    (hb : ∀ i v κ1 κ2, i < n → Z i v → (∀ v', Z (i + 1) v' → ∃ r, κ1 v' = some r ∧ κ2 v' = some r ∧ P r) → ∃ r, b1 i v κ1 = some r ∧ b2 i v κ2 = some r ∧ P r)
    (ha : ∀ v, Z n v → ∃ r, a1 v = some r ∧ a2 v = some r ∧ P r) :
    ∀ (d i : Nat) (v : α), i + d = n → Z i v → ∃ r, loopN b1 a1 d i v = some r ∧ loopN b2 a2 d i v = some r ∧ P r
  | 0, i, v, hi, hv => by
    obtain rfl : i = n := by omega
    exact ha v hv
  | d + 1, i, v, hi, hv => hb i v _ _ (by omega) hv (fun v' hv' => two_loops Z b1 b2 a1 a2 n hb ha d (i + 1) v' (by omega) hv')
theorem panRead_eq (s : ByteArray) : ∃ r : List PanEvent × Int, s_PanRead s = some r ∧ i_PanRead s = some r ∧ r.1.length ≤ 1048577 := by
  unfold s_PanRead i_PanRead
  by_cases h : s.size ≤ 40000
  · rw [decide_eq_false (by omega), show ((10 : Int)) = (((10 : UInt8).toNat : Nat) : Int) from rfl, s_l65Cut_eq 10 s (by omega), show (⟨#[10]⟩ : ByteArray) = ⟨#[(10 : UInt8)]⟩ from rfl, g_split_eq 10 s (by omega)]
    simp only [cond_false, Option.bind_some]
    have hl := cutB_len 10 s
    generalize cutB 10 s = y at *
    refine two_loops (P := fun r : List PanEvent × Int => r.1.length ≤ 1048577) (fun i (v : List PanEvent) => v.length ≤ i) _ _ _ _ y.length (fun i v κ1 κ2 hi hv hk => ?_) (fun v hv => ?_) y.length 0 [] (by omega) (by simp)
    · have hsz : (y.getD i default).size ≤ s.size := hl.2 _ (by
        rw [List.getD_eq_getElem?_getD, List.getElem?_eq_getElem (by omega)]
        exact List.getElem_mem _)
      generalize y.getD i default = x at *
      rw [s_l65Line_eq x (by omega), i_eventOf_eq x (by omega)]
      simp only [Option.bind_some]
      cases x.toList == (⟨#[]⟩ : ByteArray).toList with
      | true => exact hk v (by omega)
      | false =>
        simp only [cond_false]
        cases (lineV x).2 with
        | false => exact ⟨_, rfl, rfl, by simp⟩
        | true =>
          simp only [Bool.not_true, cond_false]
          rw [ck_pos (by omega), ck_pos (by omega)]
          exact hk _ (by simp only [List.length_append, List.length_cons, List.length_nil]; omega)
    · rw [i_copied_eq v (by omega)]
      exact ⟨_, rfl, rfl, by simp only; omega⟩
  · rw [decide_eq_true (by omega)]
    exact ⟨_, rfl, rfl, by simp⟩

/-! ### The law -/
theorem l_eqPanEvent_eq (a : PanEvent) : l_eqPanEvent a a = some true := by simp [l_eqPanEvent]
theorem l_eqPanEventS_eq (L : List PanEvent) : l_eqPanEventS L L = some true := by
  unfold l_eqPanEventS
  simp only [decide_true, Bool.not_true, cond_false]
  rw [loopN_ok _ _ (fun i κ _ hi => by
    simp only [lt_eq]
    rw [ix_nat (by omega)]
    simp [l_eqPanEvent_eq])]
theorem getD_set_ne {α : Type} [Inhabited α] {L : List α} {x : α} {i j : Nat} (h : j ≠ i) : (L.set i x).getD j default = L.getD j default := by
  rw [List.getD_eq_getElem?_getD, List.getD_eq_getElem?_getD, List.getElem?_set_ne (Ne.symm h)]
theorem lt_upd {α σ R : Type} [Inhabited α] {L : List α} {n i : Nat} {x : α} {f : List α → Option R} {κ : σ → Option R} {Q : σ → Prop} {L0 : List α} (hi : i < n) (h : (L.set i x).length = n) (h0 : ∀ j, j ≠ i → (L.set i x).getD j default = L0.getD j default)
    (H : ∀ M : List α, M.length = n → M.getD i default = x → (∀ j, j ≠ i → M.getD j default = L0.getD j default) → ∃ a, Q a ∧ f M = κ a) : ∃ a, Q a ∧ lt (L.set i x) f = κ a :=
  H _ h (by rw [getD_set (by rw [List.length_set] at h; omega), if_pos rfl]) h0
/-- An event as it is marked. -/
def evM (k : Int) : PanEvent := { Kind := k, Server := wn 1 k, Other := wn 2 k, Client := wn 3 k, Word := wn 4 k, Keep := decide (Int.tmod (wn 5 k) 3 = 0), Range := wn 6 k, Op := wn 7 k, Disk := wn 8 k, Block := wn 9 k, Epoch := wn 10 k, Data := wn 11 k }
theorem l_mark_ex (L : List PanEvent) (h : L.length ≤ 1048577) : ∃ r, l_markPanEventS L 1 = some r ∧ r.1 = 1 + 12 * (L.length : Int) ∧ r.2.length = L.length ∧ ∀ j, j < L.length → r.2.getD j default = evM (1 + 12 * (j : Int)) := by
  unfold l_markPanEventS
  refine loopF_ex L.length (fun i (v : Int × Int × List PanEvent) => v.1 = 1 + 12 * (i : Int) ∧ v.2.1 = i ∧ v.2.2.length = L.length ∧ ∀ j, j < i → v.2.2.getD j default = evM (1 + 12 * (j : Int))) (fun i v κ hi ⟨h1, h2, h3, h4⟩ => ?_) (fun v κ ⟨h1, h2, h3, h4⟩ => ?_) L.length 0 _ _ (by omega) (by omega) ⟨rfl, rfl, rfl, fun j hj => absurd hj (Nat.not_lt_zero _)⟩
  · obtain ⟨k, j, l⟩ := v
    simp only at h1 h2 h3 h4 ⊢
    subst h2
    rw [decide_eq_true (by omega), cond_true, ix_nat (by omega)]
    simp only [Int.toNat_natCast]
    have h9 : ∀ j, j ≠ i → l.getD j default = l.getD j default := fun _ _ => rfl
    refine lt_upd (n := L.length) (i := i) (by omega) (by simpa using h3) (fun j hj => (getD_set_ne hj).trans (h9 j hj)) fun r hr hg ho => ?_
    rw [ix_nat (by omega)]; simp only [hg]; clear h9 h3; have h3 := hr; have h9 := ho; clear hr ho
    refine lt_upd (n := L.length) (i := i) (by omega) (by simpa using h3) (fun j hj => (getD_set_ne hj).trans (h9 j hj)) fun r hr hg ho => ?_
    rw [ix_nat (by omega)]; simp only [hg]; clear h9 h3; have h3 := hr; have h9 := ho; clear hr ho
    refine lt_upd (n := L.length) (i := i) (by omega) (by simpa using h3) (fun j hj => (getD_set_ne hj).trans (h9 j hj)) fun r hr hg ho => ?_
    rw [ix_nat (by omega)]; simp only [hg]; clear h9 h3; have h3 := hr; have h9 := ho; clear hr ho
    refine lt_upd (n := L.length) (i := i) (by omega) (by simpa using h3) (fun j hj => (getD_set_ne hj).trans (h9 j hj)) fun r hr hg ho => ?_
    rw [ix_nat (by omega)]; simp only [hg]; clear h9 h3; have h3 := hr; have h9 := ho; clear hr ho
    refine lt_upd (n := L.length) (i := i) (by omega) (by simpa using h3) (fun j hj => (getD_set_ne hj).trans (h9 j hj)) fun r hr hg ho => ?_
    rw [ix_nat (by omega)]; simp only [hg]; clear h9 h3; have h3 := hr; have h9 := ho; clear hr ho
    refine lt_upd (n := L.length) (i := i) (by omega) (by simpa using h3) (fun j hj => (getD_set_ne hj).trans (h9 j hj)) fun r hr hg ho => ?_
    rw [ix_nat (by omega)]; simp only [hg]; clear h9 h3; have h3 := hr; have h9 := ho; clear hr ho
    refine lt_upd (n := L.length) (i := i) (by omega) (by simpa using h3) (fun j hj => (getD_set_ne hj).trans (h9 j hj)) fun r hr hg ho => ?_
    rw [ix_nat (by omega)]; simp only [hg]; clear h9 h3; have h3 := hr; have h9 := ho; clear hr ho
    refine lt_upd (n := L.length) (i := i) (by omega) (by simpa using h3) (fun j hj => (getD_set_ne hj).trans (h9 j hj)) fun r hr hg ho => ?_
    rw [ix_nat (by omega)]; simp only [hg]; clear h9 h3; have h3 := hr; have h9 := ho; clear hr ho
    refine lt_upd (n := L.length) (i := i) (by omega) (by simpa using h3) (fun j hj => (getD_set_ne hj).trans (h9 j hj)) fun r hr hg ho => ?_
    rw [ix_nat (by omega)]; simp only [hg]; clear h9 h3; have h3 := hr; have h9 := ho; clear hr ho
    refine lt_upd (n := L.length) (i := i) (by omega) (by simpa using h3) (fun j hj => (getD_set_ne hj).trans (h9 j hj)) fun r hr hg ho => ?_
    rw [ix_nat (by omega)]; simp only [hg]; clear h9 h3; have h3 := hr; have h9 := ho; clear hr ho
    refine lt_upd (n := L.length) (i := i) (by omega) (by simpa using h3) (fun j hj => (getD_set_ne hj).trans (h9 j hj)) fun r hr hg ho => ?_
    rw [ix_nat (by omega)]; simp only [hg]; clear h9 h3; have h3 := hr; have h9 := ho; clear hr ho
    refine lt_upd (n := L.length) (i := i) (by omega) (by simpa using h3) (fun j hj => (getD_set_ne hj).trans (h9 j hj)) fun r hr hg ho => ?_
    refine ⟨_, ⟨?_, ?_, hr, fun j hj => ?_⟩, rfl⟩
    · show wn 12 k = _
      rw [wn_eq _ _ (by omega) (by omega)]; omega
    · show wn 1 (i : Int) = _
      rw [wn_eq _ _ (by omega) (by omega)]; omega
    · by_cases e : j = i
      · subst e
        show r.getD j default = _
        rw [hg, ← h1]; rfl
      · show r.getD j default = _
        rw [ho j e]
        exact h4 j (by omega)
  · obtain ⟨k, j, l⟩ := v
    simp only at h1 h2 h3 h4 ⊢
    rw [decide_eq_false (by omega)]
    exact ⟨_, rfl, h1, h3, h4⟩
theorem l_held_eq (M : List PanEvent) (h : M.length ≤ 1048577) (hm : ∀ j, j < M.length → M.getD j default = evM (1 + 12 * (j : Int))) : l_heldPanEventS M 1 = some (1 + 12 * (M.length : Int)) := by
  unfold l_heldPanEventS
  refine loopN_eq (fun i (v : Int) => v = 1 + 12 * (i : Int)) rfl (fun i v κ _ hi hv => ⟨wn 12 v, ?_, ?_⟩) (fun v hv => by rw [hv]; simp)
  · rw [wn_eq _ _ (by omega) (by omega)]; omega
  · rw [hm i (by omega), ← hv]
    have e : ∀ (n : Nat), decide (wn n v = wn n v) = true := fun n => decide_eq_true rfl
    show cond (!decide (wn 0 v = wn 0 v)) _ (cond (!decide (wn 1 v = wn 1 v)) _ (cond (!decide (wn 2 v = wn 2 v)) _ (cond (!decide (wn 3 v = wn 3 v)) _ (cond (!decide (wn 4 v = wn 4 v)) _ (cond (!((decide (Int.tmod (wn 5 v) 3 = 0)) == (decide (Int.tmod (wn 5 v) 3 = 0)))) _ (cond (!decide (wn 6 v = wn 6 v)) _ (cond (!decide (wn 7 v = wn 7 v)) _ (cond (!decide (wn 8 v = wn 8 v)) _ (cond (!decide (wn 9 v = wn 9 v)) _ (cond (!decide (wn 10 v = wn 10 v)) _ (cond (!decide (wn 11 v = wn 11 v)) _ (κ (wn 12 v))))))))))))) = _
    simp only [decide_true, beq_self_eq_true, Bool.not_true, cond_false]

/-- THE PLAIN LAW OF FnExactPanRead. -/
theorem law_PanRead (s : ByteArray) : l_FnExactPanRead s = some true := by
  unfold l_FnExactPanRead
  by_cases h : (1048576 : Int) < (s.size : Int)
  · rw [decide_eq_true h]; rfl
  · rw [decide_eq_false h]
    obtain ⟨r, h1, h2, h3⟩ := panRead_eq s
    obtain ⟨m, m1, m2, m3, m4⟩ := l_mark_ex r.1 h3
    have hh := l_held_eq m.2 (by omega) (fun j hj => m4 j (by omega))
    rw [m3, ← m2] at hh
    simp only [cond_false, h1, h2, Option.bind_some, l_eqPanEventS_eq, m1, hh, Bool.not_true, decide_true]
    rw [decide_eq_false (by omega)]
    rfl
end Go.Proofs.PanM

/-! Part U: what a row's arguments read as; a law's row out of its contract. -/
namespace Go.Vs
open Go.ChangeShapes Go.WideShapes Go.ChangeAt Go.RowKit Go.Deep

/-- All memory stays as it is. -/
def gAll (w : World) : Gh := { Fz := fun b => b < w.heap.size, Tz := fun _ => False, om := fun _ => none, rv := fun _ => undef, df := fun _ => False }

/-- What reads as of this type is a value of a Lean type. -/
def Rd (P : Program) (t : TypeId) {α : Type} (c : α → Nat → U) (sz : Nat) (ok : α → Prop) : Prop :=
  ∀ {H : Type} {enc : TypeId × Value → H} {w : World} {fuel : Nat} {cs : List Value} {x : DataW H × List MemPlace}, DataW.trod enc P w 0 (fun _ => true) true fuel t cs = some x → (∀ n ∈ DataW.weights P t x.1, n ≤ reachBytes) →
    ∃ a : α, ok a ∧ cs.length = sz ∧ ∀ j, j < sz → ∃ v, cs[j]? = some v ∧ RU w (gAll w) (c a j) v

section
variable {P : Program} [Glob P]
def okI (n : Int) : Prop := -9223372036854775808 ≤ n ∧ n < 9223372036854775808
def okT {α : Type} (_ : α) : Prop := True
def okS (s : ByteArray) : Prop := s.size ≤ reachBytes
def okL {α : Type} (by_ : Nat) (ok : α → Prop) (l : List α) : Prop := l.length * by_ ≤ reachBytes ∧ ∀ x ∈ l, ok x

theorem okL_len {α : Type} {b : Nat} {ok : α → Prop} {l : List α} (hb : 0 < b) (h : okL b ok l) : l.length ≤ 140737488355328 := by
  have h1 := h.1
  have h2 : l.length * 1 ≤ l.length * b := Nat.mul_le_mul_left _ hb
  have h3 : reachBytes ≤ 140737488355328 := by decide
  omega
theorem rd_int {t : TypeId} (hu : P.underlying t = some (.int .i64)) : Rd P t cInt 1 okI := by
  intro H enc w fuel cs x h hw0
  obtain ⟨n, rfl, _, hw⟩ := DataW.trod_int hu h
  refine ⟨n, ?_, rfl, fun j hj => ?_⟩
  rotate_left
  · obtain rfl : j = 0 := by omega
    exact ⟨_, rfl, rfl⟩
  simp [Lit.wf, IntKind.min, IntKind.max, IntKind.signed, IntKind.bits] at hw
  unfold okI; omega
theorem rd_bool {t : TypeId} (hu : P.underlying t = some .bool) : Rd P t cBool 1 okT := by
  intro H enc w fuel cs x h hw0
  obtain ⟨b, rfl, _⟩ := DataW.trod_bool hu h
  refine ⟨b, trivial, rfl, fun j hj => ?_⟩
  obtain rfl : j = 0 := by omega
  exact ⟨_, rfl, rfl⟩
theorem rd_str {t : TypeId} (hu : P.underlying t = some .string) : Rd P t cStr 1 okS := by
  intro H enc w fuel cs x h hw0
  obtain ⟨s, rfl, rfl, hs⟩ := DataW.trod_string hu h
  refine ⟨s, by have := hw0 s.data.toList.length (by simp [DataW.weights]); simpa [okS] using this, rfl, fun j hj => ?_⟩
  obtain rfl : j = 0 := by omega
  exact ⟨_, rfl, rfl⟩

theorem cells?_get {w : World} {base n : Nat} {a : Addr} {cs : List Value} (h : w.cells? base a n = some cs) : cs.length = n ∧ ∀ j v, cs[j]? = some v → w.cell? (a.add j) = some v := by
  unfold World.cells? at h
  split at h
  case isFalse => cases h
  case isTrue =>
    refine ⟨by simpa using mapM_some_length h, fun j v hv => ?_⟩
    have hj : j < cs.length := (List.getElem?_eq_some_iff.1 hv).1
    have hl : cs.length = n := by simpa using mapM_some_length h
    have h2 := mapM_some_get h j j (by rw [List.getElem?_range (by omega)])
    rw [h2, hv]
theorem cell_block {w : World} {a : Addr} {v : Value} (h : w.cell? a = some v) : a.block < w.heap.size ∧ a.spot = none := by
  unfold World.cell? at h
  split at h
  case h_2 => cases h
  case h_1 c _ _ he =>
    split at h
    · cases h
    · rename_i hs
      refine ⟨?_, by simpa using hs⟩
      rcases Nat.lt_or_ge a.block w.heap.size with h1 | h1
      · exact h1
      · rw [Array.getElem?_eq_none h1] at he; cases he

theorem rd_slice {t e : TypeId} {α : Type} [Inhabited α] {c : α → Nat → U} {sz : Nat} {ok : α → Prop} (hu : P.underlying t = some (.slice e)) (hz : P.cellsOf e = sz) (h0 : 0 < sz) {by_ : Nat} (hb : P.bytesOf e = by_) (hb0 : 0 < by_) (he : Rd P e c sz ok) :
    Rd P t (fun L _ => ul c sz false L) 1 (okL by_ ok) := by
  intro H enc w fuel cs x h hw0
  subst hz; subst hb
  rcases open_slice hu h with ⟨rfl, _⟩ | ⟨a, len, cap, m, n, D, Pl, rfl, _, hl, hm, hmm, rfl, hel⟩
  · refine ⟨[], ⟨by simp, fun x hx => absurd hx List.not_mem_nil⟩, rfl, fun j hj => ?_⟩
    obtain rfl : j = 0 := by omega
    refine ⟨_, rfl, ?_⟩
    exact ⟨none, 0, rfl, Nat.le_refl _, Nat.zero_le _, fun hp => absurd hp (Nat.lt_irrefl 0)⟩
  · simp only [if_true] at hmm
    subst hmm
    have hw1 : len * P.bytesOf e ≤ reachBytes := by
      have h1 := hw0 ((len + (m - len)) * P.bytesOf e) (by simp [DataW.weights, hu])
      refine Nat.le_trans (Nat.mul_le_mul_right _ ?_) h1
      omega
    have hw2 : ∀ i, i < len → ∀ k ∈ DataW.weights P e (D i), k ≤ reachBytes := by
      intro i hi k hk
      refine hw0 k ?_
      simp only [DataW.weights, hu]
      refine List.mem_cons_of_mem _ (List.mem_append_left _ ?_)
      have hmem : D i ∈ (List.range len).map D := List.mem_map.2 ⟨i, List.mem_range.2 hi, rfl⟩
      generalize (List.range len).map D = l at hmem
      induction l with
      | nil => cases hmem
      | cons d r ih =>
        simp only [DataW.weightsAll, List.mem_append]
        rcases List.mem_cons.1 hmem with h1 | h1
        · subst h1; exact .inl hk
        · exact .inr (ih h1)
    have hex : ∀ i, i < len → ∃ y : α, ok y ∧ ∀ j, j < P.cellsOf e → ∃ v, w.cell? (a.add (i * P.cellsOf e + j)) = some v ∧ RU w (gAll w) (c y j) v := by
      intro i hi
      obtain ⟨cs', h1, h2⟩ := hel i (by omega)
      obtain ⟨y, hy, h3, h4⟩ := he h2 (hw2 i hi)
      refine ⟨y, hy, fun j hj => ?_⟩
      obtain ⟨v, h5, h6⟩ := h4 j hj
      exact ⟨v, by rw [← add_add]; exact (cells?_get h1).2 j v h5, h6⟩
    obtain ⟨f, hf⟩ := choose_lt hex
    refine ⟨(List.range len).map f, ⟨by simpa using hw1, fun y hy => ?_⟩, rfl, fun j hj => ?_⟩
    rotate_left
    obtain rfl : j = 0 := by omega
    refine ⟨_, rfl, ?_⟩
    rotate_left
    · obtain ⟨i, hi, rfl⟩ := List.mem_map.1 hy
      exact (hf i (List.mem_range.1 hi)).1
    · have hb : len ≤ bound := by
        have h1 : len * 1 ≤ len * P.bytesOf e := Nat.mul_le_mul_left _ hb0
        have h2 : reachBytes ≤ bound := by decide
        omega
      have hlen : ((List.range len).map f).length = len := by simp
      refine ⟨some a, m, by rw [hlen], by rw [hlen]; exact hl, by rw [hlen]; exact hb, fun hp => ?_⟩
      rw [hlen] at hp
      obtain ⟨b, o, sp⟩ := a
      obtain ⟨v, h1, _⟩ := (hf 0 (by omega)).2 0 h0
      have hblk := cell_block h1
      have hadd : (⟨b, o, sp⟩ : Addr).add (0 * P.cellsOf e + 0) = ⟨b, o, sp⟩ := by rw [Nat.zero_mul]; rfl
      rw [hadd] at hblk
      have hsp : sp = none := hblk.2
      subst hsp
      have hblt : b < w.heap.size := hblk.1
      refine ⟨b, o, rfl, .inl hblt, fun i hi j hj => ?_⟩
      rw [hlen] at hi
      obtain ⟨v, h1, h2⟩ := (hf i hi).2 j hj
      refine ⟨v, by rw [← addr_add]; exact h1, ?_⟩
      have : ((List.range len).map f).getD i default = f i := by
        rw [List.getD_eq_getElem?_getD]; simp [hi]
      show RU w (gAll w) (c (((List.range len).map f).getD i default) j) v
      rw [this]; exact h2

theorem struct_us {H : Type} {enc : TypeId × Value → H} {w : World} {fuel : Nat} {cs : List Value} {x : DataW H × List MemPlace} {t : TypeId} {fs : Array Field} (ht : P.underlying t = some (.struct fs))
    (h : DataW.trod enc P w 0 (fun _ => true) true fuel t cs = some x) (hw0 : ∀ n ∈ DataW.weights P t x.1, n ≤ reachBytes) :
    cs.length = P.cellsOf t ∧ ∀ (i : Nat) (f : Field), fs[i]? = some f → ∃ y n, DataW.trod enc P w 0 (fun _ => true) true n f.type ((cs.drop f.offset).take (P.cellsOf f.type)) = some y ∧ ∀ k ∈ DataW.weights P f.type y.1, k ≤ reachBytes := by
  obtain ⟨xs, n, _, rfl, h1, h2, h3⟩ := DataW.trod_struct ht h
  refine ⟨h1, fun i f hf => ?_⟩
  have hi : i < fs.size := by
    rcases Nat.lt_or_ge i fs.size with h4 | h4
    · exact h4
    · rw [Array.getElem?_eq_none h4] at hf; cases hf
  have := h3 i f hf
  rw [List.getElem?_eq_getElem (by omega)] at this
  refine ⟨_, n, this, fun k hk => hw0 k ?_⟩
  simp only [DataW.weights, ht]
  exact DataW.weights_mem_each (j := i) (t := f.type) (d := (xs[i]'(by omega)).1) (by simp [hf]) (by rw [List.getElem?_map, List.getElem?_eq_getElem (by omega)]; rfl) k hk

theorem rdf {cs : List Value} {o z : Nat} {Q : Value → Prop} {j : Nat} (h : ∃ v, ((cs.drop o).take z)[j]? = some v ∧ Q v) : ∃ v, cs[o + j]? = some v ∧ Q v := by
  obtain ⟨v, h1, h2⟩ := h
  refine ⟨v, ?_, h2⟩
  rw [List.getElem?_take] at h1
  split at h1
  · rw [List.getElem?_drop] at h1; exact h1
  · cases h1

/-- An argument of one cell. -/
theorem rs_one {t : TypeId} {α : Type} {c : α → Nat → U} {ok : α → Prop} (hr : Rd P t c 1 ok) {H : Type} {enc : TypeId × Value → H} {w : World} {v : Value} {d : DataW H} {ps : List MemPlace}
    (h : DataW.Trod enc P w 0 (fun _ => true) true t v d ps) (hw : ∀ n ∈ DataW.weights P t d, n ≤ reachBytes) (hv : v.cells = #[v]) : ∃ a : α, ok a ∧ RS w (gAll w) (.val false [.u (c a 0)]) v := by
  obtain ⟨fuel, hf⟩ := h
  obtain ⟨a, hk, _, ha⟩ := hr hf hw
  obtain ⟨u, h1, h2⟩ := ha 0 (by omega)
  rw [hv] at h1
  simp at h1
  subst h1
  exact ⟨a, hk, RV.of_cell h2⟩
/-- An argument of many. -/
theorem rs_agg {t : TypeId} {α : Type} {c : α → Nat → U} {ok : α → Prop} {sz : Nat} (hr : Rd P t c sz ok) {H : Type} {enc : TypeId × Value → H} {w : World} {v : Value} {d : DataW H} {ps : List MemPlace}
    (h : DataW.Trod enc P w 0 (fun _ => true) true t v d ps) (hw : ∀ n ∈ DataW.weights P t d, n ≤ reachBytes) (hv : ∃ cs, v = .agg cs) : ∃ a : α, ok a ∧ RS w (gAll w) (.val true ((List.range sz).map fun j => .u (c a j))) v := by
  obtain ⟨fuel, hf⟩ := h
  obtain ⟨a, hk, hl, ha⟩ := hr hf hw
  obtain ⟨cs, rfl⟩ := hv
  exact ⟨a, hk, cs.toList, by simp, RLs.of_us _ _ hl ha⟩

theorem Con.run {f : FuncId} {ags : List S} {os1 : List Ob} (hc : Con P f ags [] (vbool true) os1) {w : World} {vals : List Value} (hg : Glob.ok P w.heap.size w) (h : RSs w (gAll w) ags vals) :
    Calls P f vals.toArray w fun e w' => e = .returned (.bool true) ∧ Below w.heap.size w w' := by
  refine Calls.mono (hc.2 w (gAll w) vals ⟨h, fun r hr => absurd hr (Nat.not_lt_zero r), fun r => ⟨fun h => h.elim, fun h => absurd h (Nat.not_lt_zero r)⟩, fun b hb => ⟨hb, rfl⟩, fun b hb => hb.elim, fun b r hb => by cases hb⟩ ⟨_, Nat.le_refl _, fun b hb => absurd rfl hb, hg⟩) ?_
  rintro e w' ⟨v, g, rfl, hp⟩
  refine ⟨?_, hp.os, hp.tape, hp.output, hp.size, fun k hk => hp.block k hk rfl⟩
  have : v = .bool true := RV.cell hp.res
  rw [this]

/-- Arguments read behind the call as they did, with whatever spare places. -/
theorem trodAll_any {H : Type} {enc : TypeId × Value → H} {W W' : World} {sp : Nat → Bool} (hl : laidOutB P = true) (hb : Below W.heap.size W W') : ∀ {ts : List TypeId} {vs : List Value} {ds : List (DataW H)} {ps : List MemPlace},
    (∀ t ∈ ts, P.readableRec t = true ∧ t < P.types.size) → DataW.TrodAll enc P W 0 (fun _ => true) true ts vs ds ps → (∀ x ∈ ps, x.block < W.heap.size) → (∀ x ∈ ps, sp x.block = true) →
    DataW.TrodAll enc P W' 0 sp true ts vs ds ps
  | [], [], [], _, _, h, _, _ => h
  | t :: ts, v :: vs, d :: ds, _, ht, ⟨p, q, h1, h2, e⟩, hlt, hs => by
    subst e
    have h3 := ht t (List.mem_cons_self ..)
    exact ⟨p, q, WideElems.Trod_stays hl h3.1 h3.2 h1 (fun x hx => hb.same (hlt x (List.mem_append_left _ hx))) (fun x hx => hs x (List.mem_append_left _ hx)),
      trodAll_any hl hb (fun t h => ht t (List.mem_cons_of_mem _ h)) h2 (fun x hx => hlt x (List.mem_append_right _ hx)) (fun x hx => hs x (List.mem_append_right _ hx)), rfl⟩

/-- A law's row: one result, no variables, nothing turned. -/
theorem law_post {H : Type} {enc : TypeId × Value → H} {f : Func} {s : ChangeSpec} {apart fresh handsOn again : Bool} {W W' : World} {args : Array Value} {v : Value} {ds : List (DataW H)} {before : List MemPlace} (hl : laidOutB P = true)
    (ht : ∀ t ∈ f.params.toList, P.readableRec t = true ∧ t < P.types.size) (hW : DataW.Whole enc P f.params.toList s.vars apart W args.toList ds [] before) (hnv : s.vars = []) (hb : Below W.heap.size W W')
    (hres : ∀ (b : Nat) (sp : Nat → Bool) (hd : Bool), DataW.TrodAll enc P W' b sp hd f.resultTypes.toList (v.resultList f.resultTypes.size) (s.fn H (ds ++ [])).results []) (hargs : (s.fn H (ds ++ [])).args = ds) (hvars : (s.fn H (ds ++ [])).vars = [])
    (hok : ∀ (j : Nat) (t : TypeId) (r : Value), f.resultTypes[j]? = some t → (v.resultList f.resultTypes.size)[j]? = some r → Value.okWide P W' .any 0 t r) :
    s.post enc P f apart fresh handsOn again W args v W' := by
  have lt : ∀ x ∈ before, x.block < W.heap.size := fun x hx => hW.lt x hx
  have hW0 := hW
  obtain ⟨p, q, hA, hV, e, hz, hn⟩ := hW
  have hq : q = [] := by rw [hnv] at hV; exact (trodVars_none hV).2
  subst hq
  rw [List.append_nil] at e
  subst e
  have stay : ∀ sp : Nat → Bool, (∀ x ∈ before, sp x.block = true) → DataW.TrodAll enc P W' 0 sp true f.params.toList args.toList (s.fn H (ds ++ [])).args before := fun sp hsp => by
    rw [hargs]; exact trodAll_any hl hb ht hA lt hsp
  have vars : ∀ sp : Nat → Bool, DataW.TrodVars enc P W' sp s.vars (s.fn H (ds ++ [])).vars [] := fun sp => by rw [hnv, hvars]; rfl
  refine ⟨ds, [], before, [], before, [], hW0, hres _ _ _, stay _ (fun x hx => decide_eq_true (lt x hx)), vars _, World.keptBut_mono (fun x hx => ⟨hx, .inr (.inl hx)⟩) (hb.frame (· ∈ before)), fun _ => ⟨hok, _, _, ([] ++ before) ++ [], ⟨[] ++ before, [], trodAll_append (stay _ (fun _ _ => rfl)) (hres _ _ _), vars _, rfl, ?_, ?_⟩, ?_⟩⟩
  · intro b off hx
    simp only [List.nil_append, List.append_nil] at hx
    rw [hb.frozen (lt _ hx)]; exact hz b off hx
  · intro ha; simpa using hn ha
  · intro x hx _; simpa using hx

theorem okWide_one {t : TypeId} {d : TypeDesc} (ht : P.underlying t = some d) (hd : (match d with | .int _ | .string | .bool => true | _ => false) = true) {w : World} {r : _root_.Go.Reach} {base : Nat} {v : Value} (h : Value.okWide P w r base t v) : v.cells = #[v] := by
  cases d <;> first | (cases hd; done) | skip
  · obtain ⟨_, rfl⟩ := okWide_bool ht h; rfl
  · obtain ⟨_, rfl⟩ := okWide_int ht h; rfl
  · obtain ⟨_, rfl⟩ := okWide_string ht h; rfl
theorem okWide_agg {t : TypeId} {fs : Array Field} (ht : P.underlying t = some (.struct fs)) {w : World} {r : _root_.Go.Reach} {base : Nat} {v : Value} (h : Value.okWide P w r base t v) : ∃ cs, v = .agg cs := by
  unfold Value.okWide at h
  rw [ht] at h
  obtain ⟨cs, e, _⟩ := h
  exact ⟨cs, e⟩
end
end Go.Vs
