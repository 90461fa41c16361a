/- Words and walks for the proof. -/
import Derived.Test.YtkembmbgkbonmaaGreatDoorBoB
set_option linter.unusedVariables false
set_option linter.unusedSimpArgs false
set_option linter.unusedSectionVars false
namespace Go.Proofs.PanB
open Go.Vs
set_option maxRecDepth 8000
def s_l61Nth (a0 : (List PanCall)) (a1 : Int) (a2 : Int) : Option (Int) :=
 ck (a1 ≤ 4611686018427387904) (loopN (fun i1 (v6 : Int) κ7 => ix a0 ((i1 : Nat) : Int) (fun x8 => cond (decide (x8.Client = a2)) (κ7 (w64 (v6 + 1))) (κ7 v6))) (fun (v6 : Int) => some v6) a1.toNat 0 0)
theorem s_l61Nth_c {t0_0 : Bool} {a0 : (List PanCall)} {a1 : Int} {a2 : Int} {r : Int} (hF : s_l61Nth a0 a1 a2 = some r) : Con Tryz.prog 112 [.val false [.u (ul PanCall.c 12 t0_0 a0)], vint .i64 a1, vint .i64 a2] [] (vint .i64 r) [] := by
 refine Con.of_Dz tabOk Tryz.func112 rfl rfl rfl ?_
 delta s_l61Nth at hF
 refine Dz.seq (Dz.reg (Dz.seq (Dz.reg (Dz.seq (Dz.seq (Dz.reg (Dz.blk ?_)))))))
 obtain ⟨hNi1, hF⟩ := ckE hF
 refine Dz.cnt hF (fun i1 v6 => ([(0, .val false [.u (ul PanCall.c 12 t0_0 a0)]), (1, vint .i64 a1), (2, vint .i64 a2), (7, vint .i64 v6), (8, vint .i64 ((i1 : Nat) : Int))], [])) (entG [] ⟨mv rfl, mv rfl, mv rfl, mv rfl, mv rfl, tv⟩ tv rfl) (fun v6 hF => ?_) (fun i1 v6 κ7 hi0i1 hi1i1 hF => ?_)
 ·refine Dz.seq (Dz.seq (Dz.reg ?_))
  refine Dz.ff (b := decide (((0 + a1.toNat : Nat) : Int) < a1)) rfl (decide_eq_false (by omega)) ?_
  refine Dz.exit (Dz.seq (Dz.reg (Dz.ret ?_)))
  cases hF
  exact finG [] [] rfl rfl (mv rfl) tv rfl
 ·refine Dz.seq (Dz.seq (Dz.reg ?_))
  refine Dz.tt (b := decide (((i1 : Nat) : Int) < a1)) rfl (decide_eq_true (by omega)) ?_
  refine Dz.skip (Dz.seq (Dz.blk (Dz.seq (Dz.reg ?_))))
  refine vix hF (fun _ _ hF => ?_)
  refine Dz.ite rfl hF (fun _ hF => ?_) (fun _ hF => ?_)
  ·refine Dz.reg (vw64 (Dz.reg ?_))
   refine vsucc (by omega) ?_
   exact ⟨(w64 (v6 + 1)), entG [] ⟨mv rfl, mv rfl, mv rfl, mv rfl, mv rfl, tv⟩ tv rfl, hF⟩
  ·refine Dz.skip (Dz.reg ?_)
   refine vsucc (by omega) ?_
   exact ⟨v6, entG [] ⟨mv rfl, mv rfl, mv rfl, mv rfl, mv rfl, tv⟩ tv rfl, hF⟩
def s_l61CallOk (a0 : (List PanCall)) (a1 : Int) (a2 : Int) : Option (Bool) :=
 ix a0 a1 (fun x1 => (s_l6In x1.Client 0 3).bind (fun y2 => cond (!y2) (some false) ((s_l61Nth a0 a1 x1.Client).bind (fun y3 => cond (!decide (x1.Call = (w64 (y3 + 1)))) (some false) ((s_l6In x1.Op 1 6).bind (fun y4 => cond (!y4) (some false) ((s_l6In x1.Disk 0 99999).bind (fun y5 => cond (!y5) (some false) ((s_l6In x1.Block 0 99999).bind (fun y6 => cond (!y6) (some false) ((s_l6In x1.Epoch 0 99999).bind (fun y7 => cond (!y7) (some false) ((s_l6In x1.Data 0 99999).bind (fun y8 => cond (!y8) (some false) ((s_l6In x1.Begin 1 a2).bind (fun y9 => cond (!y9) (some false) (jn (fun (v10 : Unit) => cond (decide (x1.End = 0)) (cond (decide (x1.Code = 0)) (some (decide (x1.Value = 0))) (some false)) (cond (!x1.Over) ((s_l6In x1.End (w64 (x1.Begin + 1)) a2).bind (fun y11 => cond y11 ((s_l6In x1.Code 0 5).bind (fun y12 => cond y12 ((s_l6In x1.Value 0 99999).bind (fun y13 => some y13)) (some false))) (some false))) (some false))) (fun j14 => cond (decide ((0 : Int) < a1)) (ix a0 (w64 (a1 - 1)) (fun x15 => cond (decide (x1.Begin ≤ x15.Begin)) (some false) (j14 ()))) (j14 ())))))))))))))))))))
theorem s_l61CallOk_c {t0_0 : Bool} {a0 : (List PanCall)} {a1 : Int} {a2 : Int} {r : Bool} (hF : s_l61CallOk a0 a1 a2 = some r) : Con Tryz.prog 61 [.val false [.u (ul PanCall.c 12 t0_0 a0)], vint .i64 a1, vint .i64 a2] [] (vbool r) [] := by
 refine Con.of_Dz tabOk Tryz.func61 rfl rfl rfl ?_
 delta s_l61CallOk at hF
 refine Dz.seq (Dz.reg (Dz.seq (Dz.reg ?_)))
 refine vix hF (fun _ _ hF => ?_)
 refine Dz.seq (Dz.seq ?_)
 refine Dz.drw 1 [⟨[], [], 1, 1⟩, ⟨[], [0], 1, 1⟩, ⟨[], [], 1, 1⟩, ⟨[], [], 1, 1⟩, ⟨[], [], 1, 1⟩, ⟨[19,20,21,22,23,24], [], 1, 1⟩, ⟨[19,20,21,22,23,24], [0], 1, 1⟩, ⟨[17,18,20,21,22], [], 1, 1⟩, ⟨[17,18,19,21,22], [], 1, 1⟩, ⟨[17,18,19,20], [], 1, 1⟩, ⟨[17,18,19,20], [0], 1, 1⟩, ⟨[17,18], [], 1, 1⟩, ⟨[17,18], [], 1, 1⟩, ⟨[], [], 1, 1⟩, ⟨[], [], 1, 1⟩, ⟨[], [], 1, 1⟩, ⟨[], [], 1, 1⟩, ⟨[], [0], 1, 1⟩, ⟨[], [], 1, 1⟩, ⟨[], [], 1, 1⟩, ⟨[], [], 1, 1⟩, ⟨[], [], 1, 1⟩, ⟨[], [], 1, 1⟩, ⟨[], [0], 1, 1⟩, ⟨[], [], 1, 1⟩, ⟨[], [], 1, 1⟩, ⟨[], [], 1, 1⟩, ⟨[], [], 1, 1⟩, ⟨[], [], 1, 1⟩, ⟨[], [0], 1, 1⟩, ⟨[], [], 1, 1⟩, ⟨[], [], 1, 1⟩, ⟨[], [], 1, 1⟩, ⟨[], [], 1, 1⟩, ⟨[], [], 1, 1⟩, ⟨[], [0], 1, 1⟩, ⟨[], [], 1, 1⟩, ⟨[], [], 1, 1⟩, ⟨[], [], 1, 1⟩, ⟨[], [], 1, 1⟩, ⟨[], [], 1, 1⟩, ⟨[], [0], 1, 1⟩, ⟨[], [], 1, 1⟩, ⟨[], [], 1, 1⟩, ⟨[], [], 1, 1⟩, ⟨[], [], 1, 1⟩, ⟨[60], [], 1, 1⟩, ⟨[60], [0], 1, 1⟩, ⟨[58,59], [], 1, 1⟩, ⟨[], [], 1, 1⟩, ⟨[], [], 1, 1⟩, ⟨[], [], 1, 1⟩] ⟨by kernel_rfl, by kernel_rfl, rfl⟩ ?_
 refine bdE hF (fun y2 hy2 hF => ?_)
 refine callG [] (s_l6In_c hy2) ⟨mv rfl, mv rfl, mv rfl, tv⟩ tv rfl ?_
 refine vif hF (fun _ hF => ?_) (fun _ hF => ?_)
 ·refine Dz.tt (b := true) rfl rfl ?_
  refine Dz.seq (Dz.reg (Dz.ret ?_))
  cases hF
  exact finG [] [] rfl rfl (mv rfl) tv rfl
 ·refine bdE hF (fun y3 hy3 hF => ?_)
  refine callG [] (s_l61Nth_c hy3) ⟨mv rfl, mv rfl, mv rfl, tv⟩ tv rfl ?_
  refine vw64 ?_
  refine vif hF (fun _ hF => ?_) (fun _ hF => ?_)
  ·refine Dz.tt (b := true) rfl rfl ?_
   refine Dz.seq (Dz.reg (Dz.ret ?_))
   cases hF
   exact finG [] [] rfl rfl (mv rfl) tv rfl
  ·refine bdE hF (fun y4 hy4 hF => ?_)
   refine callG [] (s_l6In_c hy4) ⟨mv rfl, mv rfl, mv rfl, tv⟩ tv rfl ?_
   refine vif hF (fun _ hF => ?_) (fun _ hF => ?_)
   ·refine Dz.tt (b := true) rfl rfl ?_
    refine Dz.seq (Dz.reg (Dz.ret ?_))
    cases hF
    exact finG [] [] rfl rfl (mv rfl) tv rfl
   ·refine bdE hF (fun y5 hy5 hF => ?_)
    refine callG [] (s_l6In_c hy5) ⟨mv rfl, mv rfl, mv rfl, tv⟩ tv rfl ?_
    refine vif hF (fun _ hF => ?_) (fun _ hF => ?_)
    ·refine Dz.tt (b := true) rfl rfl ?_
     refine Dz.seq (Dz.reg (Dz.ret ?_))
     cases hF
     exact finG [] [] rfl rfl (mv rfl) tv rfl
    ·refine bdE hF (fun y6 hy6 hF => ?_)
     refine callG [] (s_l6In_c hy6) ⟨mv rfl, mv rfl, mv rfl, tv⟩ tv rfl ?_
     refine vif hF (fun _ hF => ?_) (fun _ hF => ?_)
     ·refine Dz.tt (b := true) rfl rfl ?_
      refine Dz.seq (Dz.reg (Dz.ret ?_))
      cases hF
      exact finG [] [] rfl rfl (mv rfl) tv rfl
     ·refine bdE hF (fun y7 hy7 hF => ?_)
      refine callG [] (s_l6In_c hy7) ⟨mv rfl, mv rfl, mv rfl, tv⟩ tv rfl ?_
      refine vif hF (fun _ hF => ?_) (fun _ hF => ?_)
      ·refine Dz.tt (b := true) rfl rfl ?_
       refine Dz.seq (Dz.reg (Dz.ret ?_))
       cases hF
       exact finG [] [] rfl rfl (mv rfl) tv rfl
      ·refine bdE hF (fun y8 hy8 hF => ?_)
       refine callG [] (s_l6In_c hy8) ⟨mv rfl, mv rfl, mv rfl, tv⟩ tv rfl ?_
       refine vif hF (fun _ hF => ?_) (fun _ hF => ?_)
       ·refine Dz.tt (b := true) rfl rfl ?_
        refine Dz.seq (Dz.reg (Dz.ret ?_))
        cases hF
        exact finG [] [] rfl rfl (mv rfl) tv rfl
       ·refine bdE hF (fun y9 hy9 hF => ?_)
        refine callG [] (s_l6In_c hy9) ⟨mv rfl, mv rfl, mv rfl, tv⟩ tv rfl ?_
        refine Dz.ite rfl hF (fun _ hF => ?_) (fun _ hF => ?_)
        ·refine Dz.seq (Dz.reg (Dz.ret ?_))
         cases hF
         exact finG [] [] rfl rfl (mv rfl) tv rfl
        ·refine Dz.skip ?_
         refine Dz.jn hF (fun v10 => ([(2, vint .i64 a2), (7, .ptr 0 0)], [.box 66 (PanCall.L (a0.getD a1.toNat default))])) (fun v10 hF => ?_) (fun hF => ?_)
         ·refine Dz.seq (Dz.seq (Dz.reg ?_))
          refine Dz.ite rfl hF (fun _ hF => ?_) (fun _ hF => ?_)
          ·refine Dz.seq (Dz.reg ?_)
           refine vif hF (fun _ hF => ?_) (fun _ hF => ?_)
           ·refine Dz.ret ?_
            cases hF
            exact finG [] [] rfl rfl (mv rfl) tv rfl
           ·refine Dz.ret ?_
            cases hF
            exact finG [] [] rfl rfl (mv rfl) tv rfl
          ·refine Dz.skip (Dz.seq (Dz.reg ?_))
           refine vif hF (fun _ hF => ?_) (fun _ hF => ?_)
           ·refine vw64 ?_
            refine bdE hF (fun y11 hy11 hF => ?_)
            refine callG [] (s_l6In_c hy11) ⟨mv rfl, mv rfl, mv rfl, tv⟩ tv rfl ?_
            refine vif hF (fun _ hF => ?_) (fun _ hF => ?_)
            ·refine bdE hF (fun y12 hy12 hF => ?_)
             refine callG [] (s_l6In_c hy12) ⟨mv rfl, mv rfl, mv rfl, tv⟩ tv rfl ?_
             refine vif hF (fun _ hF => ?_) (fun _ hF => ?_)
             ·refine bdE hF (fun y13 hy13 hF => ?_)
              refine callG [] (s_l6In_c hy13) ⟨mv rfl, mv rfl, mv rfl, tv⟩ tv rfl ?_
              refine Dz.ret ?_
              cases hF
              exact finG [] [] rfl rfl (mv rfl) tv rfl
             ·refine Dz.ret ?_
              cases hF
              exact finG [] [] rfl rfl (mv rfl) tv rfl
            ·refine Dz.ret ?_
             cases hF
             exact finG [] [] rfl rfl (mv rfl) tv rfl
           ·refine Dz.ret ?_
            cases hF
            exact finG [] [] rfl rfl (mv rfl) tv rfl
         ·refine Dz.seq ?_
          refine Dz.drw 1 [⟨[], [], 1, 1⟩, ⟨[], [], 1, 1⟩, ⟨[], [], 1, 1⟩, ⟨[68,69,73,74], [], 1, 1⟩, ⟨[67,73,74], [], 1, 1⟩, ⟨[67,73,74], [], 1, 1⟩, ⟨[73,74], [], 1, 1⟩, ⟨[73,74], [], 1, 1⟩, ⟨[73,74], [], 1, 1⟩, ⟨[67,68,69,70,71,72], [], 1, 1⟩, ⟨[67,68,69,70,71,72], [0], 1, 1⟩, ⟨[], [], 1, 1⟩, ⟨[], [], 1, 1⟩] ⟨by kernel_rfl, by kernel_rfl, rfl⟩ ?_
          refine vif hF (fun _ hF => ?_) (fun _ hF => ?_)
          ·refine vw64 ?_
           refine vix hF (fun _ _ hF => ?_)
           refine Dz.ite rfl hF (fun _ hF => ?_) (fun _ hF => ?_)
           ·refine Dz.seq (Dz.reg (Dz.ret ?_))
            cases hF
            exact finG [] [] rfl rfl (mv rfl) tv rfl
           ·refine Dz.skip ?_
            exact ⟨(), entG [0] ⟨mv rfl, mp rfl, tv⟩ ⟨⟨rfl, o_box rfl⟩, tv⟩ rfl, hF⟩
          ·refine Dz.ff (b := false) rfl rfl ?_
           refine Dz.skip ?_
           exact ⟨(), entG [0] ⟨mv rfl, mp rfl, tv⟩ ⟨⟨rfl, o_box rfl⟩, tv⟩ rfl, hF⟩
def s_l61CallsOk (a0 : (List PanCall)) (a1 : Int) : Option (Bool) :=
 cond (decide ((10 : Int) < ((a0.length : Nat) : Int))) (some false) (loopN (fun i2 (v16 : Unit) κ17 => (s_l61CallOk a0 ((i2 : Nat) : Int) a1).bind (fun y19 => cond (!y19) (some false) (loopN (fun i20 (v25 : Unit) κ26 => ix a0 ((i20 : Nat) : Int) (fun x27 => cond (decide (x27.Client = (a0.getD i2 default).Client)) (ix a0 ((i20 : Nat) : Int) (fun x28 => cond (!x28.Over) (ix a0 ((i20 : Nat) : Int) (fun x29 => cond (decide (x29.End = 0)) (some false) (ix a0 ((i20 : Nat) : Int) (fun x30 => cond (decide ((a0.getD i2 default).Begin ≤ x30.End)) (some false) (κ26 ()))))) (κ26 ()))) (κ26 ()))) (fun (v25 : Unit) => κ17 ()) i2 0 ()))) (fun (v16 : Unit) => some true) a0.length 0 ())
theorem s_l61CallsOk_c {t0_0 : Bool} {a0 : (List PanCall)} {a1 : Int} {r : Bool} (hF : s_l61CallsOk a0 a1 = some r) : Con Tryz.prog 36 [.val false [.u (ul PanCall.c 12 t0_0 a0)], vint .i64 a1] [] (vbool r) [] := by
 refine Con.of_Dz tabOk Tryz.func36 rfl rfl rfl ?_
 delta s_l61CallsOk at hF
 refine Dz.seq (Dz.reg (Dz.seq (Dz.seq (Dz.reg ?_))))
 intro hb1; replace hb1 : a0.length ≤ 140737488355328 := hb1
 refine Dz.ite rfl hF (fun _ hF => ?_) (fun _ hF => ?_)
 ·refine Dz.seq (Dz.reg (Dz.ret ?_))
  cases hF
  exact finG [] [] rfl rfl (mv rfl) tv rfl
 ·refine Dz.skip (Dz.seq (Dz.seq (Dz.reg (Dz.blk ?_))))
  refine Dz.cnt hF (fun i2 v16 => ([(0, .val false [.u (ul PanCall.c 12 t0_0 a0)]), (1, vint .i64 a1), (5, vint .i64 ((i2 : Nat) : Int))], [])) (entG [] ⟨mv rfl, mv rfl, mv rfl, tv⟩ tv rfl) (fun v16 hF => ?_) (fun i2 v16 κ17 hi0i2 hi1i2 hF => ?_)
  ·refine Dz.seq (Dz.seq (Dz.reg ?_))
   intro hb31; replace hb31 : a0.length ≤ 140737488355328 := hb31
   refine Dz.ff (b := decide (((0 + a0.length : Nat) : Int) < ((a0.length : Nat) : Int))) rfl (decide_eq_false (by omega)) ?_
   refine Dz.exit (Dz.seq (Dz.reg (Dz.ret ?_)))
   cases hF
   exact finG [] [] rfl rfl (mv rfl) tv rfl
  ·refine Dz.seq (Dz.seq (Dz.reg ?_))
   intro hb18; replace hb18 : a0.length ≤ 140737488355328 := hb18
   refine Dz.tt (b := decide (((i2 : Nat) : Int) < ((a0.length : Nat) : Int))) rfl (decide_eq_true (by omega)) ?_
   refine Dz.skip (Dz.seq (Dz.blk (Dz.seq (Dz.seq (Dz.reg ?_)))))
   refine bdE hF (fun y19 hy19 hF => ?_)
   refine callG [] (s_l61CallOk_c hy19) ⟨mv rfl, mv rfl, mv rfl, tv⟩ tv rfl ?_
   refine Dz.ite rfl hF (fun _ hF => ?_) (fun _ hF => ?_)
   ·refine Dz.seq (Dz.reg (Dz.ret ?_))
    cases hF
    exact finG [] [] rfl rfl (mv rfl) tv rfl
   ·refine Dz.skip (Dz.seq (Dz.reg (Dz.blk ?_)))
    refine Dz.cnt hF (fun i20 v25 => ([(0, .val false [.u (ul PanCall.c 12 t0_0 a0)]), (1, vint .i64 a1), (5, vint .i64 ((i2 : Nat) : Int)), (6, vint .i64 ((i20 : Nat) : Int))], [])) (entG [] ⟨mv rfl, mv rfl, mv rfl, mv rfl, tv⟩ tv rfl) (fun v25 hF => ?_) (fun i20 v25 κ26 hi0i20 hi1i20 hF => ?_)
    ·refine Dz.seq (Dz.seq (Dz.reg ?_))
     refine Dz.ff (b := decide (((0 + i2 : Nat) : Int) < ((i2 : Nat) : Int))) rfl (decide_eq_false (by omega)) ?_
     refine Dz.exit (Dz.reg ?_)
     refine vsucc (by omega) ?_
     exact ⟨(), entG [] ⟨mv rfl, mv rfl, mv rfl, tv⟩ tv rfl, hF⟩
    ·refine Dz.seq (Dz.seq (Dz.reg ?_))
     refine Dz.tt (b := decide (((i20 : Nat) : Int) < ((i2 : Nat) : Int))) rfl (decide_eq_true (by omega)) ?_
     refine Dz.skip (Dz.seq (Dz.blk (Dz.seq ?_)))
     refine Dz.drw 0 [⟨[27,31,32,33,34,35], [], 0, 0⟩, ⟨[26,31,32,33,34,35], [], 0, 0⟩, ⟨[31,32,33,34,35], [], 0, 0⟩, ⟨[31,32,33,34,35], [], 0, 0⟩, ⟨[31,32,33,34,35], [], 0, 0⟩, ⟨[26,27,28,29,30,32], [], 0, 0⟩, ⟨[26,27,28,29,30,31], [], 0, 0⟩, ⟨[26,27,28,29,30], [], 0, 0⟩, ⟨[26,27,28,29,30], [], 0, 0⟩, ⟨[26,27,28,29,30], [], 0, 0⟩, ⟨[], [], 0, 0⟩, ⟨[], [], 0, 0⟩, ⟨[39], [], 0, 0⟩, ⟨[38], [], 0, 0⟩, ⟨[], [], 0, 0⟩, ⟨[], [], 0, 0⟩, ⟨[], [], 0, 0⟩, ⟨[], [], 0, 0⟩, ⟨[], [], 0, 0⟩, ⟨[], [], 0, 0⟩, ⟨[47], [], 0, 0⟩, ⟨[46], [], 0, 0⟩, ⟨[], [], 0, 0⟩, ⟨[], [], 0, 0⟩, ⟨[], [], 0, 0⟩, ⟨[], [], 0, 0⟩, ⟨[], [], 0, 0⟩, ⟨[54,58,59,60,61,62], [], 0, 0⟩, ⟨[53,58,59,60,61,62], [], 0, 0⟩, ⟨[58,59,60,61,62], [], 0, 0⟩, ⟨[58,59,60,61,62], [], 0, 0⟩, ⟨[58,59,60,61,62], [], 0, 0⟩, ⟨[53,54,55,56,57,59], [], 0, 0⟩, ⟨[53,54,55,56,57,58], [], 0, 0⟩, ⟨[53,54,55,56,57], [], 0, 0⟩, ⟨[53,54,55,56,57], [], 0, 0⟩, ⟨[53,54,55,56,57], [], 0, 0⟩, ⟨[], [], 0, 0⟩, ⟨[], [], 0, 0⟩, ⟨[], [], 0, 0⟩] ⟨by kernel_rfl, by kernel_rfl, rfl⟩ ?_
     refine vix hF (fun _ _ hF => ?_)
     refine vge (n := ((i2 : Nat) : Int)) (hi := (a0.length : Int)) (by omega) (by omega) ?_
     refine vif hF (fun _ hF => ?_) (fun _ hF => ?_)
     ·refine vix hF (fun _ _ hF => ?_)
      refine vif hF (fun _ hF => ?_) (fun _ hF => ?_)
      ·refine vix hF (fun _ _ hF => ?_)
       refine vif hF (fun _ hF => ?_) (fun _ hF => ?_)
       ·refine Dz.tt (b := true) rfl rfl ?_
        refine Dz.seq (Dz.reg (Dz.ret ?_))
        cases hF
        exact finG [] [] rfl rfl (mv rfl) tv rfl
       ·refine vix hF (fun _ _ hF => ?_)
        refine vge (n := ((i2 : Nat) : Int)) (hi := (a0.length : Int)) (by omega) (by omega) ?_
        refine Dz.ite rfl hF (fun _ hF => ?_) (fun _ hF => ?_)
        ·refine Dz.seq (Dz.reg (Dz.ret ?_))
         cases hF
         exact finG [] [] rfl rfl (mv rfl) tv rfl
        ·refine Dz.skip (Dz.reg ?_)
         refine vsucc (by omega) ?_
         exact ⟨(), entG [] ⟨mv rfl, mv rfl, mv rfl, mv rfl, tv⟩ tv rfl, hF⟩
      ·refine Dz.ff (b := false) rfl rfl ?_
       refine Dz.skip (Dz.reg ?_)
       refine vsucc (by omega) ?_
       exact ⟨(), entG [] ⟨mv rfl, mv rfl, mv rfl, mv rfl, tv⟩ tv rfl, hF⟩
     ·refine Dz.ff (b := false) rfl rfl ?_
      refine Dz.skip (Dz.reg ?_)
      refine vsucc (by omega) ?_
      exact ⟨(), entG [] ⟨mv rfl, mv rfl, mv rfl, mv rfl, tv⟩ tv rfl, hF⟩
def s_l11Num (a0 : Int) : Option (Bool) :=
 (s_l6In a0 (-1) 99999).bind (fun y1 => some y1)
theorem s_l11Num_c {a0 : Int} {r : Bool} (hF : s_l11Num a0 = some r) : Con Tryz.prog 68 [vint .i64 a0] [] (vbool r) [] := by
 refine Con.of_Dz tabOk Tryz.func68 rfl rfl rfl ?_
 delta s_l11Num at hF
 refine Dz.seq (Dz.reg (Dz.seq (Dz.reg ?_)))
 refine bdE hF (fun y1 hy1 hF => ?_)
 refine callG [] (s_l6In_c hy1) ⟨mv rfl, mv rfl, mv rfl, tv⟩ tv rfl ?_
 refine Dz.ret ?_
 cases hF
 exact finG [] [] rfl rfl (mv rfl) tv rfl
def s_l11CmdOk (a0 : Cmd) : Option (Bool) :=
 (s_l6In a0.Kind 0 7).bind (fun y1 => cond y1 ((s_l11Num a0.Client).bind (fun y2 => cond y2 ((s_l11Num a0.Call).bind (fun y3 => cond y3 ((s_l11Num a0.Disk).bind (fun y4 => cond y4 ((s_l11Num a0.Arg).bind (fun y5 => cond y5 ((s_l11Num a0.Epoch).bind (fun y6 => cond y6 ((s_l11Num a0.Range).bind (fun y7 => cond y7 ((s_l11Num a0.Num).bind (fun y8 => cond y8 ((s_l11Num a0.A).bind (fun y9 => cond y9 ((s_l11Num a0.B).bind (fun y10 => some y10)) (some false))) (some false))) (some false))) (some false))) (some false))) (some false))) (some false))) (some false))) (some false))
theorem s_l11CmdOk_c {a0 : Cmd} {r : Bool} (hF : s_l11CmdOk a0 = some r) : Con Tryz.prog 66 [.val true (Cmd.L a0)] [] (vbool r) [] := by
 refine Con.of_Dz tabOk Tryz.func66 rfl rfl rfl ?_
 delta s_l11CmdOk at hF
 refine Dz.seq (Dz.reg (Dz.seq (Dz.reg ?_)))
 refine bdE hF (fun y1 hy1 hF => ?_)
 refine callG [] (s_l6In_c hy1) ⟨mv rfl, mv rfl, mv rfl, tv⟩ tv rfl ?_
 refine vif hF (fun _ hF => ?_) (fun _ hF => ?_)
 ·refine bdE hF (fun y2 hy2 hF => ?_)
  refine callG [] (s_l11Num_c hy2) ⟨mv rfl, tv⟩ tv rfl ?_
  refine vif hF (fun _ hF => ?_) (fun _ hF => ?_)
  ·refine bdE hF (fun y3 hy3 hF => ?_)
   refine callG [] (s_l11Num_c hy3) ⟨mv rfl, tv⟩ tv rfl ?_
   refine vif hF (fun _ hF => ?_) (fun _ hF => ?_)
   ·refine bdE hF (fun y4 hy4 hF => ?_)
    refine callG [] (s_l11Num_c hy4) ⟨mv rfl, tv⟩ tv rfl ?_
    refine vif hF (fun _ hF => ?_) (fun _ hF => ?_)
    ·refine bdE hF (fun y5 hy5 hF => ?_)
     refine callG [] (s_l11Num_c hy5) ⟨mv rfl, tv⟩ tv rfl ?_
     refine vif hF (fun _ hF => ?_) (fun _ hF => ?_)
     ·refine bdE hF (fun y6 hy6 hF => ?_)
      refine callG [] (s_l11Num_c hy6) ⟨mv rfl, tv⟩ tv rfl ?_
      refine vif hF (fun _ hF => ?_) (fun _ hF => ?_)
      ·refine bdE hF (fun y7 hy7 hF => ?_)
       refine callG [] (s_l11Num_c hy7) ⟨mv rfl, tv⟩ tv rfl ?_
       refine vif hF (fun _ hF => ?_) (fun _ hF => ?_)
       ·refine bdE hF (fun y8 hy8 hF => ?_)
        refine callG [] (s_l11Num_c hy8) ⟨mv rfl, tv⟩ tv rfl ?_
        refine vif hF (fun _ hF => ?_) (fun _ hF => ?_)
        ·refine bdE hF (fun y9 hy9 hF => ?_)
         refine callG [] (s_l11Num_c hy9) ⟨mv rfl, tv⟩ tv rfl ?_
         refine vif hF (fun _ hF => ?_) (fun _ hF => ?_)
         ·refine bdE hF (fun y10 hy10 hF => ?_)
          refine callG [] (s_l11Num_c hy10) ⟨mv rfl, tv⟩ tv rfl ?_
          refine Dz.ret ?_
          cases hF
          exact finG [] [] rfl rfl (mv rfl) tv rfl
         ·refine Dz.ret ?_
          cases hF
          exact finG [] [] rfl rfl (mv rfl) tv rfl
        ·refine Dz.ret ?_
         cases hF
         exact finG [] [] rfl rfl (mv rfl) tv rfl
       ·refine Dz.ret ?_
        cases hF
        exact finG [] [] rfl rfl (mv rfl) tv rfl
      ·refine Dz.ret ?_
       cases hF
       exact finG [] [] rfl rfl (mv rfl) tv rfl
     ·refine Dz.ret ?_
      cases hF
      exact finG [] [] rfl rfl (mv rfl) tv rfl
    ·refine Dz.ret ?_
     cases hF
     exact finG [] [] rfl rfl (mv rfl) tv rfl
   ·refine Dz.ret ?_
    cases hF
    exact finG [] [] rfl rfl (mv rfl) tv rfl
  ·refine Dz.ret ?_
   cases hF
   exact finG [] [] rfl rfl (mv rfl) tv rfl
 ·refine Dz.ret ?_
  cases hF
  exact finG [] [] rfl rfl (mv rfl) tv rfl
def s_l21PaperOk (a0 : SynPaper) : Option (Bool) :=
 (s_l6In a0.Slot 1 60).bind (fun y1 => cond y1 ((s_l6In a0.Ballot 1 99999).bind (fun y2 => cond y2 ((s_l11CmdOk a0.Cmd).bind (fun y3 => some y3)) (some false))) (some false))
theorem s_l21PaperOk_c {a0 : SynPaper} {r : Bool} (hF : s_l21PaperOk a0 = some r) : Con Tryz.prog 113 [.val true (SynPaper.L a0)] [] (vbool r) [] := by
 refine Con.of_Dz tabOk Tryz.func113 rfl rfl rfl ?_
 delta s_l21PaperOk at hF
 refine Dz.seq (Dz.reg (Dz.seq (Dz.reg ?_)))
 refine bdE hF (fun y1 hy1 hF => ?_)
 refine callG [] (s_l6In_c hy1) ⟨mv rfl, mv rfl, mv rfl, tv⟩ tv rfl ?_
 refine vif hF (fun _ hF => ?_) (fun _ hF => ?_)
 ·refine bdE hF (fun y2 hy2 hF => ?_)
  refine callG [] (s_l6In_c hy2) ⟨mv rfl, mv rfl, mv rfl, tv⟩ tv rfl ?_
  refine vif hF (fun _ hF => ?_) (fun _ hF => ?_)
  ·refine bdE hF (fun y3 hy3 hF => ?_)
   refine callG [] (s_l11CmdOk_c hy3) ⟨mv rfl, tv⟩ tv rfl ?_
   refine Dz.ret ?_
   cases hF
   exact finG [] [] rfl rfl (mv rfl) tv rfl
  ·refine Dz.ret ?_
   cases hF
   exact finG [] [] rfl rfl (mv rfl) tv rfl
 ·refine Dz.ret ?_
  cases hF
  exact finG [] [] rfl rfl (mv rfl) tv rfl
def s_SynVoterOk (a0 : SynVoter) : Option (Bool) :=
 (s_l6In a0.Promised 0 99999).bind (fun y1 => cond (!y1) (some false) (cond (decide ((60 : Int) < ((a0.Papers.length : Nat) : Int))) (some false) (loopN (fun i3 (v8 : Unit) κ9 => lt (a0.Papers.getD i3 default) (fun x11 => (s_l21PaperOk x11).bind (fun y12 => cond (!y12) (some false) (cond (decide (a0.Promised < (a0.Papers.getD i3 default).Ballot)) (some false) (cond (decide ((0 : Int) < ((i3 : Nat) : Int))) (ix a0.Papers (((i3 : Nat) : Int) - 1) (fun x13 => cond (decide ((a0.Papers.getD i3 default).Slot ≤ x13.Slot)) (some false) (κ9 ()))) (κ9 ())))))) (fun (v8 : Unit) => some true) a0.Papers.length 0 ())))
theorem s_SynVoterOk_c {t0_1 : Bool} {a0 : SynVoter} {r : Bool} (hF : s_SynVoterOk a0 = some r) : Con Tryz.prog 62 [.val true [.u (cI a0.Promised), .u (ul SynPaper.c 12 t0_1 a0.Papers)]] [] (vbool r) [] := by
 refine Con.of_Dz tabOk Tryz.func62 rfl rfl rfl ?_
 delta s_SynVoterOk at hF
 refine Dz.seq (Dz.reg (Dz.seq (Dz.seq (Dz.reg ?_))))
 refine bdE hF (fun y1 hy1 hF => ?_)
 refine callG [] (s_l6In_c hy1) ⟨mv rfl, mv rfl, mv rfl, tv⟩ tv rfl ?_
 refine vif hF (fun _ hF => ?_) (fun _ hF => ?_)
 ·refine Dz.tt (b := true) rfl rfl ?_
  refine Dz.seq (Dz.reg (Dz.ret ?_))
  cases hF
  exact finG [] [] rfl rfl (mv rfl) tv rfl
 ·intro hb2; replace hb2 : a0.Papers.length ≤ 140737488355328 := hb2
  refine Dz.ite rfl hF (fun _ hF => ?_) (fun _ hF => ?_)
  ·refine Dz.seq (Dz.reg (Dz.ret ?_))
   cases hF
   exact finG [] [] rfl rfl (mv rfl) tv rfl
  ·refine Dz.skip (Dz.seq (Dz.seq (Dz.reg (Dz.blk ?_))))
   refine Dz.cnt hF (fun i3 v8 => ([(1, .ptr 0 0), (3, vint .i64 ((i3 : Nat) : Int))], [.box 51 [.u (cI a0.Promised), .u (ul SynPaper.c 12 t0_1 a0.Papers)]])) (entG [0] ⟨mp rfl, mv rfl, tv⟩ ⟨⟨rfl, o_box rfl⟩, tv⟩ rfl) (fun v8 hF => ?_) (fun i3 v8 κ9 hi0i3 hi1i3 hF => ?_)
   ·refine Dz.seq (Dz.seq (Dz.reg ?_))
    intro hb14; replace hb14 : a0.Papers.length ≤ 140737488355328 := hb14
    refine Dz.ff (b := decide (((0 + a0.Papers.length : Nat) : Int) < ((a0.Papers.length : Nat) : Int))) rfl (decide_eq_false (by omega)) ?_
    refine Dz.exit (Dz.seq (Dz.reg (Dz.ret ?_)))
    cases hF
    exact finG [] [] rfl rfl (mv rfl) tv rfl
   ·refine Dz.seq (Dz.seq (Dz.reg ?_))
    intro hb10; replace hb10 : a0.Papers.length ≤ 140737488355328 := hb10
    refine Dz.tt (b := decide (((i3 : Nat) : Int) < ((a0.Papers.length : Nat) : Int))) rfl (decide_eq_true (by omega)) ?_
    refine Dz.skip (Dz.seq (Dz.blk (Dz.seq ?_)))
    refine Dz.drw 1 [⟨[23], [], 1, 1⟩, ⟨[23], [0], 1, 1⟩, ⟨[21,22], [], 1, 1⟩, ⟨[], [], 1, 1⟩, ⟨[], [], 1, 1⟩, ⟨[], [], 1, 1⟩, ⟨[], [], 1, 1⟩, ⟨[], [], 1, 1⟩, ⟨[31,35,36], [], 1, 1⟩, ⟨[31,35,36], [0], 1, 1⟩, ⟨[29,30,35,36], [], 1, 1⟩, ⟨[35,36], [], 1, 1⟩, ⟨[35,36], [], 1, 1⟩, ⟨[35,36], [], 1, 1⟩, ⟨[29,30,31,32,33,34], [], 1, 1⟩, ⟨[29,30,31,32,33,34], [0], 1, 1⟩, ⟨[], [], 1, 1⟩, ⟨[], [], 1, 1⟩, ⟨[], [], 1, 1⟩, ⟨[], [], 1, 1⟩, ⟨[], [], 1, 1⟩, ⟨[], [], 1, 1⟩, ⟨[45,46,50,51,52,53,54,55], [], 1, 1⟩, ⟨[45,46,50,51,52,53,54,55], [0], 1, 1⟩, ⟨[43,44,50,51,52,53,54,55], [], 1, 1⟩, ⟨[43,44,50,51,52,53,54,55], [], 1, 1⟩, ⟨[50,51,52,53,54,55], [], 1, 1⟩, ⟨[50,51,52,53,54,55], [], 1, 1⟩, ⟨[50,51,52,53,54,55], [], 1, 1⟩, ⟨[43,44,45,46,47,48,49,52], [], 1, 1⟩, ⟨[43,44,45,46,47,48,49,52], [0], 1, 1⟩, ⟨[43,44,45,46,47,48,49,50,51], [], 1, 1⟩, ⟨[43,44,45,46,47,48,49], [], 1, 1⟩, ⟨[43,44,45,46,47,48,49], [], 1, 1⟩, ⟨[43,44,45,46,47,48,49], [], 1, 1⟩, ⟨[], [], 1, 1⟩, ⟨[], [], 1, 1⟩, ⟨[], [], 1, 1⟩] ⟨by kernel_rfl, by kernel_rfl, rfl⟩ ?_
    refine vge (n := ((i3 : Nat) : Int)) (hi := (a0.Papers.length : Int)) (by omega) (by omega) ?_
    have hF := ltE hF
    refine bdE hF (fun y12 hy12 hF => ?_)
    refine callG [] (s_l21PaperOk_c hy12) ⟨mv rfl, tv⟩ tv rfl ?_
    refine vif hF (fun _ hF => ?_) (fun _ hF => ?_)
    ·refine Dz.tt (b := true) rfl rfl ?_
     refine Dz.seq (Dz.reg (Dz.ret ?_))
     cases hF
     exact finG [] [] rfl rfl (mv rfl) tv rfl
    ·refine vge (n := ((i3 : Nat) : Int)) (hi := (a0.Papers.length : Int)) (by omega) (by omega) ?_
     refine vif hF (fun _ hF => ?_) (fun _ hF => ?_)
     ·refine Dz.tt (b := true) rfl rfl ?_
      refine Dz.seq (Dz.reg (Dz.ret ?_))
      cases hF
      exact finG [] [] rfl rfl (mv rfl) tv rfl
     ·refine vif hF (fun _ hF => ?_) (fun _ hF => ?_)
      ·refine ⟨(((i3 : Nat) : Int) - 1), wrap64 (by omega) (by omega), ?_⟩
       refine vix hF (fun _ _ hF => ?_)
       refine vge (n := ((i3 : Nat) : Int)) (hi := (a0.Papers.length : Int)) (by omega) (by omega) ?_
       refine Dz.ite rfl hF (fun _ hF => ?_) (fun _ hF => ?_)
       ·refine Dz.seq (Dz.reg (Dz.ret ?_))
        cases hF
        exact finG [] [] rfl rfl (mv rfl) tv rfl
       ·refine Dz.skip (Dz.reg ?_)
        refine vsucc (by omega) ?_
        exact ⟨(), entG [0] ⟨mp rfl, mv rfl, tv⟩ ⟨⟨rfl, o_box rfl⟩, tv⟩ rfl, hF⟩
      ·refine Dz.ff (b := false) rfl rfl ?_
       refine Dz.skip (Dz.reg ?_)
       refine vsucc (by omega) ?_
       exact ⟨(), entG [0] ⟨mp rfl, mv rfl, tv⟩ ⟨⟨rfl, o_box rfl⟩, tv⟩ rfl, hF⟩
def s_l3Before (a0 : BlkPiece) (a1 : Int) (a2 : Int) (a3 : Int) : Option (Bool) :=
 cond (!decide (a0.Disk = a1)) (some (decide (a0.Disk < a1))) (cond (!decide (a0.Block = a2)) (some (decide (a0.Block < a2))) (some (decide (a0.Epoch < a3))))
theorem s_l3Before_c {a0 : BlkPiece} {a1 : Int} {a2 : Int} {a3 : Int} {r : Bool} (hF : s_l3Before a0 a1 a2 a3 = some r) : Con Tryz.prog 115 [.val true (BlkPiece.L a0), vint .i64 a1, vint .i64 a2, vint .i64 a3] [] (vbool r) [] := by
 refine Con.of_Dz tabOk Tryz.func115 rfl rfl rfl ?_
 delta s_l3Before at hF
 refine Dz.seq (Dz.reg (Dz.seq (Dz.seq (Dz.reg ?_))))
 refine Dz.ite rfl hF (fun _ hF => ?_) (fun _ hF => ?_)
 ·refine Dz.seq (Dz.reg (Dz.ret ?_))
  cases hF
  exact finG [] [] rfl rfl (mv rfl) tv rfl
 ·refine Dz.skip (Dz.seq (Dz.seq (Dz.reg ?_)))
  refine Dz.ite rfl hF (fun _ hF => ?_) (fun _ hF => ?_)
  ·refine Dz.seq (Dz.reg (Dz.ret ?_))
   cases hF
   exact finG [] [] rfl rfl (mv rfl) tv rfl
  ·refine Dz.skip (Dz.seq (Dz.reg (Dz.ret ?_)))
   cases hF
   exact finG [] [] rfl rfl (mv rfl) tv rfl
def s_BlkOk (a0 : (List BlkPiece)) : Option (Bool) :=
 cond (decide ((60 : Int) < ((a0.length : Nat) : Int))) (some false) (loopN (fun i2 (v11 : Unit) κ12 => lt (a0.getD i2 default) (fun x14 => (s_l6In x14.Disk 1 99999).bind (fun y15 => cond (!y15) (some false) ((s_l6In x14.Block 0 99999).bind (fun y16 => cond (!y16) (some false) ((s_l6In x14.Epoch 1 99999).bind (fun y17 => cond (!y17) (some false) ((s_l6In x14.Data 0 99999).bind (fun y18 => cond (!y18) (some false) (cond (decide ((0 : Int) < ((i2 : Nat) : Int))) (ix a0 (((i2 : Nat) : Int) - 1) (fun x19 => (s_l3Before x19 x14.Disk x14.Block x14.Epoch).bind (fun y20 => cond (!y20) (some false) (κ12 ())))) (κ12 ()))))))))))) (fun (v11 : Unit) => some true) a0.length 0 ())
theorem s_BlkOk_c {t0_0 : Bool} {a0 : (List BlkPiece)} {r : Bool} (hF : s_BlkOk a0 = some r) : Con Tryz.prog 70 [.val false [.u (ul BlkPiece.c 4 t0_0 a0)]] [] (vbool r) [] := by
 refine Con.of_Dz tabOk Tryz.func70 rfl rfl rfl ?_
 delta s_BlkOk at hF
 refine Dz.seq (Dz.reg (Dz.seq (Dz.seq (Dz.reg ?_))))
 intro hb1; replace hb1 : a0.length ≤ 140737488355328 := hb1
 refine Dz.ite rfl hF (fun _ hF => ?_) (fun _ hF => ?_)
 ·refine Dz.seq (Dz.reg (Dz.ret ?_))
  cases hF
  exact finG [] [] rfl rfl (mv rfl) tv rfl
 ·refine Dz.skip (Dz.seq (Dz.seq (Dz.reg (Dz.blk ?_))))
  refine Dz.cnt hF (fun i2 v11 => ([(0, .val false [.u (ul BlkPiece.c 4 t0_0 a0)]), (3, vint .i64 ((i2 : Nat) : Int))], [])) (entG [] ⟨mv rfl, mv rfl, tv⟩ tv rfl) (fun v11 hF => ?_) (fun i2 v11 κ12 hi0i2 hi1i2 hF => ?_)
  ·refine Dz.seq (Dz.seq (Dz.reg ?_))
   intro hb21; replace hb21 : a0.length ≤ 140737488355328 := hb21
   refine Dz.ff (b := decide (((0 + a0.length : Nat) : Int) < ((a0.length : Nat) : Int))) rfl (decide_eq_false (by omega)) ?_
   refine Dz.exit (Dz.seq (Dz.reg (Dz.ret ?_)))
   cases hF
   exact finG [] [] rfl rfl (mv rfl) tv rfl
  ·refine Dz.seq (Dz.seq (Dz.reg ?_))
   intro hb13; replace hb13 : a0.length ≤ 140737488355328 := hb13
   refine Dz.tt (b := decide (((i2 : Nat) : Int) < ((a0.length : Nat) : Int))) rfl (decide_eq_true (by omega)) ?_
   refine Dz.skip (Dz.seq (Dz.blk (Dz.seq (Dz.reg ?_))))
   refine vge (n := ((i2 : Nat) : Int)) (hi := (a0.length : Int)) (by omega) (by omega) ?_
   have hF := ltE hF
   refine Dz.seq (Dz.seq (Dz.reg ?_))
   refine bdE hF (fun y15 hy15 hF => ?_)
   refine callG [] (s_l6In_c hy15) ⟨mv rfl, mv rfl, mv rfl, tv⟩ tv rfl ?_
   refine vif hF (fun _ hF => ?_) (fun _ hF => ?_)
   ·refine Dz.tt (b := true) rfl rfl ?_
    refine Dz.seq (Dz.reg (Dz.ret ?_))
    cases hF
    exact finG [] [] rfl rfl (mv rfl) tv rfl
   ·refine bdE hF (fun y16 hy16 hF => ?_)
    refine callG [] (s_l6In_c hy16) ⟨mv rfl, mv rfl, mv rfl, tv⟩ tv rfl ?_
    refine vif hF (fun _ hF => ?_) (fun _ hF => ?_)
    ·refine Dz.tt (b := true) rfl rfl ?_
     refine Dz.seq (Dz.reg (Dz.ret ?_))
     cases hF
     exact finG [] [] rfl rfl (mv rfl) tv rfl
    ·refine bdE hF (fun y17 hy17 hF => ?_)
     refine callG [] (s_l6In_c hy17) ⟨mv rfl, mv rfl, mv rfl, tv⟩ tv rfl ?_
     refine vif hF (fun _ hF => ?_) (fun _ hF => ?_)
     ·refine Dz.tt (b := true) rfl rfl ?_
      refine Dz.seq (Dz.reg (Dz.ret ?_))
      cases hF
      exact finG [] [] rfl rfl (mv rfl) tv rfl
     ·refine bdE hF (fun y18 hy18 hF => ?_)
      refine callG [] (s_l6In_c hy18) ⟨mv rfl, mv rfl, mv rfl, tv⟩ tv rfl ?_
      refine Dz.ite rfl hF (fun _ hF => ?_) (fun _ hF => ?_)
      ·refine Dz.seq (Dz.reg (Dz.ret ?_))
       cases hF
       exact finG [] [] rfl rfl (mv rfl) tv rfl
      ·refine Dz.skip (Dz.seq ?_)
       refine Dz.drw 1 [⟨[], [], 1, 1⟩, ⟨[], [], 1, 1⟩, ⟨[], [], 1, 1⟩, ⟨[44,45,48,49,50,51,52,53], [], 1, 1⟩, ⟨[43,48,49,50,51,52,53], [], 1, 1⟩, ⟨[43,48,49,50,51,52,53], [], 1, 1⟩, ⟨[48,49,50,51,52,53], [], 1, 1⟩, ⟨[48,49,50,51,52,53], [], 1, 1⟩, ⟨[43,44,45,46,47,50,51,52,53], [], 1, 1⟩, ⟨[43,44,45,46,47,50,51,52,53], [0], 1, 1⟩, ⟨[43,44,45,46,47,48,49,52,53], [], 1, 1⟩, ⟨[43,44,45,46,47,48,49,52,53], [0], 1, 1⟩, ⟨[43,44,45,46,47,48,49,50,51], [], 1, 1⟩, ⟨[43,44,45,46,47,48,49,50,51], [0], 1, 1⟩, ⟨[], [], 1, 1⟩, ⟨[], [], 1, 1⟩, ⟨[], [], 1, 1⟩] ⟨by kernel_rfl, by kernel_rfl, rfl⟩ ?_
       refine vif hF (fun _ hF => ?_) (fun _ hF => ?_)
       ·refine ⟨(((i2 : Nat) : Int) - 1), wrap64 (by omega) (by omega), ?_⟩
        refine vix hF (fun _ _ hF => ?_)
        refine bdE hF (fun y20 hy20 hF => ?_)
        refine callG [] (s_l3Before_c hy20) ⟨mv rfl, mv rfl, mv rfl, mv rfl, tv⟩ tv rfl ?_
        refine Dz.ite rfl hF (fun _ hF => ?_) (fun _ hF => ?_)
        ·refine Dz.seq (Dz.reg (Dz.ret ?_))
         cases hF
         exact finG [] [] rfl rfl (mv rfl) tv rfl
        ·refine Dz.skip (Dz.reg ?_)
         refine vsucc (by omega) ?_
         exact ⟨(), entG [] ⟨mv rfl, mv rfl, tv⟩ tv rfl, hF⟩
       ·refine Dz.ff (b := false) rfl rfl ?_
        refine Dz.skip (Dz.reg ?_)
        refine vsucc (by omega) ?_
        exact ⟨(), entG [] ⟨mv rfl, mv rfl, tv⟩ tv rfl, hF⟩
def s_l3LastOk (a0 : (List BlkLast)) : Option (Bool) :=
 cond (decide ((4 : Int) < ((a0.length : Nat) : Int))) (some false) (loopN (fun i2 (v7 : Unit) κ8 => (s_l6In ((a0.getD i2 default).Client) 0 3).bind (fun y10 => cond (!y10) (some false) ((s_l6In ((a0.getD i2 default).Call) 1 99999).bind (fun y11 => cond (!y11) (some false) (cond (decide ((0 : Int) < ((i2 : Nat) : Int))) (ix a0 (((i2 : Nat) : Int) - 1) (fun x12 => cond (decide ((a0.getD i2 default).Client ≤ x12.Client)) (some false) (κ8 ()))) (κ8 ())))))) (fun (v7 : Unit) => some true) a0.length 0 ())
theorem s_l3LastOk_c {t0_0 : Bool} {a0 : (List BlkLast)} {r : Bool} (hF : s_l3LastOk a0 = some r) : Con Tryz.prog 71 [.val false [.u (ul BlkLast.c 2 t0_0 a0)]] [] (vbool r) [] := by
 refine Con.of_Dz tabOk Tryz.func71 rfl rfl rfl ?_
 delta s_l3LastOk at hF
 refine Dz.seq (Dz.reg (Dz.seq (Dz.seq (Dz.reg ?_))))
 intro hb1; replace hb1 : a0.length ≤ 140737488355328 := hb1
 refine Dz.ite rfl hF (fun _ hF => ?_) (fun _ hF => ?_)
 ·refine Dz.seq (Dz.reg (Dz.ret ?_))
  cases hF
  exact finG [] [] rfl rfl (mv rfl) tv rfl
 ·refine Dz.skip (Dz.seq (Dz.seq (Dz.reg (Dz.blk ?_))))
  refine Dz.cnt hF (fun i2 v7 => ([(0, .val false [.u (ul BlkLast.c 2 t0_0 a0)]), (3, vint .i64 ((i2 : Nat) : Int))], [])) (entG [] ⟨mv rfl, mv rfl, tv⟩ tv rfl) (fun v7 hF => ?_) (fun i2 v7 κ8 hi0i2 hi1i2 hF => ?_)
  ·refine Dz.seq (Dz.seq (Dz.reg ?_))
   intro hb13; replace hb13 : a0.length ≤ 140737488355328 := hb13
   refine Dz.ff (b := decide (((0 + a0.length : Nat) : Int) < ((a0.length : Nat) : Int))) rfl (decide_eq_false (by omega)) ?_
   refine Dz.exit (Dz.seq (Dz.reg (Dz.ret ?_)))
   cases hF
   exact finG [] [] rfl rfl (mv rfl) tv rfl
  ·refine Dz.seq (Dz.seq (Dz.reg ?_))
   intro hb9; replace hb9 : a0.length ≤ 140737488355328 := hb9
   refine Dz.tt (b := decide (((i2 : Nat) : Int) < ((a0.length : Nat) : Int))) rfl (decide_eq_true (by omega)) ?_
   refine Dz.skip (Dz.seq (Dz.blk (Dz.seq ?_)))
   refine Dz.drw 0 [⟨[14], [], 0, 0⟩, ⟨[13], [], 0, 0⟩, ⟨[], [], 0, 0⟩, ⟨[], [], 0, 0⟩, ⟨[], [], 0, 0⟩, ⟨[], [], 0, 0⟩, ⟨[], [], 0, 0⟩, ⟨[], [], 0, 0⟩, ⟨[22], [], 0, 0⟩, ⟨[21], [], 0, 0⟩, ⟨[], [], 0, 0⟩, ⟨[], [], 0, 0⟩, ⟨[], [], 0, 0⟩, ⟨[], [], 0, 0⟩, ⟨[], [], 0, 0⟩, ⟨[], [], 0, 0⟩, ⟨[], [], 0, 0⟩, ⟨[], [], 0, 0⟩, ⟨[], [], 0, 0⟩, ⟨[], [], 0, 0⟩, ⟨[34,35,39,40,41,42,43], [], 0, 0⟩, ⟨[33,39,40,41,42,43], [], 0, 0⟩, ⟨[33,39,40,41,42,43], [], 0, 0⟩, ⟨[39,40,41,42,43], [], 0, 0⟩, ⟨[39,40,41,42,43], [], 0, 0⟩, ⟨[39,40,41,42,43], [], 0, 0⟩, ⟨[33,34,35,36,37,38,40], [], 0, 0⟩, ⟨[33,34,35,36,37,38,39], [], 0, 0⟩, ⟨[33,34,35,36,37,38], [], 0, 0⟩, ⟨[33,34,35,36,37,38], [], 0, 0⟩, ⟨[33,34,35,36,37,38], [], 0, 0⟩, ⟨[], [], 0, 0⟩, ⟨[], [], 0, 0⟩, ⟨[], [], 0, 0⟩] ⟨by kernel_rfl, by kernel_rfl, rfl⟩ ?_
   refine vge (n := ((i2 : Nat) : Int)) (hi := (a0.length : Int)) (by omega) (by omega) ?_
   refine bdE hF (fun y10 hy10 hF => ?_)
   refine callG [] (s_l6In_c hy10) ⟨mv rfl, mv rfl, mv rfl, tv⟩ tv rfl ?_
   refine vif hF (fun _ hF => ?_) (fun _ hF => ?_)
   ·refine Dz.tt (b := true) rfl rfl ?_
    refine Dz.seq (Dz.reg (Dz.ret ?_))
    cases hF
    exact finG [] [] rfl rfl (mv rfl) tv rfl
   ·refine vge (n := ((i2 : Nat) : Int)) (hi := (a0.length : Int)) (by omega) (by omega) ?_
    refine bdE hF (fun y11 hy11 hF => ?_)
    refine callG [] (s_l6In_c hy11) ⟨mv rfl, mv rfl, mv rfl, tv⟩ tv rfl ?_
    refine vif hF (fun _ hF => ?_) (fun _ hF => ?_)
    ·refine Dz.tt (b := true) rfl rfl ?_
     refine Dz.seq (Dz.reg (Dz.ret ?_))
     cases hF
     exact finG [] [] rfl rfl (mv rfl) tv rfl
    ·refine vif hF (fun _ hF => ?_) (fun _ hF => ?_)
     ·refine ⟨(((i2 : Nat) : Int) - 1), wrap64 (by omega) (by omega), ?_⟩
      refine vix hF (fun _ _ hF => ?_)
      refine vge (n := ((i2 : Nat) : Int)) (hi := (a0.length : Int)) (by omega) (by omega) ?_
      refine Dz.ite rfl hF (fun _ hF => ?_) (fun _ hF => ?_)
      ·refine Dz.seq (Dz.reg (Dz.ret ?_))
       cases hF
       exact finG [] [] rfl rfl (mv rfl) tv rfl
      ·refine Dz.skip (Dz.reg ?_)
       refine vsucc (by omega) ?_
       exact ⟨(), entG [] ⟨mv rfl, mv rfl, tv⟩ tv rfl, hF⟩
     ·refine Dz.ff (b := false) rfl rfl ?_
      refine Dz.skip (Dz.reg ?_)
      refine vsucc (by omega) ?_
      exact ⟨(), entG [] ⟨mv rfl, mv rfl, tv⟩ tv rfl, hF⟩
def s_l51BusyOk (a0 : (List SrvBusy)) : Option (Bool) :=
 cond (decide ((60 : Int) < ((a0.length : Nat) : Int))) (some false) (loopN (fun i2 (v11 : Unit) κ12 => lt (a0.getD i2 default) (fun x14 => (s_l6In x14.Client 0 3).bind (fun y15 => cond (!y15) (some false) ((s_l6In x14.Call 1 99999).bind (fun y16 => cond (!y16) (some false) ((s_l6In x14.Disk 1 99999).bind (fun y17 => cond (!y17) (some false) ((s_l6In x14.Block 0 99999).bind (fun y18 => cond (!y18) (some false) ((s_l6In x14.Epoch 1 99999).bind (fun y19 => cond (!y19) (some false) ((s_l6In x14.Data 0 99999).bind (fun y20 => cond (!y20) (some false) (κ12 ())))))))))))))) (fun (v11 : Unit) => some true) a0.length 0 ())
theorem s_l51BusyOk_c {t0_0 : Bool} {a0 : (List SrvBusy)} {r : Bool} (hF : s_l51BusyOk a0 = some r) : Con Tryz.prog 114 [.val false [.u (ul SrvBusy.c 6 t0_0 a0)]] [] (vbool r) [] := by
 refine Con.of_Dz tabOk Tryz.func114 rfl rfl rfl ?_
 delta s_l51BusyOk at hF
 refine Dz.seq (Dz.reg (Dz.seq (Dz.seq (Dz.reg ?_))))
 intro hb1; replace hb1 : a0.length ≤ 140737488355328 := hb1
 refine Dz.ite rfl hF (fun _ hF => ?_) (fun _ hF => ?_)
 ·refine Dz.seq (Dz.reg (Dz.ret ?_))
  cases hF
  exact finG [] [] rfl rfl (mv rfl) tv rfl
 ·refine Dz.skip (Dz.seq (Dz.seq (Dz.reg (Dz.blk ?_))))
  refine Dz.cnt hF (fun i2 v11 => ([(0, .val false [.u (ul SrvBusy.c 6 t0_0 a0)]), (3, vint .i64 ((i2 : Nat) : Int))], [])) (entG [] ⟨mv rfl, mv rfl, tv⟩ tv rfl) (fun v11 hF => ?_) (fun i2 v11 κ12 hi0i2 hi1i2 hF => ?_)
  ·refine Dz.seq (Dz.seq (Dz.reg ?_))
   intro hb21; replace hb21 : a0.length ≤ 140737488355328 := hb21
   refine Dz.ff (b := decide (((0 + a0.length : Nat) : Int) < ((a0.length : Nat) : Int))) rfl (decide_eq_false (by omega)) ?_
   refine Dz.exit (Dz.seq (Dz.reg (Dz.ret ?_)))
   cases hF
   exact finG [] [] rfl rfl (mv rfl) tv rfl
  ·refine Dz.seq (Dz.seq (Dz.reg ?_))
   intro hb13; replace hb13 : a0.length ≤ 140737488355328 := hb13
   refine Dz.tt (b := decide (((i2 : Nat) : Int) < ((a0.length : Nat) : Int))) rfl (decide_eq_true (by omega)) ?_
   refine Dz.skip (Dz.seq (Dz.blk (Dz.seq (Dz.reg ?_))))
   refine vge (n := ((i2 : Nat) : Int)) (hi := (a0.length : Int)) (by omega) (by omega) ?_
   have hF := ltE hF
   refine Dz.seq (Dz.reg ?_)
   refine bdE hF (fun y15 hy15 hF => ?_)
   refine callG [] (s_l6In_c hy15) ⟨mv rfl, mv rfl, mv rfl, tv⟩ tv rfl ?_
   refine vif hF (fun _ hF => ?_) (fun _ hF => ?_)
   ·refine Dz.tt (b := true) rfl rfl ?_
    refine Dz.seq (Dz.reg (Dz.ret ?_))
    cases hF
    exact finG [] [] rfl rfl (mv rfl) tv rfl
   ·refine bdE hF (fun y16 hy16 hF => ?_)
    refine callG [] (s_l6In_c hy16) ⟨mv rfl, mv rfl, mv rfl, tv⟩ tv rfl ?_
    refine vif hF (fun _ hF => ?_) (fun _ hF => ?_)
    ·refine Dz.tt (b := true) rfl rfl ?_
     refine Dz.seq (Dz.reg (Dz.ret ?_))
     cases hF
     exact finG [] [] rfl rfl (mv rfl) tv rfl
    ·refine bdE hF (fun y17 hy17 hF => ?_)
     refine callG [] (s_l6In_c hy17) ⟨mv rfl, mv rfl, mv rfl, tv⟩ tv rfl ?_
     refine vif hF (fun _ hF => ?_) (fun _ hF => ?_)
     ·refine Dz.tt (b := true) rfl rfl ?_
      refine Dz.seq (Dz.reg (Dz.ret ?_))
      cases hF
      exact finG [] [] rfl rfl (mv rfl) tv rfl
     ·refine bdE hF (fun y18 hy18 hF => ?_)
      refine callG [] (s_l6In_c hy18) ⟨mv rfl, mv rfl, mv rfl, tv⟩ tv rfl ?_
      refine vif hF (fun _ hF => ?_) (fun _ hF => ?_)
      ·refine Dz.tt (b := true) rfl rfl ?_
       refine Dz.seq (Dz.reg (Dz.ret ?_))
       cases hF
       exact finG [] [] rfl rfl (mv rfl) tv rfl
      ·refine bdE hF (fun y19 hy19 hF => ?_)
       refine callG [] (s_l6In_c hy19) ⟨mv rfl, mv rfl, mv rfl, tv⟩ tv rfl ?_
       refine vif hF (fun _ hF => ?_) (fun _ hF => ?_)
       ·refine Dz.tt (b := true) rfl rfl ?_
        refine Dz.seq (Dz.reg (Dz.ret ?_))
        cases hF
        exact finG [] [] rfl rfl (mv rfl) tv rfl
       ·refine bdE hF (fun y20 hy20 hF => ?_)
        refine callG [] (s_l6In_c hy20) ⟨mv rfl, mv rfl, mv rfl, tv⟩ tv rfl ?_
        refine Dz.ite rfl hF (fun _ hF => ?_) (fun _ hF => ?_)
        ·refine Dz.seq (Dz.reg (Dz.ret ?_))
         cases hF
         exact finG [] [] rfl rfl (mv rfl) tv rfl
        ·refine Dz.skip (Dz.reg ?_)
         refine vsucc (by omega) ?_
         exact ⟨(), entG [] ⟨mv rfl, mv rfl, tv⟩ tv rfl, hF⟩
def s_l51CopiesOk (a0 : (List SrvCopy)) : Option (Bool) :=
 cond (decide ((3 : Int) < ((a0.length : Nat) : Int))) (some false) (loopN (fun i2 (v17 : Unit) κ18 => lt (a0.getD i2 default) (fun x20 => (s_l6In x20.Range 0 2).bind (fun y21 => cond (!y21) (some false) (cond (decide ((0 : Int) < ((i2 : Nat) : Int))) (ix a0 (((i2 : Nat) : Int) - 1) (fun x22 => cond (decide (x20.Range ≤ x22.Range)) (some false) ((s_l6In x20.Valid 0 99999).bind (fun y23 => cond (!y23) (some false) ((s_l6In x20.Asked 0 99999).bind (fun y24 => cond (!y24) (some false) ((s_BlkOk x20.Pieces).bind (fun y25 => cond (!y25) (some false) ((s_l3LastOk x20.Last).bind (fun y26 => cond (!y26) (some false) ((s_l51BusyOk x20.Busy).bind (fun y27 => cond (!y27) (some false) (κ18 ()))))))))))))) ((s_l6In x20.Valid 0 99999).bind (fun y28 => cond (!y28) (some false) ((s_l6In x20.Asked 0 99999).bind (fun y29 => cond (!y29) (some false) ((s_BlkOk x20.Pieces).bind (fun y30 => cond (!y30) (some false) ((s_l3LastOk x20.Last).bind (fun y31 => cond (!y31) (some false) ((s_l51BusyOk x20.Busy).bind (fun y32 => cond (!y32) (some false) (κ18 ()))))))))))))))) (fun (v17 : Unit) => some true) a0.length 0 ())
theorem s_l51CopiesOk_c {t0_0 : Bool} {a0 : (List SrvCopy)} {r : Bool} (hF : s_l51CopiesOk a0 = some r) : Con Tryz.prog 63 [.val false [.u (ul SrvCopy.c 6 t0_0 a0)]] [] (vbool r) [] := by
 refine Con.of_Dz tabOk Tryz.func63 rfl rfl rfl ?_
 delta s_l51CopiesOk at hF
 refine Dz.seq (Dz.reg (Dz.seq (Dz.seq (Dz.reg ?_))))
 intro hb1; replace hb1 : a0.length ≤ 140737488355328 := hb1
 refine Dz.ite rfl hF (fun _ hF => ?_) (fun _ hF => ?_)
 ·refine Dz.seq (Dz.reg (Dz.ret ?_))
  cases hF
  exact finG [] [] rfl rfl (mv rfl) tv rfl
 ·refine Dz.skip (Dz.seq (Dz.seq (Dz.reg (Dz.blk ?_))))
  refine Dz.cnt hF (fun i2 v17 => ([(0, .val false [.u (ul SrvCopy.c 6 t0_0 a0)]), (3, vint .i64 ((i2 : Nat) : Int))], [])) (entG [] ⟨mv rfl, mv rfl, tv⟩ tv rfl) (fun v17 hF => ?_) (fun i2 v17 κ18 hi0i2 hi1i2 hF => ?_)
  ·refine Dz.seq (Dz.seq (Dz.reg ?_))
   intro hb33; replace hb33 : a0.length ≤ 140737488355328 := hb33
   refine Dz.ff (b := decide (((0 + a0.length : Nat) : Int) < ((a0.length : Nat) : Int))) rfl (decide_eq_false (by omega)) ?_
   refine Dz.exit (Dz.seq (Dz.reg (Dz.ret ?_)))
   cases hF
   exact finG [] [] rfl rfl (mv rfl) tv rfl
  ·refine Dz.seq (Dz.seq (Dz.reg ?_))
   intro hb19; replace hb19 : a0.length ≤ 140737488355328 := hb19
   refine Dz.tt (b := decide (((i2 : Nat) : Int) < ((a0.length : Nat) : Int))) rfl (decide_eq_true (by omega)) ?_
   refine Dz.skip (Dz.seq (Dz.blk (Dz.seq (Dz.reg ?_))))
   refine vge (n := ((i2 : Nat) : Int)) (hi := (a0.length : Int)) (by omega) (by omega) ?_
   have hF := ltE hF
   refine Dz.seq ?_
   refine Dz.drw 1 [⟨[], [], 1, 1⟩, ⟨[], [0], 1, 1⟩, ⟨[], [], 1, 1⟩, ⟨[], [], 1, 1⟩, ⟨[], [], 1, 1⟩, ⟨[], [], 1, 1⟩, ⟨[], [], 1, 1⟩, ⟨[], [], 1, 1⟩, ⟨[27,28,32,33], [], 1, 1⟩, ⟨[26,32,33], [], 1, 1⟩, ⟨[26,32,33], [], 1, 1⟩, ⟨[32,33], [], 1, 1⟩, ⟨[32,33], [], 1, 1⟩, ⟨[32,33], [], 1, 1⟩, ⟨[26,27,28,29,30,31], [], 1, 1⟩, ⟨[26,27,28,29,30,31], [0], 1, 1⟩, ⟨[], [], 1, 1⟩, ⟨[], [], 1, 1⟩, ⟨[], [], 1, 1⟩, ⟨[], [], 1, 1⟩, ⟨[], [], 1, 1⟩, ⟨[], [0], 1, 1⟩, ⟨[], [], 1, 1⟩, ⟨[], [], 1, 1⟩, ⟨[], [], 1, 1⟩, ⟨[], [], 1, 1⟩, ⟨[], [], 1, 1⟩, ⟨[], [0], 1, 1⟩, ⟨[], [], 1, 1⟩, ⟨[], [], 1, 1⟩, ⟨[], [], 1, 1⟩, ⟨[], [], 1, 1⟩, ⟨[], [], 1, 1⟩, ⟨[], [0], 1, 1⟩, ⟨[], [], 1, 1⟩, ⟨[], [], 1, 1⟩, ⟨[], [], 1, 1⟩, ⟨[], [], 1, 1⟩, ⟨[], [], 1, 1⟩, ⟨[], [0], 1, 1⟩, ⟨[], [], 1, 1⟩, ⟨[], [], 1, 1⟩, ⟨[], [], 1, 1⟩, ⟨[], [], 1, 1⟩, ⟨[], [], 1, 1⟩, ⟨[], [0], 1, 1⟩, ⟨[], [], 1, 1⟩, ⟨[], [], 1, 1⟩, ⟨[], [], 1, 1⟩] ⟨by kernel_rfl, by kernel_rfl, rfl⟩ ?_
   refine bdE hF (fun y21 hy21 hF => ?_)
   refine callG [] (s_l6In_c hy21) ⟨mv rfl, mv rfl, mv rfl, tv⟩ tv rfl ?_
   refine vif hF (fun _ hF => ?_) (fun _ hF => ?_)
   ·refine Dz.tt (b := true) rfl rfl ?_
    refine Dz.seq (Dz.reg (Dz.ret ?_))
    cases hF
    exact finG [] [] rfl rfl (mv rfl) tv rfl
   ·refine vif hF (fun _ hF => ?_) (fun _ hF => ?_)
    ·refine ⟨(((i2 : Nat) : Int) - 1), wrap64 (by omega) (by omega), ?_⟩
     refine vix hF (fun _ _ hF => ?_)
     refine vif hF (fun _ hF => ?_) (fun _ hF => ?_)
     ·refine Dz.tt (b := true) rfl rfl ?_
      refine Dz.seq (Dz.reg (Dz.ret ?_))
      cases hF
      exact finG [] [] rfl rfl (mv rfl) tv rfl
     ·refine bdE hF (fun y23 hy23 hF => ?_)
      refine callG [] (s_l6In_c hy23) ⟨mv rfl, mv rfl, mv rfl, tv⟩ tv rfl ?_
      refine vif hF (fun _ hF => ?_) (fun _ hF => ?_)
      ·refine Dz.tt (b := true) rfl rfl ?_
       refine Dz.seq (Dz.reg (Dz.ret ?_))
       cases hF
       exact finG [] [] rfl rfl (mv rfl) tv rfl
      ·refine bdE hF (fun y24 hy24 hF => ?_)
       refine callG [] (s_l6In_c hy24) ⟨mv rfl, mv rfl, mv rfl, tv⟩ tv rfl ?_
       refine vif hF (fun _ hF => ?_) (fun _ hF => ?_)
       ·refine Dz.tt (b := true) rfl rfl ?_
        refine Dz.seq (Dz.reg (Dz.ret ?_))
        cases hF
        exact finG [] [] rfl rfl (mv rfl) tv rfl
       ·refine bdE hF (fun y25 hy25 hF => ?_)
        refine callG [] (s_BlkOk_c hy25) ⟨mv rfl, tv⟩ tv rfl ?_
        refine vif hF (fun _ hF => ?_) (fun _ hF => ?_)
        ·refine Dz.tt (b := true) rfl rfl ?_
         refine Dz.seq (Dz.reg (Dz.ret ?_))
         cases hF
         exact finG [] [] rfl rfl (mv rfl) tv rfl
        ·refine bdE hF (fun y26 hy26 hF => ?_)
         refine callG [] (s_l3LastOk_c hy26) ⟨mv rfl, tv⟩ tv rfl ?_
         refine vif hF (fun _ hF => ?_) (fun _ hF => ?_)
         ·refine Dz.tt (b := true) rfl rfl ?_
          refine Dz.seq (Dz.reg (Dz.ret ?_))
          cases hF
          exact finG [] [] rfl rfl (mv rfl) tv rfl
         ·refine bdE hF (fun y27 hy27 hF => ?_)
          refine callG [] (s_l51BusyOk_c hy27) ⟨mv rfl, tv⟩ tv rfl ?_
          refine Dz.ite rfl hF (fun _ hF => ?_) (fun _ hF => ?_)
          ·refine Dz.seq (Dz.reg (Dz.ret ?_))
           cases hF
           exact finG [] [] rfl rfl (mv rfl) tv rfl
          ·refine Dz.skip (Dz.reg ?_)
           refine vsucc (by omega) ?_
           exact ⟨(), entG [] ⟨mv rfl, mv rfl, tv⟩ tv rfl, hF⟩
    ·refine bdE hF (fun y28 hy28 hF => ?_)
     refine callG [] (s_l6In_c hy28) ⟨mv rfl, mv rfl, mv rfl, tv⟩ tv rfl ?_
     refine vif hF (fun _ hF => ?_) (fun _ hF => ?_)
     ·refine Dz.tt (b := true) rfl rfl ?_
      refine Dz.seq (Dz.reg (Dz.ret ?_))
      cases hF
      exact finG [] [] rfl rfl (mv rfl) tv rfl
     ·refine bdE hF (fun y29 hy29 hF => ?_)
      refine callG [] (s_l6In_c hy29) ⟨mv rfl, mv rfl, mv rfl, tv⟩ tv rfl ?_
      refine vif hF (fun _ hF => ?_) (fun _ hF => ?_)
      ·refine Dz.tt (b := true) rfl rfl ?_
       refine Dz.seq (Dz.reg (Dz.ret ?_))
       cases hF
       exact finG [] [] rfl rfl (mv rfl) tv rfl
      ·refine bdE hF (fun y30 hy30 hF => ?_)
       refine callG [] (s_BlkOk_c hy30) ⟨mv rfl, tv⟩ tv rfl ?_
       refine vif hF (fun _ hF => ?_) (fun _ hF => ?_)
       ·refine Dz.tt (b := true) rfl rfl ?_
        refine Dz.seq (Dz.reg (Dz.ret ?_))
        cases hF
        exact finG [] [] rfl rfl (mv rfl) tv rfl
       ·refine bdE hF (fun y31 hy31 hF => ?_)
        refine callG [] (s_l3LastOk_c hy31) ⟨mv rfl, tv⟩ tv rfl ?_
        refine vif hF (fun _ hF => ?_) (fun _ hF => ?_)
        ·refine Dz.tt (b := true) rfl rfl ?_
         refine Dz.seq (Dz.reg (Dz.ret ?_))
         cases hF
         exact finG [] [] rfl rfl (mv rfl) tv rfl
        ·refine bdE hF (fun y32 hy32 hF => ?_)
         refine callG [] (s_l51BusyOk_c hy32) ⟨mv rfl, tv⟩ tv rfl ?_
         refine Dz.ite rfl hF (fun _ hF => ?_) (fun _ hF => ?_)
         ·refine Dz.seq (Dz.reg (Dz.ret ?_))
          cases hF
          exact finG [] [] rfl rfl (mv rfl) tv rfl
         ·refine Dz.skip (Dz.reg ?_)
          refine vsucc (by omega) ?_
          exact ⟨(), entG [] ⟨mv rfl, mv rfl, tv⟩ tv rfl, hF⟩
def s_SynSeekerOk (a0 : SynSeeker) : Option (Bool) :=
 cond (decide (a0.Phase = 0)) (cond (decide (a0.Slot = 0)) (cond (decide (a0.Ballot = 0)) (cond (decide (a0.Mine = ({ Kind := 0, Client := 0, Call := 0, Disk := 0, Arg := 0, Epoch := 0, Range := 0, Num := 0, A := 0, B := 0 } : Cmd))) (cond (decide (a0.Best = ({ Slot := 0, Ballot := 0, Cmd := ({ Kind := 0, Client := 0, Call := 0, Disk := 0, Arg := 0, Epoch := 0, Range := 0, Num := 0, A := 0, B := 0 } : Cmd) } : SynPaper))) (some (decide (((a0.Yes.length : Nat) : Int) = 0))) (some false)) (some false)) (some false)) (some false)) ((s_l6In a0.Slot 1 60).bind (fun y2 => cond (!y2) (some false) ((s_l6In a0.Ballot 1 99999).bind (fun y3 => cond (!y3) (some false) ((s_l6In a0.Phase 1 2).bind (fun y4 => cond (!y4) (some false) ((s_l11CmdOk a0.Mine).bind (fun y5 => cond (!y5) (some false) (cond (decide ((2 : Int) ≤ ((a0.Yes.length : Nat) : Int))) (some false) (loopN (fun i7 (v10 : Unit) κ11 => (s_l6In (a0.Yes.getD i7 default) 0 2).bind (fun y13 => cond (!y13) (some false) (κ11 ()))) (fun (v10 : Unit) => cond (decide (a0.Best = ({ Slot := 0, Ballot := 0, Cmd := ({ Kind := 0, Client := 0, Call := 0, Disk := 0, Arg := 0, Epoch := 0, Range := 0, Num := 0, A := 0, B := 0 } : Cmd) } : SynPaper))) (some true) ((s_l21PaperOk a0.Best).bind (fun y15 => cond y15 (cond (decide (a0.Best.Slot = a0.Slot)) (some (decide (a0.Best.Ballot < a0.Ballot))) (some false)) (some false)))) a0.Yes.length 0 ()))))))))))
theorem s_SynSeekerOk_c {t0_25 : Bool} {a0 : SynSeeker} {r : Bool} (hF : s_SynSeekerOk a0 = some r) : Con Tryz.prog 64 [.val true [.u (cI a0.Slot), .u (cI a0.Ballot), .u (cI a0.Phase), .u (cI a0.Mine.Kind), .u (cI a0.Mine.Client), .u (cI a0.Mine.Call), .u (cI a0.Mine.Disk), .u (cI a0.Mine.Arg), .u (cI a0.Mine.Epoch), .u (cI a0.Mine.Range), .u (cI a0.Mine.Num), .u (cI a0.Mine.A), .u (cI a0.Mine.B), .u (cI a0.Best.Slot), .u (cI a0.Best.Ballot), .u (cI a0.Best.Cmd.Kind), .u (cI a0.Best.Cmd.Client), .u (cI a0.Best.Cmd.Call), .u (cI a0.Best.Cmd.Disk), .u (cI a0.Best.Cmd.Arg), .u (cI a0.Best.Cmd.Epoch), .u (cI a0.Best.Cmd.Range), .u (cI a0.Best.Cmd.Num), .u (cI a0.Best.Cmd.A), .u (cI a0.Best.Cmd.B), .u (ul cInt 1 t0_25 a0.Yes)]] [] (vbool r) [] := by
 refine Con.of_Dz tabOk Tryz.func64 rfl rfl rfl ?_
 delta s_SynSeekerOk at hF
 refine Dz.seq (Dz.reg (Dz.seq (Dz.seq (Dz.reg ?_))))
 refine Dz.ite rfl hF (fun _ hF => ?_) (fun _ hF => ?_)
 ·refine Dz.seq (Dz.reg ?_)
  refine vif hF (fun _ hF => ?_) (fun _ hF => ?_)
  ·refine vif hF (fun _ hF => ?_) (fun _ hF => ?_)
   ·refine ⟨decide (a0.Mine = ({ Kind := 0, Client := 0, Call := 0, Disk := 0, Arg := 0, Epoch := 0, Range := 0, Num := 0, A := 0, B := 0 } : Cmd)), Cmd.eqd _ _, ?_⟩
    refine vif hF (fun _ hF => ?_) (fun _ hF => ?_)
    ·refine ⟨decide (a0.Best = ({ Slot := 0, Ballot := 0, Cmd := ({ Kind := 0, Client := 0, Call := 0, Disk := 0, Arg := 0, Epoch := 0, Range := 0, Num := 0, A := 0, B := 0 } : Cmd) } : SynPaper)), SynPaper.eqd _ _, ?_⟩
     refine vif hF (fun _ hF => ?_) (fun _ hF => ?_)
     ·intro hb1; replace hb1 : a0.Yes.length ≤ 140737488355328 := hb1
      refine Dz.ret ?_
      cases hF
      exact finG [] [] rfl rfl (mv rfl) tv rfl
     ·refine Dz.ret ?_
      cases hF
      exact finG [] [] rfl rfl (mv rfl) tv rfl
    ·refine Dz.ret ?_
     cases hF
     exact finG [] [] rfl rfl (mv rfl) tv rfl
   ·refine Dz.ret ?_
    cases hF
    exact finG [] [] rfl rfl (mv rfl) tv rfl
  ·refine Dz.ret ?_
   cases hF
   exact finG [] [] rfl rfl (mv rfl) tv rfl
 ·refine Dz.skip (Dz.seq (Dz.seq (Dz.reg ?_)))
  refine bdE hF (fun y2 hy2 hF => ?_)
  refine callG [] (s_l6In_c hy2) ⟨mv rfl, mv rfl, mv rfl, tv⟩ tv rfl ?_
  refine vif hF (fun _ hF => ?_) (fun _ hF => ?_)
  ·refine Dz.tt (b := true) rfl rfl ?_
   refine Dz.seq (Dz.reg (Dz.ret ?_))
   cases hF
   exact finG [] [] rfl rfl (mv rfl) tv rfl
  ·refine bdE hF (fun y3 hy3 hF => ?_)
   refine callG [] (s_l6In_c hy3) ⟨mv rfl, mv rfl, mv rfl, tv⟩ tv rfl ?_
   refine vif hF (fun _ hF => ?_) (fun _ hF => ?_)
   ·refine Dz.tt (b := true) rfl rfl ?_
    refine Dz.seq (Dz.reg (Dz.ret ?_))
    cases hF
    exact finG [] [] rfl rfl (mv rfl) tv rfl
   ·refine bdE hF (fun y4 hy4 hF => ?_)
    refine callG [] (s_l6In_c hy4) ⟨mv rfl, mv rfl, mv rfl, tv⟩ tv rfl ?_
    refine vif hF (fun _ hF => ?_) (fun _ hF => ?_)
    ·refine Dz.tt (b := true) rfl rfl ?_
     refine Dz.seq (Dz.reg (Dz.ret ?_))
     cases hF
     exact finG [] [] rfl rfl (mv rfl) tv rfl
    ·refine bdE hF (fun y5 hy5 hF => ?_)
     refine callG [] (s_l11CmdOk_c hy5) ⟨mv rfl, tv⟩ tv rfl ?_
     refine vif hF (fun _ hF => ?_) (fun _ hF => ?_)
     ·refine Dz.tt (b := true) rfl rfl ?_
      refine Dz.seq (Dz.reg (Dz.ret ?_))
      cases hF
      exact finG [] [] rfl rfl (mv rfl) tv rfl
     ·intro hb6; replace hb6 : a0.Yes.length ≤ 140737488355328 := hb6
      refine Dz.ite rfl hF (fun _ hF => ?_) (fun _ hF => ?_)
      ·refine Dz.seq (Dz.reg (Dz.ret ?_))
       cases hF
       exact finG [] [] rfl rfl (mv rfl) tv rfl
      ·refine Dz.skip (Dz.seq (Dz.seq (Dz.reg (Dz.blk ?_))))
       refine Dz.cnt hF (fun i7 v10 => ([(1, .ptr 0 0), (3, vint .i64 ((i7 : Nat) : Int))], [.box 60 [.u (cI a0.Slot), .u (cI a0.Ballot), .u (cI a0.Phase), .u (cI a0.Mine.Kind), .u (cI a0.Mine.Client), .u (cI a0.Mine.Call), .u (cI a0.Mine.Disk), .u (cI a0.Mine.Arg), .u (cI a0.Mine.Epoch), .u (cI a0.Mine.Range), .u (cI a0.Mine.Num), .u (cI a0.Mine.A), .u (cI a0.Mine.B), .u (cI a0.Best.Slot), .u (cI a0.Best.Ballot), .u (cI a0.Best.Cmd.Kind), .u (cI a0.Best.Cmd.Client), .u (cI a0.Best.Cmd.Call), .u (cI a0.Best.Cmd.Disk), .u (cI a0.Best.Cmd.Arg), .u (cI a0.Best.Cmd.Epoch), .u (cI a0.Best.Cmd.Range), .u (cI a0.Best.Cmd.Num), .u (cI a0.Best.Cmd.A), .u (cI a0.Best.Cmd.B), .u (ul cInt 1 t0_25 a0.Yes)]])) (entG [0] ⟨mp rfl, mv rfl, tv⟩ ⟨⟨rfl, o_box rfl⟩, tv⟩ rfl) (fun v10 hF => ?_) (fun i7 v10 κ11 hi0i7 hi1i7 hF => ?_)
       ·refine Dz.seq (Dz.seq (Dz.reg ?_))
        intro hb14; replace hb14 : a0.Yes.length ≤ 140737488355328 := hb14
        refine Dz.ff (b := decide (((0 + a0.Yes.length : Nat) : Int) < ((a0.Yes.length : Nat) : Int))) rfl (decide_eq_false (by omega)) ?_
        refine Dz.exit (Dz.seq (Dz.reg ?_))
        refine ⟨decide (a0.Best = ({ Slot := 0, Ballot := 0, Cmd := ({ Kind := 0, Client := 0, Call := 0, Disk := 0, Arg := 0, Epoch := 0, Range := 0, Num := 0, A := 0, B := 0 } : Cmd) } : SynPaper)), SynPaper.eqd _ _, ?_⟩
        refine vif hF (fun _ hF => ?_) (fun _ hF => ?_)
        ·refine Dz.ret ?_
         cases hF
         exact finG [] [] rfl rfl (mv rfl) tv rfl
        ·refine bdE hF (fun y15 hy15 hF => ?_)
         refine callG [] (s_l21PaperOk_c hy15) ⟨mv rfl, tv⟩ tv rfl ?_
         refine vif hF (fun _ hF => ?_) (fun _ hF => ?_)
         ·refine vif hF (fun _ hF => ?_) (fun _ hF => ?_)
          ·refine Dz.ret ?_
           cases hF
           exact finG [] [] rfl rfl (mv rfl) tv rfl
          ·refine Dz.ret ?_
           cases hF
           exact finG [] [] rfl rfl (mv rfl) tv rfl
         ·refine Dz.ret ?_
          cases hF
          exact finG [] [] rfl rfl (mv rfl) tv rfl
       ·refine Dz.seq (Dz.seq (Dz.reg ?_))
        intro hb12; replace hb12 : a0.Yes.length ≤ 140737488355328 := hb12
        refine Dz.tt (b := decide (((i7 : Nat) : Int) < ((a0.Yes.length : Nat) : Int))) rfl (decide_eq_true (by omega)) ?_
        refine Dz.skip (Dz.seq (Dz.blk (Dz.seq (Dz.reg ?_))))
        refine vge (n := ((i7 : Nat) : Int)) (hi := (a0.Yes.length : Int)) (by omega) (by omega) ?_
        refine bdE hF (fun y13 hy13 hF => ?_)
        refine callG [] (s_l6In_c hy13) ⟨mv rfl, mv rfl, mv rfl, tv⟩ tv rfl ?_
        refine Dz.ite rfl hF (fun _ hF => ?_) (fun _ hF => ?_)
        ·refine Dz.seq (Dz.reg (Dz.ret ?_))
         cases hF
         exact finG [] [] rfl rfl (mv rfl) tv rfl
        ·refine Dz.skip (Dz.reg ?_)
         refine vsucc (by omega) ?_
         exact ⟨(), entG [0] ⟨mp rfl, mv rfl, tv⟩ ⟨⟨rfl, o_box rfl⟩, tv⟩ rfl, hF⟩
def s_l51DoingOk (a0 : (List SrvDoing)) : Option (Bool) :=
 cond (decide ((12 : Int) < ((a0.length : Nat) : Int))) (some false) (loopN (fun i2 (v12 : Unit) κ13 => lt (a0.getD i2 default) (fun x15 => (s_l6In x15.Range 0 2).bind (fun y16 => cond (!y16) (some false) ((s_l6In x15.View 1 99999).bind (fun y17 => cond (!y17) (some false) ((s_l6In x15.Client 0 3).bind (fun y18 => cond (!y18) (some false) ((s_l6In x15.Call 1 99999).bind (fun y19 => cond (!y19) (some false) ((s_l6In x15.Disk 1 99999).bind (fun y20 => cond (!y20) (some false) ((s_l6In x15.Block 0 99999).bind (fun y21 => cond (!y21) (some false) ((s_l6In x15.Epoch 1 99999).bind (fun y22 => cond (!y22) (some false) (κ13 ())))))))))))))))) (fun (v12 : Unit) => some true) a0.length 0 ())
theorem s_l51DoingOk_c {t0_0 : Bool} {a0 : (List SrvDoing)} {r : Bool} (hF : s_l51DoingOk a0 = some r) : Con Tryz.prog 65 [.val false [.u (ul SrvDoing.c 8 t0_0 a0)]] [] (vbool r) [] := by
 refine Con.of_Dz tabOk Tryz.func65 rfl rfl rfl ?_
 delta s_l51DoingOk at hF
 refine Dz.seq (Dz.reg (Dz.seq (Dz.seq (Dz.reg ?_))))
 intro hb1; replace hb1 : a0.length ≤ 140737488355328 := hb1
 refine Dz.ite rfl hF (fun _ hF => ?_) (fun _ hF => ?_)
 ·refine Dz.seq (Dz.reg (Dz.ret ?_))
  cases hF
  exact finG [] [] rfl rfl (mv rfl) tv rfl
 ·refine Dz.skip (Dz.seq (Dz.seq (Dz.reg (Dz.blk ?_))))
  refine Dz.cnt hF (fun i2 v12 => ([(0, .val false [.u (ul SrvDoing.c 8 t0_0 a0)]), (3, vint .i64 ((i2 : Nat) : Int))], [])) (entG [] ⟨mv rfl, mv rfl, tv⟩ tv rfl) (fun v12 hF => ?_) (fun i2 v12 κ13 hi0i2 hi1i2 hF => ?_)
  ·refine Dz.seq (Dz.seq (Dz.reg ?_))
   intro hb23; replace hb23 : a0.length ≤ 140737488355328 := hb23
   refine Dz.ff (b := decide (((0 + a0.length : Nat) : Int) < ((a0.length : Nat) : Int))) rfl (decide_eq_false (by omega)) ?_
   refine Dz.exit (Dz.seq (Dz.reg (Dz.ret ?_)))
   cases hF
   exact finG [] [] rfl rfl (mv rfl) tv rfl
  ·refine Dz.seq (Dz.seq (Dz.reg ?_))
   intro hb14; replace hb14 : a0.length ≤ 140737488355328 := hb14
   refine Dz.tt (b := decide (((i2 : Nat) : Int) < ((a0.length : Nat) : Int))) rfl (decide_eq_true (by omega)) ?_
   refine Dz.skip (Dz.seq (Dz.blk (Dz.seq (Dz.reg ?_))))
   refine vge (n := ((i2 : Nat) : Int)) (hi := (a0.length : Int)) (by omega) (by omega) ?_
   have hF := ltE hF
   refine Dz.seq (Dz.reg ?_)
   refine bdE hF (fun y16 hy16 hF => ?_)
   refine callG [] (s_l6In_c hy16) ⟨mv rfl, mv rfl, mv rfl, tv⟩ tv rfl ?_
   refine vif hF (fun _ hF => ?_) (fun _ hF => ?_)
   ·refine Dz.tt (b := true) rfl rfl ?_
    refine Dz.seq (Dz.reg (Dz.ret ?_))
    cases hF
    exact finG [] [] rfl rfl (mv rfl) tv rfl
   ·refine bdE hF (fun y17 hy17 hF => ?_)
    refine callG [] (s_l6In_c hy17) ⟨mv rfl, mv rfl, mv rfl, tv⟩ tv rfl ?_
    refine vif hF (fun _ hF => ?_) (fun _ hF => ?_)
    ·refine Dz.tt (b := true) rfl rfl ?_
     refine Dz.seq (Dz.reg (Dz.ret ?_))
     cases hF
     exact finG [] [] rfl rfl (mv rfl) tv rfl
    ·refine bdE hF (fun y18 hy18 hF => ?_)
     refine callG [] (s_l6In_c hy18) ⟨mv rfl, mv rfl, mv rfl, tv⟩ tv rfl ?_
     refine vif hF (fun _ hF => ?_) (fun _ hF => ?_)
     ·refine Dz.tt (b := true) rfl rfl ?_
      refine Dz.seq (Dz.reg (Dz.ret ?_))
      cases hF
      exact finG [] [] rfl rfl (mv rfl) tv rfl
     ·refine bdE hF (fun y19 hy19 hF => ?_)
      refine callG [] (s_l6In_c hy19) ⟨mv rfl, mv rfl, mv rfl, tv⟩ tv rfl ?_
      refine vif hF (fun _ hF => ?_) (fun _ hF => ?_)
      ·refine Dz.tt (b := true) rfl rfl ?_
       refine Dz.seq (Dz.reg (Dz.ret ?_))
       cases hF
       exact finG [] [] rfl rfl (mv rfl) tv rfl
      ·refine bdE hF (fun y20 hy20 hF => ?_)
       refine callG [] (s_l6In_c hy20) ⟨mv rfl, mv rfl, mv rfl, tv⟩ tv rfl ?_
       refine vif hF (fun _ hF => ?_) (fun _ hF => ?_)
       ·refine Dz.tt (b := true) rfl rfl ?_
        refine Dz.seq (Dz.reg (Dz.ret ?_))
        cases hF
        exact finG [] [] rfl rfl (mv rfl) tv rfl
       ·refine bdE hF (fun y21 hy21 hF => ?_)
        refine callG [] (s_l6In_c hy21) ⟨mv rfl, mv rfl, mv rfl, tv⟩ tv rfl ?_
        refine vif hF (fun _ hF => ?_) (fun _ hF => ?_)
        ·refine Dz.tt (b := true) rfl rfl ?_
         refine Dz.seq (Dz.reg (Dz.ret ?_))
         cases hF
         exact finG [] [] rfl rfl (mv rfl) tv rfl
        ·refine bdE hF (fun y22 hy22 hF => ?_)
         refine callG [] (s_l6In_c hy22) ⟨mv rfl, mv rfl, mv rfl, tv⟩ tv rfl ?_
         refine Dz.ite rfl hF (fun _ hF => ?_) (fun _ hF => ?_)
         ·refine Dz.seq (Dz.reg (Dz.ret ?_))
          cases hF
          exact finG [] [] rfl rfl (mv rfl) tv rfl
         ·refine Dz.skip (Dz.reg ?_)
          refine vsucc (by omega) ?_
          exact ⟨(), entG [] ⟨mv rfl, mv rfl, tv⟩ tv rfl, hF⟩
def s_SrvOk (a0 : Server) : Option (Bool) :=
 jn (fun (v2 : Bool) => cond v2 (some false) (loopN (fun i3 (v7 : Unit) κ8 => lt (a0.Log.getD i3 default) (fun x10 => (s_l11CmdOk x10).bind (fun y11 => cond (!y11) (some false) (κ8 ())))) (fun (v7 : Unit) => loopN (fun i13 (v17 : Unit) κ18 => lt (a0.Wants.getD i13 default) (fun x20 => (s_l11CmdOk x20).bind (fun y21 => cond (!y21) (some false) (κ18 ())))) (fun (v17 : Unit) => some true) a0.Wants.length 0 ()) a0.Log.length 0 ())) (fun j23 => (s_l6In a0.Id 0 4).bind (fun y24 => cond (!y24) (j23 true) (cond a0.Gone (cond a0.Up (j23 true) ((s_l6In a0.Round 0 12498).bind (fun y25 => cond (!y25) (j23 true) ((s_SynVoterOk a0.Voter).bind (fun y26 => cond (!y26) (j23 true) (cond (decide ((60 : Int) < ((a0.Log.length : Nat) : Int))) (j23 true) ((s_l51CopiesOk a0.Copies).bind (fun y28 => cond (!y28) (j23 true) ((s_SynSeekerOk a0.Seek).bind (fun y29 => cond (!y29) (j23 true) (cond (decide ((12 : Int) < ((a0.Wants.length : Nat) : Int))) (j23 true) ((s_l51DoingOk a0.Doing).bind (fun y31 => j23 (!y31)))))))))))))) ((s_l6In a0.Round 0 12498).bind (fun y32 => cond (!y32) (j23 true) ((s_SynVoterOk a0.Voter).bind (fun y33 => cond (!y33) (j23 true) (cond (decide ((60 : Int) < ((a0.Log.length : Nat) : Int))) (j23 true) ((s_l51CopiesOk a0.Copies).bind (fun y35 => cond (!y35) (j23 true) ((s_SynSeekerOk a0.Seek).bind (fun y36 => cond (!y36) (j23 true) (cond (decide ((12 : Int) < ((a0.Wants.length : Nat) : Int))) (j23 true) ((s_l51DoingOk a0.Doing).bind (fun y38 => j23 (!y38))))))))))))))))
theorem s_SrvOk_c {t0_33 t0_34 t0_35 t0_5 t0_6 t0_7 : Bool} {a0 : Server} {r : Bool} (hF : s_SrvOk a0 = some r) : Con Tryz.prog 37 [.val true (.u (cI a0.Id) :: .u (.bool a0.Up) :: .u (.bool a0.Gone) :: .u (cI a0.Round) :: .u (cI a0.Voter.Promised) :: .u (ul SynPaper.c 12 t0_5 a0.Voter.Papers) :: .u (ul Cmd.c 10 t0_6 a0.Log) :: .u (ul SrvCopy.c 6 t0_7 a0.Copies) :: .u (cI a0.Seek.Slot) :: .u (cI a0.Seek.Ballot) :: .u (cI a0.Seek.Phase) :: .u (cI a0.Seek.Mine.Kind) :: .u (cI a0.Seek.Mine.Client) :: .u (cI a0.Seek.Mine.Call) :: .u (cI a0.Seek.Mine.Disk) :: .u (cI a0.Seek.Mine.Arg) :: .u (cI a0.Seek.Mine.Epoch) :: .u (cI a0.Seek.Mine.Range) :: .u (cI a0.Seek.Mine.Num) :: .u (cI a0.Seek.Mine.A) :: .u (cI a0.Seek.Mine.B) :: .u (cI a0.Seek.Best.Slot) :: .u (cI a0.Seek.Best.Ballot) :: .u (cI a0.Seek.Best.Cmd.Kind) :: .u (cI a0.Seek.Best.Cmd.Client) :: .u (cI a0.Seek.Best.Cmd.Call) :: .u (cI a0.Seek.Best.Cmd.Disk) :: .u (cI a0.Seek.Best.Cmd.Arg) :: .u (cI a0.Seek.Best.Cmd.Epoch) :: .u (cI a0.Seek.Best.Cmd.Range) :: .u (cI a0.Seek.Best.Cmd.Num) :: .u (cI a0.Seek.Best.Cmd.A) :: .u (cI a0.Seek.Best.Cmd.B) :: .u (ul cInt 1 t0_33 a0.Seek.Yes) :: .u (ul Cmd.c 10 t0_34 a0.Wants) :: .u (ul SrvDoing.c 8 t0_35 a0.Doing) :: [])] [] (vbool r) [] := by
 refine Con.of_Dz tabOk Tryz.func37 rfl rfl rfl ?_
 delta s_SrvOk at hF
 refine Dz.seq (Dz.reg (Dz.seq ?_))
 refine Dz.jn hF (fun v2 => ([(1, .ptr 0 0), (58, vbool v2)], [.box 63 (.u (cI a0.Id) :: .u (.bool a0.Up) :: .u (.bool a0.Gone) :: .u (cI a0.Round) :: .u (cI a0.Voter.Promised) :: .u (ul SynPaper.c 12 t0_5 a0.Voter.Papers) :: .u (ul Cmd.c 10 t0_6 a0.Log) :: .u (ul SrvCopy.c 6 t0_7 a0.Copies) :: .u (cI a0.Seek.Slot) :: .u (cI a0.Seek.Ballot) :: .u (cI a0.Seek.Phase) :: .u (cI a0.Seek.Mine.Kind) :: .u (cI a0.Seek.Mine.Client) :: .u (cI a0.Seek.Mine.Call) :: .u (cI a0.Seek.Mine.Disk) :: .u (cI a0.Seek.Mine.Arg) :: .u (cI a0.Seek.Mine.Epoch) :: .u (cI a0.Seek.Mine.Range) :: .u (cI a0.Seek.Mine.Num) :: .u (cI a0.Seek.Mine.A) :: .u (cI a0.Seek.Mine.B) :: .u (cI a0.Seek.Best.Slot) :: .u (cI a0.Seek.Best.Ballot) :: .u (cI a0.Seek.Best.Cmd.Kind) :: .u (cI a0.Seek.Best.Cmd.Client) :: .u (cI a0.Seek.Best.Cmd.Call) :: .u (cI a0.Seek.Best.Cmd.Disk) :: .u (cI a0.Seek.Best.Cmd.Arg) :: .u (cI a0.Seek.Best.Cmd.Epoch) :: .u (cI a0.Seek.Best.Cmd.Range) :: .u (cI a0.Seek.Best.Cmd.Num) :: .u (cI a0.Seek.Best.Cmd.A) :: .u (cI a0.Seek.Best.Cmd.B) :: .u (ul cInt 1 t0_33 a0.Seek.Yes) :: .u (ul Cmd.c 10 t0_34 a0.Wants) :: .u (ul SrvDoing.c 8 t0_35 a0.Doing) :: [])])) (fun v2 hF => ?_) (fun hF => ?_)
 ·refine Dz.ite rfl hF (fun _ hF => ?_) (fun _ hF => ?_)
  ·refine Dz.seq (Dz.reg (Dz.ret ?_))
   cases hF
   exact finG [] [] rfl rfl (mv rfl) tv rfl
  ·refine Dz.skip (Dz.seq (Dz.seq (Dz.reg (Dz.blk ?_))))
   refine Dz.cnt hF (fun i3 v7 => ([(1, .ptr 0 0), (3, vint .i64 ((i3 : Nat) : Int))], [.box 63 (.u (cI a0.Id) :: .u (.bool a0.Up) :: .u (.bool a0.Gone) :: .u (cI a0.Round) :: .u (cI a0.Voter.Promised) :: .u (ul SynPaper.c 12 t0_5 a0.Voter.Papers) :: .u (ul Cmd.c 10 t0_6 a0.Log) :: .u (ul SrvCopy.c 6 t0_7 a0.Copies) :: .u (cI a0.Seek.Slot) :: .u (cI a0.Seek.Ballot) :: .u (cI a0.Seek.Phase) :: .u (cI a0.Seek.Mine.Kind) :: .u (cI a0.Seek.Mine.Client) :: .u (cI a0.Seek.Mine.Call) :: .u (cI a0.Seek.Mine.Disk) :: .u (cI a0.Seek.Mine.Arg) :: .u (cI a0.Seek.Mine.Epoch) :: .u (cI a0.Seek.Mine.Range) :: .u (cI a0.Seek.Mine.Num) :: .u (cI a0.Seek.Mine.A) :: .u (cI a0.Seek.Mine.B) :: .u (cI a0.Seek.Best.Slot) :: .u (cI a0.Seek.Best.Ballot) :: .u (cI a0.Seek.Best.Cmd.Kind) :: .u (cI a0.Seek.Best.Cmd.Client) :: .u (cI a0.Seek.Best.Cmd.Call) :: .u (cI a0.Seek.Best.Cmd.Disk) :: .u (cI a0.Seek.Best.Cmd.Arg) :: .u (cI a0.Seek.Best.Cmd.Epoch) :: .u (cI a0.Seek.Best.Cmd.Range) :: .u (cI a0.Seek.Best.Cmd.Num) :: .u (cI a0.Seek.Best.Cmd.A) :: .u (cI a0.Seek.Best.Cmd.B) :: .u (ul cInt 1 t0_33 a0.Seek.Yes) :: .u (ul Cmd.c 10 t0_34 a0.Wants) :: .u (ul SrvDoing.c 8 t0_35 a0.Doing) :: [])])) (entG [0] ⟨mp rfl, mv rfl, tv⟩ ⟨⟨rfl, o_box rfl⟩, tv⟩ rfl) (fun v7 hF => ?_) (fun i3 v7 κ8 hi0i3 hi1i3 hF => ?_)
   ·refine Dz.seq (Dz.seq (Dz.reg ?_))
    intro hb12; replace hb12 : a0.Log.length ≤ 140737488355328 := hb12
    refine Dz.ff (b := decide (((0 + a0.Log.length : Nat) : Int) < ((a0.Log.length : Nat) : Int))) rfl (decide_eq_false (by omega)) ?_
    refine Dz.exit (Dz.seq (Dz.seq (Dz.reg (Dz.blk ?_))))
    refine Dz.cnt hF (fun i13 v17 => ([(1, .ptr 0 0), (4, vint .i64 ((i13 : Nat) : Int))], [.box 63 (.u (cI a0.Id) :: .u (.bool a0.Up) :: .u (.bool a0.Gone) :: .u (cI a0.Round) :: .u (cI a0.Voter.Promised) :: .u (ul SynPaper.c 12 t0_5 a0.Voter.Papers) :: .u (ul Cmd.c 10 t0_6 a0.Log) :: .u (ul SrvCopy.c 6 t0_7 a0.Copies) :: .u (cI a0.Seek.Slot) :: .u (cI a0.Seek.Ballot) :: .u (cI a0.Seek.Phase) :: .u (cI a0.Seek.Mine.Kind) :: .u (cI a0.Seek.Mine.Client) :: .u (cI a0.Seek.Mine.Call) :: .u (cI a0.Seek.Mine.Disk) :: .u (cI a0.Seek.Mine.Arg) :: .u (cI a0.Seek.Mine.Epoch) :: .u (cI a0.Seek.Mine.Range) :: .u (cI a0.Seek.Mine.Num) :: .u (cI a0.Seek.Mine.A) :: .u (cI a0.Seek.Mine.B) :: .u (cI a0.Seek.Best.Slot) :: .u (cI a0.Seek.Best.Ballot) :: .u (cI a0.Seek.Best.Cmd.Kind) :: .u (cI a0.Seek.Best.Cmd.Client) :: .u (cI a0.Seek.Best.Cmd.Call) :: .u (cI a0.Seek.Best.Cmd.Disk) :: .u (cI a0.Seek.Best.Cmd.Arg) :: .u (cI a0.Seek.Best.Cmd.Epoch) :: .u (cI a0.Seek.Best.Cmd.Range) :: .u (cI a0.Seek.Best.Cmd.Num) :: .u (cI a0.Seek.Best.Cmd.A) :: .u (cI a0.Seek.Best.Cmd.B) :: .u (ul cInt 1 t0_33 a0.Seek.Yes) :: .u (ul Cmd.c 10 t0_34 a0.Wants) :: .u (ul SrvDoing.c 8 t0_35 a0.Doing) :: [])])) (entG [0] ⟨mp rfl, mv rfl, tv⟩ ⟨⟨rfl, o_box rfl⟩, tv⟩ rfl) (fun v17 hF => ?_) (fun i13 v17 κ18 hi0i13 hi1i13 hF => ?_)
    ·refine Dz.seq (Dz.seq (Dz.reg ?_))
     intro hb22; replace hb22 : a0.Wants.length ≤ 140737488355328 := hb22
     refine Dz.ff (b := decide (((0 + a0.Wants.length : Nat) : Int) < ((a0.Wants.length : Nat) : Int))) rfl (decide_eq_false (by omega)) ?_
     refine Dz.exit (Dz.seq (Dz.reg (Dz.ret ?_)))
     cases hF
     exact finG [] [] rfl rfl (mv rfl) tv rfl
    ·refine Dz.seq (Dz.seq (Dz.reg ?_))
     intro hb19; replace hb19 : a0.Wants.length ≤ 140737488355328 := hb19
     refine Dz.tt (b := decide (((i13 : Nat) : Int) < ((a0.Wants.length : Nat) : Int))) rfl (decide_eq_true (by omega)) ?_
     refine Dz.skip (Dz.seq (Dz.blk (Dz.seq (Dz.reg ?_))))
     refine vge (n := ((i13 : Nat) : Int)) (hi := (a0.Wants.length : Int)) (by omega) (by omega) ?_
     have hF := ltE hF
     refine bdE hF (fun y21 hy21 hF => ?_)
     refine callG [] (s_l11CmdOk_c hy21) ⟨mv rfl, tv⟩ tv rfl ?_
     refine Dz.ite rfl hF (fun _ hF => ?_) (fun _ hF => ?_)
     ·refine Dz.seq (Dz.reg (Dz.ret ?_))
      cases hF
      exact finG [] [] rfl rfl (mv rfl) tv rfl
     ·refine Dz.skip (Dz.reg ?_)
      refine vsucc (by omega) ?_
      exact ⟨(), entG [0] ⟨mp rfl, mv rfl, tv⟩ ⟨⟨rfl, o_box rfl⟩, tv⟩ rfl, hF⟩
   ·refine Dz.seq (Dz.seq (Dz.reg ?_))
    intro hb9; replace hb9 : a0.Log.length ≤ 140737488355328 := hb9
    refine Dz.tt (b := decide (((i3 : Nat) : Int) < ((a0.Log.length : Nat) : Int))) rfl (decide_eq_true (by omega)) ?_
    refine Dz.skip (Dz.seq (Dz.blk (Dz.seq (Dz.reg ?_))))
    refine vge (n := ((i3 : Nat) : Int)) (hi := (a0.Log.length : Int)) (by omega) (by omega) ?_
    have hF := ltE hF
    refine bdE hF (fun y11 hy11 hF => ?_)
    refine callG [] (s_l11CmdOk_c hy11) ⟨mv rfl, tv⟩ tv rfl ?_
    refine Dz.ite rfl hF (fun _ hF => ?_) (fun _ hF => ?_)
    ·refine Dz.seq (Dz.reg (Dz.ret ?_))
     cases hF
     exact finG [] [] rfl rfl (mv rfl) tv rfl
    ·refine Dz.skip (Dz.reg ?_)
     refine vsucc (by omega) ?_
     exact ⟨(), entG [0] ⟨mp rfl, mv rfl, tv⟩ ⟨⟨rfl, o_box rfl⟩, tv⟩ rfl, hF⟩
 ·refine Dz.reg ?_
  refine bdE hF (fun y24 hy24 hF => ?_)
  refine callG [] (s_l6In_c hy24) ⟨mv rfl, mv rfl, mv rfl, tv⟩ tv rfl ?_
  refine vif hF (fun _ hF => ?_) (fun _ hF => ?_)
  ·exact ⟨true, entG [0] ⟨mp rfl, mv rfl, tv⟩ ⟨⟨rfl, o_box rfl⟩, tv⟩ rfl, hF⟩
  ·refine vif hF (fun _ hF => ?_) (fun _ hF => ?_)
   ·refine vif hF (fun _ hF => ?_) (fun _ hF => ?_)
    ·exact ⟨true, entG [0] ⟨mp rfl, mv rfl, tv⟩ ⟨⟨rfl, o_box rfl⟩, tv⟩ rfl, hF⟩
    ·refine bdE hF (fun y25 hy25 hF => ?_)
     refine callG [] (s_l6In_c hy25) ⟨mv rfl, mv rfl, mv rfl, tv⟩ tv rfl ?_
     refine vif hF (fun _ hF => ?_) (fun _ hF => ?_)
     ·exact ⟨true, entG [0] ⟨mp rfl, mv rfl, tv⟩ ⟨⟨rfl, o_box rfl⟩, tv⟩ rfl, hF⟩
     ·refine bdE hF (fun y26 hy26 hF => ?_)
      refine callG [] (s_SynVoterOk_c hy26) ⟨mv rfl, tv⟩ tv rfl ?_
      refine vif hF (fun _ hF => ?_) (fun _ hF => ?_)
      ·exact ⟨true, entG [0] ⟨mp rfl, mv rfl, tv⟩ ⟨⟨rfl, o_box rfl⟩, tv⟩ rfl, hF⟩
      ·intro hb27; replace hb27 : a0.Log.length ≤ 140737488355328 := hb27
       refine vif hF (fun _ hF => ?_) (fun _ hF => ?_)
       ·exact ⟨true, entG [0] ⟨mp rfl, mv rfl, tv⟩ ⟨⟨rfl, o_box rfl⟩, tv⟩ rfl, hF⟩
       ·refine bdE hF (fun y28 hy28 hF => ?_)
        refine callG [] (s_l51CopiesOk_c hy28) ⟨mv rfl, tv⟩ tv rfl ?_
        refine vif hF (fun _ hF => ?_) (fun _ hF => ?_)
        ·exact ⟨true, entG [0] ⟨mp rfl, mv rfl, tv⟩ ⟨⟨rfl, o_box rfl⟩, tv⟩ rfl, hF⟩
        ·refine bdE hF (fun y29 hy29 hF => ?_)
         refine callG [] (s_SynSeekerOk_c hy29) ⟨mv rfl, tv⟩ tv rfl ?_
         refine vif hF (fun _ hF => ?_) (fun _ hF => ?_)
         ·exact ⟨true, entG [0] ⟨mp rfl, mv rfl, tv⟩ ⟨⟨rfl, o_box rfl⟩, tv⟩ rfl, hF⟩
         ·intro hb30; replace hb30 : a0.Wants.length ≤ 140737488355328 := hb30
          refine vif hF (fun _ hF => ?_) (fun _ hF => ?_)
          ·exact ⟨true, entG [0] ⟨mp rfl, mv rfl, tv⟩ ⟨⟨rfl, o_box rfl⟩, tv⟩ rfl, hF⟩
          ·refine bdE hF (fun y31 hy31 hF => ?_)
           refine callG [] (s_l51DoingOk_c hy31) ⟨mv rfl, tv⟩ tv rfl ?_
           exact ⟨(!y31), entG [0] ⟨mp rfl, mv rfl, tv⟩ ⟨⟨rfl, o_box rfl⟩, tv⟩ rfl, hF⟩
   ·refine bdE hF (fun y32 hy32 hF => ?_)
    refine callG [] (s_l6In_c hy32) ⟨mv rfl, mv rfl, mv rfl, tv⟩ tv rfl ?_
    refine vif hF (fun _ hF => ?_) (fun _ hF => ?_)
    ·exact ⟨true, entG [0] ⟨mp rfl, mv rfl, tv⟩ ⟨⟨rfl, o_box rfl⟩, tv⟩ rfl, hF⟩
    ·refine bdE hF (fun y33 hy33 hF => ?_)
     refine callG [] (s_SynVoterOk_c hy33) ⟨mv rfl, tv⟩ tv rfl ?_
     refine vif hF (fun _ hF => ?_) (fun _ hF => ?_)
     ·exact ⟨true, entG [0] ⟨mp rfl, mv rfl, tv⟩ ⟨⟨rfl, o_box rfl⟩, tv⟩ rfl, hF⟩
     ·intro hb34; replace hb34 : a0.Log.length ≤ 140737488355328 := hb34
      refine vif hF (fun _ hF => ?_) (fun _ hF => ?_)
      ·exact ⟨true, entG [0] ⟨mp rfl, mv rfl, tv⟩ ⟨⟨rfl, o_box rfl⟩, tv⟩ rfl, hF⟩
      ·refine bdE hF (fun y35 hy35 hF => ?_)
       refine callG [] (s_l51CopiesOk_c hy35) ⟨mv rfl, tv⟩ tv rfl ?_
       refine vif hF (fun _ hF => ?_) (fun _ hF => ?_)
       ·exact ⟨true, entG [0] ⟨mp rfl, mv rfl, tv⟩ ⟨⟨rfl, o_box rfl⟩, tv⟩ rfl, hF⟩
       ·refine bdE hF (fun y36 hy36 hF => ?_)
        refine callG [] (s_SynSeekerOk_c hy36) ⟨mv rfl, tv⟩ tv rfl ?_
        refine vif hF (fun _ hF => ?_) (fun _ hF => ?_)
        ·exact ⟨true, entG [0] ⟨mp rfl, mv rfl, tv⟩ ⟨⟨rfl, o_box rfl⟩, tv⟩ rfl, hF⟩
        ·intro hb37; replace hb37 : a0.Wants.length ≤ 140737488355328 := hb37
         refine vif hF (fun _ hF => ?_) (fun _ hF => ?_)
         ·exact ⟨true, entG [0] ⟨mp rfl, mv rfl, tv⟩ ⟨⟨rfl, o_box rfl⟩, tv⟩ rfl, hF⟩
         ·refine bdE hF (fun y38 hy38 hF => ?_)
          refine callG [] (s_l51DoingOk_c hy38) ⟨mv rfl, tv⟩ tv rfl ?_
          exact ⟨(!y38), entG [0] ⟨mp rfl, mv rfl, tv⟩ ⟨⟨rfl, o_box rfl⟩, tv⟩ rfl, hF⟩
def s_l11Nums (a0 : Word) : Option ((List Int)) :=
 some ([a0.Kind, a0.From, a0.To, a0.Ballot, a0.Slot, a0.Was, a0.Cmd.Kind, a0.Cmd.Client, a0.Cmd.Call, a0.Cmd.Disk, a0.Cmd.Arg, a0.Cmd.Epoch, a0.Cmd.Range, a0.Cmd.Num, a0.Cmd.A, a0.Cmd.B, a0.Range, a0.View, a0.Client, a0.Call, a0.Disk, a0.Block, a0.Epoch, a0.Data] : List Int)
theorem s_l11Nums_c {t0_24 t0_25 : Bool} {a0 : Word} {r : (List Int)} (hF : s_l11Nums a0 = some r) : Con Tryz.prog 67 [.val true [.u (cI a0.Kind), .u (cI a0.From), .u (cI a0.To), .u (cI a0.Ballot), .u (cI a0.Slot), .u (cI a0.Was), .u (cI a0.Cmd.Kind), .u (cI a0.Cmd.Client), .u (cI a0.Cmd.Call), .u (cI a0.Cmd.Disk), .u (cI a0.Cmd.Arg), .u (cI a0.Cmd.Epoch), .u (cI a0.Cmd.Range), .u (cI a0.Cmd.Num), .u (cI a0.Cmd.A), .u (cI a0.Cmd.B), .u (cI a0.Range), .u (cI a0.View), .u (cI a0.Client), .u (cI a0.Call), .u (cI a0.Disk), .u (cI a0.Block), .u (cI a0.Epoch), .u (cI a0.Data), .u (ul BlkPiece.c 4 t0_24 a0.Pieces), .u (ul BlkLast.c 2 t0_25 a0.Last)]] [] (.val false [.row 0]) [.row 3 r.length 1 (gl cInt r)] := by
 refine Con.of_Dz tabOk Tryz.func67 rfl rfl rfl ?_
 delta s_l11Nums at hF
 refine Dz.seq (Dz.reg (Dz.seq (Dz.reg (Dz.seq (Dz.reg (Dz.ret ?_))))))
 cases hF
 exact finG [] [2] rfl rfl (⟨rfl, rfl, tv⟩) ⟨⟨rfl, o_rowE (by simp <;> omega) (EqG.lit (c := cInt) (sz := 1) (L := ([a0.Kind, a0.From, a0.To, a0.Ballot, a0.Slot, a0.Was, a0.Cmd.Kind, a0.Cmd.Client, a0.Cmd.Call, a0.Cmd.Disk, a0.Cmd.Arg, a0.Cmd.Epoch, a0.Cmd.Range, a0.Cmd.Num, a0.Cmd.A, a0.Cmd.B, a0.Range, a0.View, a0.Client, a0.Call, a0.Disk, a0.Block, a0.Epoch, a0.Data] : List Int)) ⟨lr, lr, lr, lr, lr, lr, lr, lr, lr, lr, lr, lr, lr, lr, lr, lr, lr, lr, lr, lr, lr, lr, lr, lr, tv⟩)⟩, tv⟩ rfl
def s_l11Place (a0 : Int) : Option (Bool) :=
 (s_l6In a0 0 4).bind (fun y1 => cond y1 (some true) ((s_l6In a0 100 103).bind (fun y2 => some y2)))
theorem s_l11Place_c {a0 : Int} {r : Bool} (hF : s_l11Place a0 = some r) : Con Tryz.prog 69 [vint .i64 a0] [] (vbool r) [] := by
 refine Con.of_Dz tabOk Tryz.func69 rfl rfl rfl ?_
 delta s_l11Place at hF
 refine Dz.seq (Dz.reg (Dz.seq (Dz.reg ?_)))
 refine bdE hF (fun y1 hy1 hF => ?_)
 refine callG [] (s_l6In_c hy1) ⟨mv rfl, mv rfl, mv rfl, tv⟩ tv rfl ?_
 refine vif hF (fun _ hF => ?_) (fun _ hF => ?_)
 ·refine Dz.ret ?_
  cases hF
  exact finG [] [] rfl rfl (mv rfl) tv rfl
 ·refine bdE hF (fun y2 hy2 hF => ?_)
  refine callG [] (s_l6In_c hy2) ⟨mv rfl, mv rfl, mv rfl, tv⟩ tv rfl ?_
  refine Dz.ret ?_
  cases hF
  exact finG [] [] rfl rfl (mv rfl) tv rfl
def s_WordOk (a0 : Word) : Option (Bool) :=
 (s_l11Nums a0).bind (fun y1 => loopN (fun i2 (v5 : Unit) κ6 => (s_l11Num (y1.getD i2 default)).bind (fun y8 => cond (!y8) (some false) (κ6 ()))) (fun (v5 : Unit) => (s_l6In a0.Kind 1 15).bind (fun y10 => cond y10 ((s_l11Place a0.From).bind (fun y11 => cond y11 ((s_l11Place a0.To).bind (fun y12 => cond y12 ((s_l11CmdOk a0.Cmd).bind (fun y13 => cond y13 ((s_BlkOk a0.Pieces).bind (fun y14 => cond y14 ((s_l3LastOk a0.Last).bind (fun y15 => some y15)) (some false))) (some false))) (some false))) (some false))) (some false))) y1.length 0 ())
theorem s_WordOk_c {t0_24 t0_25 : Bool} {a0 : Word} {r : Bool} (hF : s_WordOk a0 = some r) : Con Tryz.prog 38 [.val true [.u (cI a0.Kind), .u (cI a0.From), .u (cI a0.To), .u (cI a0.Ballot), .u (cI a0.Slot), .u (cI a0.Was), .u (cI a0.Cmd.Kind), .u (cI a0.Cmd.Client), .u (cI a0.Cmd.Call), .u (cI a0.Cmd.Disk), .u (cI a0.Cmd.Arg), .u (cI a0.Cmd.Epoch), .u (cI a0.Cmd.Range), .u (cI a0.Cmd.Num), .u (cI a0.Cmd.A), .u (cI a0.Cmd.B), .u (cI a0.Range), .u (cI a0.View), .u (cI a0.Client), .u (cI a0.Call), .u (cI a0.Disk), .u (cI a0.Block), .u (cI a0.Epoch), .u (cI a0.Data), .u (ul BlkPiece.c 4 t0_24 a0.Pieces), .u (ul BlkLast.c 2 t0_25 a0.Last)]] [] (vbool r) [] := by
 refine Con.of_Dz tabOk Tryz.func38 rfl rfl rfl ?_
 delta s_WordOk at hF
 refine Dz.seq (Dz.reg (Dz.seq (Dz.reg ?_)))
 refine bdE hF (fun y1 hy1 hF => ?_)
 refine callG [] (s_l11Nums_c hy1) ⟨mv rfl, tv⟩ tv rfl ?_
 refine Dz.seq (Dz.seq (Dz.reg (Dz.blk ?_)))
 refine Dz.cnt hF (fun i2 v5 => ([(1, .ptr 0 0), (3, .val false [.row 1]), (4, vint .i64 ((i2 : Nat) : Int))], [.box 111 [.u (cI a0.Kind), .u (cI a0.From), .u (cI a0.To), .u (cI a0.Ballot), .u (cI a0.Slot), .u (cI a0.Was), .u (cI a0.Cmd.Kind), .u (cI a0.Cmd.Client), .u (cI a0.Cmd.Call), .u (cI a0.Cmd.Disk), .u (cI a0.Cmd.Arg), .u (cI a0.Cmd.Epoch), .u (cI a0.Cmd.Range), .u (cI a0.Cmd.Num), .u (cI a0.Cmd.A), .u (cI a0.Cmd.B), .u (cI a0.Range), .u (cI a0.View), .u (cI a0.Client), .u (cI a0.Call), .u (cI a0.Disk), .u (cI a0.Block), .u (cI a0.Epoch), .u (cI a0.Data), .u (ul BlkPiece.c 4 t0_24 a0.Pieces), .u (ul BlkLast.c 2 t0_25 a0.Last)], .row 3 y1.length 1 (gl cInt y1)])) (entG [0, 1] ⟨mp rfl, ⟨rfl, rfl, tv⟩, mv rfl, tv⟩ ⟨⟨rfl, o_box rfl⟩, ⟨rfl, o_row⟩, tv⟩ rfl) (fun v5 hF => ?_) (fun i2 v5 κ6 hi0i2 hi1i2 hF => ?_)
 ·refine Dz.seq (Dz.seq (Dz.reg ?_))
  intro hb9; replace hb9 : y1.length ≤ 140737488355328 := hb9
  refine Dz.ff (b := decide (((0 + y1.length : Nat) : Int) < ((y1.length : Nat) : Int))) rfl (decide_eq_false (by omega)) ?_
  refine Dz.exit (Dz.seq (Dz.reg ?_))
  refine bdE hF (fun y10 hy10 hF => ?_)
  refine callG [] (s_l6In_c hy10) ⟨mv rfl, mv rfl, mv rfl, tv⟩ tv rfl ?_
  refine vif hF (fun _ hF => ?_) (fun _ hF => ?_)
  ·refine bdE hF (fun y11 hy11 hF => ?_)
   refine callG [] (s_l11Place_c hy11) ⟨mv rfl, tv⟩ tv rfl ?_
   refine vif hF (fun _ hF => ?_) (fun _ hF => ?_)
   ·refine bdE hF (fun y12 hy12 hF => ?_)
    refine callG [] (s_l11Place_c hy12) ⟨mv rfl, tv⟩ tv rfl ?_
    refine vif hF (fun _ hF => ?_) (fun _ hF => ?_)
    ·refine bdE hF (fun y13 hy13 hF => ?_)
     refine callG [] (s_l11CmdOk_c hy13) ⟨mv rfl, tv⟩ tv rfl ?_
     refine vif hF (fun _ hF => ?_) (fun _ hF => ?_)
     ·refine bdE hF (fun y14 hy14 hF => ?_)
      refine callG [] (s_BlkOk_c hy14) ⟨mv rfl, tv⟩ tv rfl ?_
      refine vif hF (fun _ hF => ?_) (fun _ hF => ?_)
      ·refine bdE hF (fun y15 hy15 hF => ?_)
       refine callG [] (s_l3LastOk_c hy15) ⟨mv rfl, tv⟩ tv rfl ?_
       refine Dz.ret ?_
       cases hF
       exact finG [] [] rfl rfl (mv rfl) tv rfl
      ·refine Dz.ret ?_
       cases hF
       exact finG [] [] rfl rfl (mv rfl) tv rfl
     ·refine Dz.ret ?_
      cases hF
      exact finG [] [] rfl rfl (mv rfl) tv rfl
    ·refine Dz.ret ?_
     cases hF
     exact finG [] [] rfl rfl (mv rfl) tv rfl
   ·refine Dz.ret ?_
    cases hF
    exact finG [] [] rfl rfl (mv rfl) tv rfl
  ·refine Dz.ret ?_
   cases hF
   exact finG [] [] rfl rfl (mv rfl) tv rfl
 ·refine Dz.seq (Dz.seq (Dz.reg ?_))
  intro hb7; replace hb7 : y1.length ≤ 140737488355328 := hb7
  refine Dz.tt (b := decide (((i2 : Nat) : Int) < ((y1.length : Nat) : Int))) rfl (decide_eq_true (by omega)) ?_
  refine Dz.skip (Dz.seq (Dz.blk (Dz.seq (Dz.reg ?_))))
  refine vge (n := ((i2 : Nat) : Int)) (hi := (y1.length : Int)) (by omega) (by omega) ?_
  refine bdE hF (fun y8 hy8 hF => ?_)
  refine callG [] (s_l11Num_c hy8) ⟨mv rfl, tv⟩ tv rfl ?_
  refine Dz.ite rfl hF (fun _ hF => ?_) (fun _ hF => ?_)
  ·refine Dz.seq (Dz.reg (Dz.ret ?_))
   cases hF
   exact finG [] [] rfl rfl (mv rfl) tv rfl
  ·refine Dz.skip (Dz.reg ?_)
   refine vsucc (by omega) ?_
   exact ⟨(), entG [0, 1] ⟨mp rfl, ⟨rfl, rfl, tv⟩, mv rfl, tv⟩ ⟨⟨rfl, o_box rfl⟩, ⟨rfl, o_row⟩, tv⟩ rfl, hF⟩
def s_PanOk (a0 : PanWorld) : Option (Bool) :=
 (s_l6In a0.Time 0 99999).bind (fun y1 => cond (!y1) (some false) (cond (!decide (((a0.Servers.length : Nat) : Int) = 5)) (some false) (cond (decide ((60 : Int) < ((a0.Radio.length : Nat) : Int))) (some false) ((s_l61CallsOk a0.Calls a0.Time).bind (fun y4 => cond (!y4) (some false) (loopN (fun i5 (v9 : Unit) κ10 => lt (a0.Servers.getD i5 default) (fun x12 => (s_SrvOk x12).bind (fun y13 => cond (!y13) (some false) (cond (!decide ((a0.Servers.getD i5 default).Id = ((i5 : Nat) : Int))) (some false) (κ10 ()))))) (fun (v9 : Unit) => loopN (fun i15 (v19 : Unit) κ20 => lt (a0.Radio.getD i15 default) (fun x22 => (s_WordOk x22).bind (fun y23 => cond (!y23) (some false) (κ20 ())))) (fun (v19 : Unit) => some true) a0.Radio.length 0 ()) a0.Servers.length 0 ()))))))
theorem s_PanOk_c {t0_1 t0_2 t0_3 : Bool} {a0 : PanWorld} {r : Bool} (hF : s_PanOk a0 = some r) : Con Tryz.prog 12 [.val true [.u (cI a0.Time), .u (ul Server.c 36 t0_1 a0.Servers), .u (ul Word.c 26 t0_2 a0.Radio), .u (ul PanCall.c 12 t0_3 a0.Calls)]] [] (vbool r) [] := by
 refine Con.of_Dz tabOk Tryz.func12 rfl rfl rfl ?_
 delta s_PanOk at hF
 refine Dz.seq (Dz.reg (Dz.seq (Dz.seq (Dz.reg ?_))))
 refine bdE hF (fun y1 hy1 hF => ?_)
 refine callG [] (s_l6In_c hy1) ⟨mv rfl, mv rfl, mv rfl, tv⟩ tv rfl ?_
 refine vif hF (fun _ hF => ?_) (fun _ hF => ?_)
 ·refine Dz.tt (b := true) rfl rfl ?_
  refine Dz.seq (Dz.reg (Dz.ret ?_))
  cases hF
  exact finG [] [] rfl rfl (mv rfl) tv rfl
 ·intro hb2; replace hb2 : a0.Servers.length ≤ 140737488355328 := hb2
  refine vif hF (fun _ hF => ?_) (fun _ hF => ?_)
  ·refine Dz.tt (b := true) rfl rfl ?_
   refine Dz.seq (Dz.reg (Dz.ret ?_))
   cases hF
   exact finG [] [] rfl rfl (mv rfl) tv rfl
  ·intro hb3; replace hb3 : a0.Radio.length ≤ 140737488355328 := hb3
   refine vif hF (fun _ hF => ?_) (fun _ hF => ?_)
   ·refine Dz.tt (b := true) rfl rfl ?_
    refine Dz.seq (Dz.reg (Dz.ret ?_))
    cases hF
    exact finG [] [] rfl rfl (mv rfl) tv rfl
   ·refine bdE hF (fun y4 hy4 hF => ?_)
    refine callG [] (s_l61CallsOk_c hy4) ⟨mv rfl, mv rfl, tv⟩ tv rfl ?_
    refine Dz.ite rfl hF (fun _ hF => ?_) (fun _ hF => ?_)
    ·refine Dz.seq (Dz.reg (Dz.ret ?_))
     cases hF
     exact finG [] [] rfl rfl (mv rfl) tv rfl
    ·refine Dz.skip (Dz.seq (Dz.seq (Dz.reg (Dz.blk ?_))))
     refine Dz.cnt hF (fun i5 v9 => ([(1, .ptr 0 0), (3, vint .i64 ((i5 : Nat) : Int))], [.box 33 [.u (cI a0.Time), .u (ul Server.c 36 t0_1 a0.Servers), .u (ul Word.c 26 t0_2 a0.Radio), .u (ul PanCall.c 12 t0_3 a0.Calls)]])) (entG [0] ⟨mp rfl, mv rfl, tv⟩ ⟨⟨rfl, o_box rfl⟩, tv⟩ rfl) (fun v9 hF => ?_) (fun i5 v9 κ10 hi0i5 hi1i5 hF => ?_)
     ·refine Dz.seq (Dz.seq (Dz.reg ?_))
      intro hb14; replace hb14 : a0.Servers.length ≤ 140737488355328 := hb14
      refine Dz.ff (b := decide (((0 + a0.Servers.length : Nat) : Int) < ((a0.Servers.length : Nat) : Int))) rfl (decide_eq_false (by omega)) ?_
      refine Dz.exit (Dz.seq (Dz.seq (Dz.reg (Dz.blk ?_))))
      refine Dz.cnt hF (fun i15 v19 => ([(1, .ptr 0 0), (4, vint .i64 ((i15 : Nat) : Int))], [.box 33 [.u (cI a0.Time), .u (ul Server.c 36 t0_1 a0.Servers), .u (ul Word.c 26 t0_2 a0.Radio), .u (ul PanCall.c 12 t0_3 a0.Calls)]])) (entG [0] ⟨mp rfl, mv rfl, tv⟩ ⟨⟨rfl, o_box rfl⟩, tv⟩ rfl) (fun v19 hF => ?_) (fun i15 v19 κ20 hi0i15 hi1i15 hF => ?_)
      ·refine Dz.seq (Dz.seq (Dz.reg ?_))
       intro hb24; replace hb24 : a0.Radio.length ≤ 140737488355328 := hb24
       refine Dz.ff (b := decide (((0 + a0.Radio.length : Nat) : Int) < ((a0.Radio.length : Nat) : Int))) rfl (decide_eq_false (by omega)) ?_
       refine Dz.exit (Dz.seq (Dz.reg (Dz.ret ?_)))
       cases hF
       exact finG [] [] rfl rfl (mv rfl) tv rfl
      ·refine Dz.seq (Dz.seq (Dz.reg ?_))
       intro hb21; replace hb21 : a0.Radio.length ≤ 140737488355328 := hb21
       refine Dz.tt (b := decide (((i15 : Nat) : Int) < ((a0.Radio.length : Nat) : Int))) rfl (decide_eq_true (by omega)) ?_
       refine Dz.skip (Dz.seq (Dz.blk (Dz.seq (Dz.reg ?_))))
       refine vge (n := ((i15 : Nat) : Int)) (hi := (a0.Radio.length : Int)) (by omega) (by omega) ?_
       have hF := ltE hF
       refine bdE hF (fun y23 hy23 hF => ?_)
       refine callG [] (s_WordOk_c hy23) ⟨mv rfl, tv⟩ tv rfl ?_
       refine Dz.ite rfl hF (fun _ hF => ?_) (fun _ hF => ?_)
       ·refine Dz.seq (Dz.reg (Dz.ret ?_))
        cases hF
        exact finG [] [] rfl rfl (mv rfl) tv rfl
       ·refine Dz.skip (Dz.reg ?_)
        refine vsucc (by omega) ?_
        exact ⟨(), entG [0] ⟨mp rfl, mv rfl, tv⟩ ⟨⟨rfl, o_box rfl⟩, tv⟩ rfl, hF⟩
     ·refine Dz.seq (Dz.seq (Dz.reg ?_))
      intro hb11; replace hb11 : a0.Servers.length ≤ 140737488355328 := hb11
      refine Dz.tt (b := decide (((i5 : Nat) : Int) < ((a0.Servers.length : Nat) : Int))) rfl (decide_eq_true (by omega)) ?_
      refine Dz.skip (Dz.seq (Dz.blk (Dz.seq (Dz.reg ?_))))
      refine vge (n := ((i5 : Nat) : Int)) (hi := (a0.Servers.length : Int)) (by omega) (by omega) ?_
      have hF := ltE hF
      refine bdE hF (fun y13 hy13 hF => ?_)
      refine callG [] (s_SrvOk_c hy13) ⟨mv rfl, tv⟩ tv rfl ?_
      refine vif hF (fun _ hF => ?_) (fun _ hF => ?_)
      ·refine Dz.tt (b := true) rfl rfl ?_
       refine Dz.seq (Dz.reg (Dz.ret ?_))
       cases hF
       exact finG [] [] rfl rfl (mv rfl) tv rfl
      ·refine vge (n := ((i5 : Nat) : Int)) (hi := (a0.Servers.length : Int)) (by omega) (by omega) ?_
       refine Dz.ite rfl hF (fun _ hF => ?_) (fun _ hF => ?_)
       ·refine Dz.seq (Dz.reg (Dz.ret ?_))
        cases hF
        exact finG [] [] rfl rfl (mv rfl) tv rfl
       ·refine Dz.skip (Dz.reg ?_)
        refine vsucc (by omega) ?_
        exact ⟨(), entG [0] ⟨mp rfl, mv rfl, tv⟩ ⟨⟨rfl, o_box rfl⟩, tv⟩ rfl, hF⟩
def s_l6Dec_b (rec : Int → Option (ByteArray)) (a0 : Int) : Option (ByteArray) :=
 cond (decide (a0 < (-9223372036854775807))) (some (⟨#[45, 57, 50, 50, 51, 51, 55, 50, 48, 51, 54, 56, 53, 52, 55, 55, 53, 56, 48, 56]⟩ : ByteArray)) (cond (decide (a0 < 0)) ((rec (w64 (0 - a0))).bind (fun y1 => ck ((⟨#[45]⟩ : ByteArray).size + y1.size ≤ 9223372036854775807) (some ((⟨#[45]⟩ : ByteArray) ++ y1)))) (cond (decide (a0 < 10)) (some (strOfNums ([(IntKind.wrap .u8 (w64 (48 + a0)))] : List Int))) ((rec (IntKind.wrap .i64 (Int.tdiv a0 10))).bind (fun y2 => ck (y2.size + (strOfNums ([(IntKind.wrap .u8 (w64 (48 + (Int.tmod a0 10))))] : List Int)).size ≤ 9223372036854775807) (some (y2 ++ (strOfNums ([(IntKind.wrap .u8 (w64 (48 + (Int.tmod a0 10))))] : List Int))))))))
theorem s_l6Dec_bc {rec : Int → Option (ByteArray)} (hrec : ∀ {a0 : Int} {r : ByteArray} (hF : rec a0 = some r), Con Tryz.prog 17 [vint .i64 a0] [] (vstr r) []) {a0 : Int} {r : ByteArray} (hF : s_l6Dec_b rec a0 = some r) : Con Tryz.prog 17 [vint .i64 a0] [] (vstr r) [] := by
 refine Con.of_Dz tabOk Tryz.func17 rfl rfl rfl ?_
 delta s_l6Dec_b at hF
 refine Dz.seq (Dz.reg (Dz.seq (Dz.seq (Dz.reg ?_))))
 refine Dz.ite rfl hF (fun _ hF => ?_) (fun _ hF => ?_)
 ·refine Dz.seq (Dz.reg (Dz.ret ?_))
  cases hF
  exact finG [] [] rfl rfl (mv rfl) tv rfl
 ·refine Dz.skip (Dz.seq (Dz.seq (Dz.reg ?_)))
  refine Dz.ite rfl hF (fun _ hF => ?_) (fun _ hF => ?_)
  ·refine Dz.seq (Dz.reg (vw64 ?_))
   refine bdE hF (fun y1 hy1 hF => ?_)
   refine callG [] (hrec hy1) ⟨mv rfl, tv⟩ tv rfl ?_
   refine vck hF id (fun _ hF => ?_)
   refine Dz.ret ?_
   cases hF
   exact finG [] [] rfl rfl (mv rfl) tv rfl
  ·refine Dz.skip (Dz.seq (Dz.seq (Dz.reg ?_)))
   refine Dz.ite rfl hF (fun _ hF => ?_) (fun _ hF => ?_)
   ·refine Dz.seq (Dz.reg (vw64 (vwr ?_)))
    refine ⟨rfl, ([(IntKind.wrap .u8 (w64 (48 + a0)))] : List Int), (by simp <;> omega), (fun i hi => LeU.int_r (LeU.lit (us := [.int .u8 (IntKind.wrap .u8 (w64 (48 + a0)))]) (c := cInt_u8) (sz := 1) (L := ([(IntKind.wrap .u8 (w64 (48 + a0)))] : List Int)) ⟨lr, tv⟩ (i := i) (j := 0) hi (by decide))), ?_⟩
    refine Dz.ret ?_
    cases hF
    exact finG [] [] rfl rfl (mv rfl) tv rfl
   ·refine Dz.skip (Dz.seq ?_)
    refine Dz.drw 0 [⟨[21,22,23,24,25,26], [], 0, 0⟩, ⟨[21,22,23,24,25,26], [], 0, 0⟩, ⟨[21,22,23,24,25,26], [], 0, 0⟩, ⟨[18,19,20], [], 0, 0⟩, ⟨[18,19,20], [], 0, 0⟩, ⟨[18,19,20], [], 0, 0⟩, ⟨[18,19,20], [], 0, 0⟩, ⟨[18,19,20], [], 0, 1⟩, ⟨[18,19,20], [0], 1, 1⟩, ⟨[], [], 1, 1⟩, ⟨[], [], 1, 1⟩] ⟨by kernel_rfl, by kernel_rfl, rfl⟩ ?_
    refine ⟨by decide, _, rfl, ?_⟩
    refine bdE hF (fun y2 hy2 hF => ?_)
    refine callG [] (hrec hy2) ⟨mv rfl, tv⟩ tv rfl ?_
    refine ⟨by decide, _, rfl, ?_⟩
    refine vw64 (vwr ?_)
    refine ⟨rfl, ([(IntKind.wrap .u8 (w64 (48 + (Int.tmod a0 10))))] : List Int), (by simp <;> omega), (fun i hi => LeU.int_r (LeU.lit (us := [.int .u8 (IntKind.wrap .u8 (w64 (48 + (Int.tmod a0 10))))]) (c := cInt_u8) (sz := 1) (L := ([(IntKind.wrap .u8 (w64 (48 + (Int.tmod a0 10))))] : List Int)) ⟨lr, tv⟩ (i := i) (j := 0) hi (by decide))), ?_⟩
    refine vck hF id (fun _ hF => ?_)
    refine Dz.ret ?_
    cases hF
    exact finG [] [] rfl rfl (mv rfl) tv rfl
def s_l6Dec : Nat → Int → Option (ByteArray)
 | 0, _ => none
 | k + 1, a0 => s_l6Dec_b (s_l6Dec k) a0
theorem s_l6Dec_c : ∀ {k : Nat} {a0 : Int} {r : ByteArray} (hF : s_l6Dec k a0 = some r), Con Tryz.prog 17 [vint .i64 a0] [] (vstr r) [] := by
 intro k
 induction k with
 | zero => intros; rename_i hF; cases hF
 | succ k ih => intros; rename_i hF; exact s_l6Dec_bc (rec := s_l6Dec k) ih hF
def s_l64Map (a0 : MapState) : Option (ByteArray) :=
 (s_l6Dec (a0.Slots.natAbs + 2) a0.Slots).bind (fun y1 => ck ((⟨#[109, 97, 112, 32]⟩ : ByteArray).size + y1.size ≤ 9223372036854775807) (ck (((⟨#[109, 97, 112, 32]⟩ : ByteArray) ++ y1).size + (⟨#[44, 32, 115, 101, 114, 118, 101, 114, 115, 32]⟩ : ByteArray).size ≤ 9223372036854775807) ((s_l6Dec (a0.Servers.natAbs + 2) a0.Servers).bind (fun y2 => ck ((((⟨#[109, 97, 112, 32]⟩ : ByteArray) ++ y1) ++ (⟨#[44, 32, 115, 101, 114, 118, 101, 114, 115, 32]⟩ : ByteArray)).size + y2.size ≤ 9223372036854775807) (ck (((((⟨#[109, 97, 112, 32]⟩ : ByteArray) ++ y1) ++ (⟨#[44, 32, 115, 101, 114, 118, 101, 114, 115, 32]⟩ : ByteArray)) ++ y2).size + (⟨#[10]⟩ : ByteArray).size ≤ 9223372036854775807) (loopN (fun i3 (v20 : ByteArray) κ21 => lt (a0.Disks.getD i3 default) (fun x23 => ck (v20.size + (⟨#[32, 32, 100, 105, 115, 107, 32]⟩ : ByteArray).size ≤ 9223372036854775807) ((s_l6Dec (x23.Id.natAbs + 2) x23.Id).bind (fun y24 => ck ((v20 ++ (⟨#[32, 32, 100, 105, 115, 107, 32]⟩ : ByteArray)).size + y24.size ≤ 9223372036854775807) (ck (((v20 ++ (⟨#[32, 32, 100, 105, 115, 107, 32]⟩ : ByteArray)) ++ y24).size + (⟨#[32, 115, 105, 122, 101, 32]⟩ : ByteArray).size ≤ 9223372036854775807) ((s_l6Dec (x23.Size.natAbs + 2) x23.Size).bind (fun y25 => ck ((((v20 ++ (⟨#[32, 32, 100, 105, 115, 107, 32]⟩ : ByteArray)) ++ y24) ++ (⟨#[32, 115, 105, 122, 101, 32]⟩ : ByteArray)).size + y25.size ≤ 9223372036854775807) (ck (((((v20 ++ (⟨#[32, 32, 100, 105, 115, 107, 32]⟩ : ByteArray)) ++ y24) ++ (⟨#[32, 115, 105, 122, 101, 32]⟩ : ByteArray)) ++ y25).size + (⟨#[32, 101, 112, 111, 99, 104, 32]⟩ : ByteArray).size ≤ 9223372036854775807) ((s_l6Dec (x23.Epoch.natAbs + 2) x23.Epoch).bind (fun y26 => ck ((((((v20 ++ (⟨#[32, 32, 100, 105, 115, 107, 32]⟩ : ByteArray)) ++ y24) ++ (⟨#[32, 115, 105, 122, 101, 32]⟩ : ByteArray)) ++ y25) ++ (⟨#[32, 101, 112, 111, 99, 104, 32]⟩ : ByteArray)).size + y26.size ≤ 9223372036854775807) (ix ([(⟨#[]⟩ : ByteArray), (⟨#[32, 115, 110, 97, 112, 112, 105, 110, 103]⟩ : ByteArray), (⟨#[32, 103, 111, 105, 110, 103]⟩ : ByteArray)] : List ByteArray) x23.Frozen (fun _ => ck (((((((v20 ++ (⟨#[32, 32, 100, 105, 115, 107, 32]⟩ : ByteArray)) ++ y24) ++ (⟨#[32, 115, 105, 122, 101, 32]⟩ : ByteArray)) ++ y25) ++ (⟨#[32, 101, 112, 111, 99, 104, 32]⟩ : ByteArray)) ++ y26).size + (([(⟨#[]⟩ : ByteArray), (⟨#[32, 115, 110, 97, 112, 112, 105, 110, 103]⟩ : ByteArray), (⟨#[32, 103, 111, 105, 110, 103]⟩ : ByteArray)] : List ByteArray).getD x23.Frozen.toNat default).size ≤ 9223372036854775807) (ck ((((((((v20 ++ (⟨#[32, 32, 100, 105, 115, 107, 32]⟩ : ByteArray)) ++ y24) ++ (⟨#[32, 115, 105, 122, 101, 32]⟩ : ByteArray)) ++ y25) ++ (⟨#[32, 101, 112, 111, 99, 104, 32]⟩ : ByteArray)) ++ y26) ++ (([(⟨#[]⟩ : ByteArray), (⟨#[32, 115, 110, 97, 112, 112, 105, 110, 103]⟩ : ByteArray), (⟨#[32, 103, 111, 105, 110, 103]⟩ : ByteArray)] : List ByteArray).getD x23.Frozen.toNat default)).size + (⟨#[10]⟩ : ByteArray).size ≤ 9223372036854775807) (κ21 ((((((((v20 ++ (⟨#[32, 32, 100, 105, 115, 107, 32]⟩ : ByteArray)) ++ y24) ++ (⟨#[32, 115, 105, 122, 101, 32]⟩ : ByteArray)) ++ y25) ++ (⟨#[32, 101, 112, 111, 99, 104, 32]⟩ : ByteArray)) ++ y26) ++ (([(⟨#[]⟩ : ByteArray), (⟨#[32, 115, 110, 97, 112, 112, 105, 110, 103]⟩ : ByteArray), (⟨#[32, 103, 111, 105, 110, 103]⟩ : ByteArray)] : List ByteArray).getD x23.Frozen.toNat default)) ++ (⟨#[10]⟩ : ByteArray)))))))))))))))) (fun (v20 : ByteArray) => loopN (fun i30 (v45 : ByteArray) κ46 => lt (a0.Views.getD i30 default) (fun x48 => ck (v45.size + (⟨#[32, 32, 114, 97, 110, 103, 101, 32]⟩ : ByteArray).size ≤ 9223372036854775807) ((s_l6Dec (((i30 : Nat) : Int).natAbs + 2) ((i30 : Nat) : Int)).bind (fun y49 => ck ((v45 ++ (⟨#[32, 32, 114, 97, 110, 103, 101, 32]⟩ : ByteArray)).size + y49.size ≤ 9223372036854775807) (ck (((v45 ++ (⟨#[32, 32, 114, 97, 110, 103, 101, 32]⟩ : ByteArray)) ++ y49).size + (⟨#[32, 118, 105, 101, 119, 32]⟩ : ByteArray).size ≤ 9223372036854775807) ((s_l6Dec (x48.Num.natAbs + 2) x48.Num).bind (fun y50 => ck ((((v45 ++ (⟨#[32, 32, 114, 97, 110, 103, 101, 32]⟩ : ByteArray)) ++ y49) ++ (⟨#[32, 118, 105, 101, 119, 32]⟩ : ByteArray)).size + y50.size ≤ 9223372036854775807) (ck (((((v45 ++ (⟨#[32, 32, 114, 97, 110, 103, 101, 32]⟩ : ByteArray)) ++ y49) ++ (⟨#[32, 118, 105, 101, 119, 32]⟩ : ByteArray)) ++ y50).size + (⟨#[58, 32]⟩ : ByteArray).size ≤ 9223372036854775807) ((s_l6Dec (x48.A.natAbs + 2) x48.A).bind (fun y51 => ck ((((((v45 ++ (⟨#[32, 32, 114, 97, 110, 103, 101, 32]⟩ : ByteArray)) ++ y49) ++ (⟨#[32, 118, 105, 101, 119, 32]⟩ : ByteArray)) ++ y50) ++ (⟨#[58, 32]⟩ : ByteArray)).size + y51.size ≤ 9223372036854775807) (cond (decide ((0 : Int) ≤ x48.B)) (ck (((((((v45 ++ (⟨#[32, 32, 114, 97, 110, 103, 101, 32]⟩ : ByteArray)) ++ y49) ++ (⟨#[32, 118, 105, 101, 119, 32]⟩ : ByteArray)) ++ y50) ++ (⟨#[58, 32]⟩ : ByteArray)) ++ y51).size + (⟨#[32]⟩ : ByteArray).size ≤ 9223372036854775807) ((s_l6Dec (x48.B.natAbs + 2) x48.B).bind (fun y52 => ck ((((((((v45 ++ (⟨#[32, 32, 114, 97, 110, 103, 101, 32]⟩ : ByteArray)) ++ y49) ++ (⟨#[32, 118, 105, 101, 119, 32]⟩ : ByteArray)) ++ y50) ++ (⟨#[58, 32]⟩ : ByteArray)) ++ y51) ++ (⟨#[32]⟩ : ByteArray)).size + y52.size ≤ 9223372036854775807) (ck (((((((((v45 ++ (⟨#[32, 32, 114, 97, 110, 103, 101, 32]⟩ : ByteArray)) ++ y49) ++ (⟨#[32, 118, 105, 101, 119, 32]⟩ : ByteArray)) ++ y50) ++ (⟨#[58, 32]⟩ : ByteArray)) ++ y51) ++ (⟨#[32]⟩ : ByteArray)) ++ y52).size + (⟨#[10]⟩ : ByteArray).size ≤ 9223372036854775807) (κ46 (((((((((v45 ++ (⟨#[32, 32, 114, 97, 110, 103, 101, 32]⟩ : ByteArray)) ++ y49) ++ (⟨#[32, 118, 105, 101, 119, 32]⟩ : ByteArray)) ++ y50) ++ (⟨#[58, 32]⟩ : ByteArray)) ++ y51) ++ (⟨#[32]⟩ : ByteArray)) ++ y52) ++ (⟨#[10]⟩ : ByteArray))))))) (ck (((((((v45 ++ (⟨#[32, 32, 114, 97, 110, 103, 101, 32]⟩ : ByteArray)) ++ y49) ++ (⟨#[32, 118, 105, 101, 119, 32]⟩ : ByteArray)) ++ y50) ++ (⟨#[58, 32]⟩ : ByteArray)) ++ y51).size + (⟨#[10]⟩ : ByteArray).size ≤ 9223372036854775807) (κ46 (((((((v45 ++ (⟨#[32, 32, 114, 97, 110, 103, 101, 32]⟩ : ByteArray)) ++ y49) ++ (⟨#[32, 118, 105, 101, 119, 32]⟩ : ByteArray)) ++ y50) ++ (⟨#[58, 32]⟩ : ByteArray)) ++ y51) ++ (⟨#[10]⟩ : ByteArray))))))))))))))) (fun (v45 : ByteArray) => some v45) a0.Views.length 0 v20) a0.Disks.length 0 (((((⟨#[109, 97, 112, 32]⟩ : ByteArray) ++ y1) ++ (⟨#[44, 32, 115, 101, 114, 118, 101, 114, 115, 32]⟩ : ByteArray)) ++ y2) ++ (⟨#[10]⟩ : ByteArray))))))))
theorem s_l64Map_c {t0_3 t0_4 t0_5 : Bool} {a0 : MapState} {r : ByteArray} (hF : s_l64Map a0 = some r) : Con Tryz.prog 13 [.val true [.u (cI a0.Slots), .u (cI a0.Servers), .u (cI a0.Next), .u (ul MapDisk.c 7 t0_3 a0.Disks), .u (ul MapView.c 3 t0_4 a0.Views), .u (ul MapDone.c 4 t0_5 a0.Done)]] [] (vstr r) [] := by
 refine Con.of_Dz tabOk Tryz.func13 rfl rfl rfl ?_
 delta s_l64Map at hF
 refine Dz.seq (Dz.reg (Dz.seq ?_))
 refine Dz.drw 1 [⟨[13,14], [], 1, 1⟩, ⟨[13,14], [0], 1, 1⟩, ⟨[13,14], [], 1, 1⟩, ⟨[13,14,15], [], 1, 1⟩, ⟨[13,14,15], [], 1, 1⟩, ⟨[8,9,10,11,12], [], 1, 1⟩, ⟨[8,9,10,11,12], [0], 1, 1⟩, ⟨[11,12], [], 1, 1⟩, ⟨[], [], 1, 1⟩, ⟨[], [], 1, 1⟩, ⟨[], [], 1, 1⟩] ⟨by kernel_rfl, by kernel_rfl, rfl⟩ ?_
 refine bdE hF (fun y1 hy1 hF => ?_)
 refine callG [] (s_l6Dec_c hy1) ⟨mv rfl, tv⟩ tv rfl ?_
 refine vck hF id (fun _ hF => ?_)
 refine vck hF id (fun _ hF => ?_)
 refine bdE hF (fun y2 hy2 hF => ?_)
 refine callG [] (s_l6Dec_c hy2) ⟨mv rfl, tv⟩ tv rfl ?_
 refine vck hF id (fun _ hF => ?_)
 refine vck hF id (fun _ hF => ?_)
 refine Dz.seq (Dz.seq (Dz.reg (Dz.blk ?_)))
 refine Dz.cnt hF (fun i3 v20 => ([(1, .ptr 0 0), (3, vstr v20), (4, vint .i64 ((i3 : Nat) : Int))], [.box 46 [.u (cI a0.Slots), .u (cI a0.Servers), .u (cI a0.Next), .u (ul MapDisk.c 7 t0_3 a0.Disks), .u (ul MapView.c 3 t0_4 a0.Views), .u (ul MapDone.c 4 t0_5 a0.Done)]])) (entG [0] ⟨mp rfl, mv rfl, mv rfl, tv⟩ ⟨⟨rfl, o_box rfl⟩, tv⟩ rfl) (fun v20 hF => ?_) (fun i3 v20 κ21 hi0i3 hi1i3 hF => ?_)
 ·refine Dz.seq (Dz.seq (Dz.reg ?_))
  intro hb29; replace hb29 : a0.Disks.length ≤ 140737488355328 := hb29
  refine Dz.ff (b := decide (((0 + a0.Disks.length : Nat) : Int) < ((a0.Disks.length : Nat) : Int))) rfl (decide_eq_false (by omega)) ?_
  refine Dz.exit (Dz.seq (Dz.seq (Dz.reg (Dz.blk ?_))))
  refine Dz.cnt hF (fun i30 v45 => ([(1, .ptr 0 0), (3, vstr v45), (6, vint .i64 ((i30 : Nat) : Int))], [.box 46 [.u (cI a0.Slots), .u (cI a0.Servers), .u (cI a0.Next), .u (ul MapDisk.c 7 t0_3 a0.Disks), .u (ul MapView.c 3 t0_4 a0.Views), .u (ul MapDone.c 4 t0_5 a0.Done)]])) (entG [0] ⟨mp rfl, mv rfl, mv rfl, tv⟩ ⟨⟨rfl, o_box rfl⟩, tv⟩ rfl) (fun v45 hF => ?_) (fun i30 v45 κ46 hi0i30 hi1i30 hF => ?_)
  ·refine Dz.seq (Dz.seq (Dz.reg ?_))
   intro hb53; replace hb53 : a0.Views.length ≤ 140737488355328 := hb53
   refine Dz.ff (b := decide (((0 + a0.Views.length : Nat) : Int) < ((a0.Views.length : Nat) : Int))) rfl (decide_eq_false (by omega)) ?_
   refine Dz.exit (Dz.seq (Dz.reg (Dz.ret ?_)))
   cases hF
   exact finG [] [] rfl rfl (mv rfl) tv rfl
  ·refine Dz.seq (Dz.seq (Dz.reg ?_))
   intro hb47; replace hb47 : a0.Views.length ≤ 140737488355328 := hb47
   refine Dz.tt (b := decide (((i30 : Nat) : Int) < ((a0.Views.length : Nat) : Int))) rfl (decide_eq_true (by omega)) ?_
   refine Dz.skip (Dz.seq (Dz.blk (Dz.seq (Dz.reg ?_))))
   refine vge (n := ((i30 : Nat) : Int)) (hi := (a0.Views.length : Int)) (by omega) (by omega) ?_
   have hF := ltE hF
   refine Dz.seq ?_
   refine Dz.drw 2 [⟨[67,68,71,72,73,76,77,78], [], 2, 2⟩, ⟨[67,68,71,72,73,76,77,78], [], 2, 2⟩, ⟨[65,66,71,72,76,77], [], 2, 2⟩, ⟨[65,66,71,72,76,77], [], 2, 2⟩, ⟨[71,72,73,76,77,78], [], 2, 2⟩, ⟨[71,72,73,76,77,78], [], 2, 2⟩, ⟨[65,66,67,68,69,70,76,77], [], 2, 2⟩, ⟨[65,66,67,68,69,70,76,77], [1], 2, 2⟩, ⟨[65,66,69,70,76,77], [], 2, 2⟩, ⟨[76,77,78], [], 2, 2⟩, ⟨[76,77,78], [], 2, 2⟩, ⟨[65,66,67,68,69,70,71,72,73,74,75], [], 2, 2⟩, ⟨[65,66,67,68,69,70,71,72,73,74,75], [1], 2, 2⟩, ⟨[65,66,69,70,74,75], [], 2, 2⟩, ⟨[], [], 2, 2⟩, ⟨[], [], 2, 2⟩] ⟨by kernel_rfl, by kernel_rfl, rfl⟩ ?_
   refine vck hF id (fun _ hF => ?_)
   refine bdE hF (fun y49 hy49 hF => ?_)
   refine callG [] (s_l6Dec_c hy49) ⟨mv rfl, tv⟩ tv rfl ?_
   refine vck hF id (fun _ hF => ?_)
   refine vck hF id (fun _ hF => ?_)
   refine bdE hF (fun y50 hy50 hF => ?_)
   refine callG [] (s_l6Dec_c hy50) ⟨mv rfl, tv⟩ tv rfl ?_
   refine vck hF id (fun _ hF => ?_)
   refine vck hF id (fun _ hF => ?_)
   refine bdE hF (fun y51 hy51 hF => ?_)
   refine callG [] (s_l6Dec_c hy51) ⟨mv rfl, tv⟩ tv rfl ?_
   refine vck hF id (fun _ hF => ?_)
   refine Dz.seq (Dz.seq (Dz.reg ?_))
   refine Dz.ite rfl hF (fun _ hF => ?_) (fun _ hF => ?_)
   ·refine Dz.reg ?_
    refine vck hF id (fun _ hF => ?_)
    refine bdE hF (fun y52 hy52 hF => ?_)
    refine callG [] (s_l6Dec_c hy52) ⟨mv rfl, tv⟩ tv rfl ?_
    refine vck hF id (fun _ hF => ?_)
    refine Dz.reg ?_
    refine vck hF id (fun _ hF => ?_)
    refine Dz.reg ?_
    refine vsucc (by omega) ?_
    exact ⟨(((((((((v45 ++ (⟨#[32, 32, 114, 97, 110, 103, 101, 32]⟩ : ByteArray)) ++ y49) ++ (⟨#[32, 118, 105, 101, 119, 32]⟩ : ByteArray)) ++ y50) ++ (⟨#[58, 32]⟩ : ByteArray)) ++ y51) ++ (⟨#[32]⟩ : ByteArray)) ++ y52) ++ (⟨#[10]⟩ : ByteArray)), entG [0] ⟨mp rfl, mv rfl, mv rfl, tv⟩ ⟨⟨rfl, o_box rfl⟩, tv⟩ rfl, hF⟩
   ·refine Dz.skip (Dz.reg ?_)
    refine vck hF id (fun _ hF => ?_)
    refine Dz.reg ?_
    refine vsucc (by omega) ?_
    exact ⟨(((((((v45 ++ (⟨#[32, 32, 114, 97, 110, 103, 101, 32]⟩ : ByteArray)) ++ y49) ++ (⟨#[32, 118, 105, 101, 119, 32]⟩ : ByteArray)) ++ y50) ++ (⟨#[58, 32]⟩ : ByteArray)) ++ y51) ++ (⟨#[10]⟩ : ByteArray)), entG [0] ⟨mp rfl, mv rfl, mv rfl, tv⟩ ⟨⟨rfl, o_box rfl⟩, tv⟩ rfl, hF⟩
 ·refine Dz.seq (Dz.seq (Dz.reg ?_))
  intro hb22; replace hb22 : a0.Disks.length ≤ 140737488355328 := hb22
  refine Dz.tt (b := decide (((i3 : Nat) : Int) < ((a0.Disks.length : Nat) : Int))) rfl (decide_eq_true (by omega)) ?_
  refine Dz.skip (Dz.seq (Dz.blk (Dz.seq (Dz.reg ?_))))
  refine vge (n := ((i3 : Nat) : Int)) (hi := (a0.Disks.length : Int)) (by omega) (by omega) ?_
  have hF := ltE hF
  refine Dz.drw 2 [⟨[32,33,34,37,38,39,42,43,44,46,47,48,49,50], [], 2, 2⟩, ⟨[32,33,34,37,38,39,42,43,44,46,47,48,49,50], [], 2, 2⟩, ⟨[30,31,37,38,42,43,46,47,48,49,50], [], 2, 2⟩, ⟨[30,31,37,38,42,43,46,47,48,49,50], [1], 2, 2⟩, ⟨[30,31,37,38,42,43,46,47,48,49,50], [], 2, 2⟩, ⟨[37,38,39,42,43,44,46,47,48,49,50], [], 2, 2⟩, ⟨[37,38,39,42,43,44,46,47,48,49,50], [], 2, 2⟩, ⟨[30,31,32,33,34,35,36,42,43,46,47,48,49,50], [], 2, 2⟩, ⟨[30,31,32,33,34,35,36,42,43,46,47,48,49,50], [1], 2, 2⟩, ⟨[30,31,35,36,42,43,46,47,48,49,50], [], 2, 2⟩, ⟨[42,43,44,46,47,48,49,50], [], 2, 2⟩, ⟨[42,43,44,46,47,48,49,50], [], 2, 2⟩, ⟨[30,31,32,33,34,35,36,37,38,39,40,41,46,47,48,49,50], [], 2, 2⟩, ⟨[30,31,32,33,34,35,36,37,38,39,40,41,46,47,48,49,50], [1], 2, 2⟩, ⟨[30,31,35,36,40,41,46,47,48,49,50], [], 2, 2⟩, ⟨[46,47,48,49,50], [], 2, 2⟩, ⟨[30,31,32,33,34,35,36,37,38,39,40,41,42,43,44,45,47,48], [], 2, 3⟩, ⟨[30,31,32,33,34,35,36,37,38,39,40,41,42,43,44,45,46], [], 3, 3⟩, ⟨[30,31,32,33,34,35,36,37,38,39,40,41,42,43,44,45,46], [1], 3, 3⟩, ⟨[30,31,32,33,34,35,36,37,38,39,40,41,42,43,44,45], [2], 3, 3⟩, ⟨[30,31,32,33,34,35,36,37,38,39,40,41,42,43,44,45], [2], 3, 3⟩, ⟨[], [], 3, 3⟩, ⟨[], [], 3, 3⟩, ⟨[], [], 3, 3⟩] ⟨by kernel_rfl, by kernel_rfl, rfl⟩ ?_
  refine vck hF id (fun _ hF => ?_)
  refine bdE hF (fun y24 hy24 hF => ?_)
  refine callG [] (s_l6Dec_c hy24) ⟨mv rfl, tv⟩ tv rfl ?_
  refine vck hF id (fun _ hF => ?_)
  refine vck hF id (fun _ hF => ?_)
  refine bdE hF (fun y25 hy25 hF => ?_)
  refine callG [] (s_l6Dec_c hy25) ⟨mv rfl, tv⟩ tv rfl ?_
  refine vck hF id (fun _ hF => ?_)
  refine vck hF id (fun _ hF => ?_)
  refine bdE hF (fun y26 hy26 hF => ?_)
  refine callG [] (s_l6Dec_c hy26) ⟨mv rfl, tv⟩ tv rfl ?_
  refine vck hF id (fun _ hF => ?_)
  refine vix (L := ([(⟨#[]⟩ : ByteArray), (⟨#[32, 115, 110, 97, 112, 112, 105, 110, 103]⟩ : ByteArray), (⟨#[32, 103, 111, 105, 110, 103]⟩ : ByteArray)] : List ByteArray)) (i := (a0.Disks.getD i3 default).Frozen) hF (fun ha27 hb28 hF => ?_)
  refine vck hF id (fun _ hF => ?_)
  refine vck hF id (fun _ hF => ?_)
  refine Dz.row 2 ([(⟨#[]⟩ : ByteArray), (⟨#[32, 115, 110, 97, 112, 112, 105, 110, 103]⟩ : ByteArray), (⟨#[32, 103, 111, 105, 110, 103]⟩ : ByteArray)] : List ByteArray).length (gl cStr ([(⟨#[]⟩ : ByteArray), (⟨#[32, 115, 110, 97, 112, 112, 105, 110, 103]⟩ : ByteArray), (⟨#[32, 103, 111, 105, 110, 103]⟩ : ByteArray)] : List ByteArray)) rfl (by simp <;> omega) (EqG.refl _ _ _) ?_
  refine Dz.reg ?_
  refine vsucc (by omega) ?_
  exact ⟨((((((((v20 ++ (⟨#[32, 32, 100, 105, 115, 107, 32]⟩ : ByteArray)) ++ y24) ++ (⟨#[32, 115, 105, 122, 101, 32]⟩ : ByteArray)) ++ y25) ++ (⟨#[32, 101, 112, 111, 99, 104, 32]⟩ : ByteArray)) ++ y26) ++ (([(⟨#[]⟩ : ByteArray), (⟨#[32, 115, 110, 97, 112, 112, 105, 110, 103]⟩ : ByteArray), (⟨#[32, 103, 111, 105, 110, 103]⟩ : ByteArray)] : List ByteArray).getD (a0.Disks.getD i3 default).Frozen.toNat default)) ++ (⟨#[10]⟩ : ByteArray)), entG [0] ⟨mp rfl, mv rfl, mv rfl, tv⟩ ⟨⟨rfl, o_box rfl⟩, tv⟩ rfl, hF⟩
def s_MapStart : Option (MapState) :=
 loopN (fun i1 (v6 : List MapView) κ7 => ck ((v6.length + 1) * 24 ≤ 140737488355328) (κ7 (v6 ++ ([({ Num := 1, A := (Int.tmod ((i1 : Nat) : Int) 3), B := (Int.tmod ((i1 + 1 : Nat) : Int) 3) } : MapView)] : List MapView)))) (fun (v6 : List MapView) => some ({ Slots := 0, Servers := 3, Next := 1, Disks := [], Views := v6, Done := [] } : MapState)) 3 0 ([] : List MapView)
theorem s_MapStart_c {r : MapState} (hF : s_MapStart = some r) : Con Tryz.prog 72 [] [] (.val true [.u (cI r.Slots), .u (cI r.Servers), .u (cI r.Next), .u (ul MapDisk.c 7 false r.Disks), .row 0, .u (ul MapDone.c 4 false r.Done)]) [.row 116 r.Views.length 3 (gl MapView.c r.Views)] := by
 refine Con.of_Dz tabOk Tryz.func72 rfl rfl rfl ?_
 delta s_MapStart at hF
 refine Dz.seq (Dz.reg (Dz.seq (Dz.reg (Dz.seq (Dz.seq (Dz.reg (Dz.blk ?_)))))))
 refine Dz.cnt hF (fun i1 v6 => ([(0, .ptr 0 0), (1, .ptr 1 0), (2, vint .i64 ((i1 : Nat) : Int))], [.box 46 [.u (cI 0), .u (cI 0), .u (cI 0), .nil, .nil, .nil], .box 46 [.u (cI 0), .u (cI 3), .u (cI 1), .nil, .row 2, .nil], .row 116 v6.length 3 (gl MapView.c v6)])) (entF [.leaf 1 4 116 3] [0, 1, 2] rfl ⟨mp rfl, mp rfl, mv rfl, tv⟩ ⟨⟨rfl, ⟨rfl, lr, lr, lr, tv, tv, tv, tv⟩⟩, ⟨rfl, ⟨rfl, lr, lr, lr, tv, rfl, tv, tv⟩⟩, ⟨rfl, o_rowE (by simp <;> omega) EqG.nilr⟩, tv⟩ rfl) (fun v6 hF => ?_) (fun i1 v6 κ7 hi0i1 hi1i1 hF => ?_)
 ·refine Dz.seq (Dz.seq (Dz.reg ?_))
  refine Dz.ff (b := decide (((0 + 3 : Nat) : Int) < 3)) rfl (decide_eq_false (by omega)) ?_
  refine Dz.exit (Dz.seq (Dz.reg (Dz.ret ?_)))
  cases hF
  exact finG [] [2] rfl rfl (⟨rfl, lr, lr, lr, ⟨_, _, _, rfl⟩, rfl, ⟨_, _, _, rfl⟩, tv⟩) ⟨⟨rfl, o_row⟩, tv⟩ rfl
 ·refine Dz.seq (Dz.seq (Dz.reg ?_))
  refine Dz.tt (b := decide (((i1 : Nat) : Int) < 3)) rfl (decide_eq_true (by omega)) ?_
  refine Dz.skip (Dz.seq (Dz.blk (Dz.reg ?_)))
  refine ⟨by decide, _, rfl, ?_⟩
  refine vsucc (by omega) ?_
  refine ⟨by decide, _, rfl, ?_⟩
  refine vck hF id (fun _ hF => ?_)
  refine Dz.row 3 ([({ Num := 1, A := (Int.tmod ((i1 : Nat) : Int) 3), B := (Int.tmod ((i1 + 1 : Nat) : Int) 3) } : MapView)] : List MapView).length (gl MapView.c ([({ Num := 1, A := (Int.tmod ((i1 : Nat) : Int) 3), B := (Int.tmod ((i1 + 1 : Nat) : Int) 3) } : MapView)] : List MapView)) rfl (by simp <;> omega) (EqG.lit (c := MapView.c) (sz := 3) (L := ([({ Num := 1, A := (Int.tmod ((i1 : Nat) : Int) 3), B := (Int.tmod ((i1 + 1 : Nat) : Int) 3) } : MapView)] : List MapView)) ⟨lr, lr, lr, tv⟩) ?_
  refine Dz.row 4 (v6 ++ ([({ Num := 1, A := (Int.tmod ((i1 : Nat) : Int) 3), B := (Int.tmod ((i1 + 1 : Nat) : Int) 3) } : MapView)] : List MapView)).length (gl MapView.c (v6 ++ ([({ Num := 1, A := (Int.tmod ((i1 : Nat) : Int) 3), B := (Int.tmod ((i1 + 1 : Nat) : Int) 3) } : MapView)] : List MapView))) rfl (by simp <;> omega) (EqG.app rfl (by simp <;> omega) (EqG.refl _ _ _) (EqG.lit (c := MapView.c) (sz := 3) (L := ([({ Num := 1, A := (Int.tmod ((i1 : Nat) : Int) 3), B := (Int.tmod ((i1 + 1 : Nat) : Int) 3) } : MapView)] : List MapView)) ⟨lr, lr, lr, tv⟩)) ?_
  refine Dz.reg ?_
  refine vsucc (by omega) ?_
  exact ⟨(v6 ++ ([({ Num := 1, A := (Int.tmod ((i1 : Nat) : Int) 3), B := (Int.tmod ((i1 + 1 : Nat) : Int) 3) } : MapView)] : List MapView)), entG [0, 1, 4] ⟨mp rfl, mp rfl, mv rfl, tv⟩ ⟨⟨rfl, ⟨rfl, lr, lr, lr, tv, tv, tv, tv⟩⟩, ⟨rfl, ⟨rfl, lr, lr, lr, tv, rfl, tv, tv⟩⟩, ⟨rfl, o_row⟩, tv⟩ rfl, hF⟩
def s_l22Has (a0 : (List Int)) (a1 : Int) : Option (Bool) :=
 loopN (fun i1 (v3 : Unit) κ4 => cond (decide ((a0.getD i1 default) = a1)) (some true) (κ4 ())) (fun (v3 : Unit) => some false) a0.length 0 ()
theorem s_l22Has_c {t0_0 : Bool} {a0 : (List Int)} {a1 : Int} {r : Bool} (hF : s_l22Has a0 a1 = some r) : Con Tryz.prog 158 [.val false [.u (ul cInt 1 t0_0 a0)], vint .i64 a1] [] (vbool r) [] := by
 refine Con.of_Dz tabOk Tryz.func158 rfl rfl rfl ?_
 delta s_l22Has at hF
 refine Dz.seq (Dz.reg (Dz.seq (Dz.seq (Dz.reg (Dz.blk ?_)))))
 refine Dz.cnt hF (fun i1 v3 => ([(0, .val false [.u (ul cInt 1 t0_0 a0)]), (1, vint .i64 a1), (5, vint .i64 ((i1 : Nat) : Int))], [])) (entG [] ⟨mv rfl, mv rfl, mv rfl, tv⟩ tv rfl) (fun v3 hF => ?_) (fun i1 v3 κ4 hi0i1 hi1i1 hF => ?_)
 ·refine Dz.seq (Dz.seq (Dz.reg ?_))
  intro hb6; replace hb6 : a0.length ≤ 140737488355328 := hb6
  refine Dz.ff (b := decide (((0 + a0.length : Nat) : Int) < ((a0.length : Nat) : Int))) rfl (decide_eq_false (by omega)) ?_
  refine Dz.exit (Dz.seq (Dz.reg (Dz.ret ?_)))
  cases hF
  exact finG [] [] rfl rfl (mv rfl) tv rfl
 ·refine Dz.seq (Dz.seq (Dz.reg ?_))
  intro hb5; replace hb5 : a0.length ≤ 140737488355328 := hb5
  refine Dz.tt (b := decide (((i1 : Nat) : Int) < ((a0.length : Nat) : Int))) rfl (decide_eq_true (by omega)) ?_
  refine Dz.skip (Dz.seq (Dz.blk (Dz.seq (Dz.reg ?_))))
  refine vge (n := ((i1 : Nat) : Int)) (hi := (a0.length : Int)) (by omega) (by omega) ?_
  refine Dz.ite rfl hF (fun _ hF => ?_) (fun _ hF => ?_)
  ·refine Dz.seq (Dz.reg (Dz.ret ?_))
   cases hF
   exact finG [] [] rfl rfl (mv rfl) tv rfl
  ·refine Dz.skip (Dz.reg ?_)
   refine vsucc (by omega) ?_
   exact ⟨(), entG [] ⟨mv rfl, mv rfl, mv rfl, tv⟩ tv rfl, hF⟩
def s_l31DiskOk (a0 : MapState) (a1 : MapDisk) : Option (Bool) :=
 (s_l6In a1.Id 1 (w64 (a0.Next - 1))).bind (fun y1 => cond (!y1) (some false) ((s_l6In a1.Size 1 8).bind (fun y2 => cond (!y2) (some false) ((s_l6In a1.Epoch 1 99999).bind (fun y3 => cond (!y3) (some false) ((s_l6In a1.Frozen 0 2).bind (fun y4 => cond (!y4) (some false) (cond (decide (a1.Frozen = 0)) (cond (decide (a1.Client = 0)) (cond (decide (a1.Call = 0)) (some (decide (((a1.Acks.length : Nat) : Int) = 0))) (some false)) (some false)) ((s_l6In a1.Client 0 3).bind (fun y6 => cond (!y6) (some false) ((s_l6In a1.Call 1 99999).bind (fun y7 => cond (!y7) (some false) (cond (decide ((3 : Int) ≤ ((a1.Acks.length : Nat) : Int))) (some false) (loopN (fun i9 (v13 : Unit) κ14 => (s_l6In (a1.Acks.getD i9 default) 0 2).bind (fun y16 => cond (!y16) (some false) (ck (0 ≤ ((i9 : Nat) : Int) ∧ ((i9 : Nat) : Int) ≤ (a1.Acks.length : Int)) ((s_l22Has (a1.Acks.take i9) (a1.Acks.getD i9 default)).bind (fun y17 => cond y17 (some false) (κ14 ())))))) (fun (v13 : Unit) => some true) a1.Acks.length 0 ()))))))))))))))
theorem s_l31DiskOk_c {t0_3 t0_4 t0_5 t1_6 : Bool} {a0 : MapState} {a1 : MapDisk} {r : Bool} (hF : s_l31DiskOk a0 a1 = some r) : Con Tryz.prog 156 [.val true [.u (cI a0.Slots), .u (cI a0.Servers), .u (cI a0.Next), .u (ul MapDisk.c 7 t0_3 a0.Disks), .u (ul MapView.c 3 t0_4 a0.Views), .u (ul MapDone.c 4 t0_5 a0.Done)], .val true [.u (cI a1.Id), .u (cI a1.Size), .u (cI a1.Epoch), .u (cI a1.Frozen), .u (cI a1.Client), .u (cI a1.Call), .u (ul cInt 1 t1_6 a1.Acks)]] [] (vbool r) [] := by
 refine Con.of_Dz tabOk Tryz.func156 rfl rfl rfl ?_
 delta s_l31DiskOk at hF
 refine Dz.seq (Dz.reg (Dz.seq (Dz.seq (Dz.reg (vw64 ?_)))))
 refine bdE hF (fun y1 hy1 hF => ?_)
 refine callG [] (s_l6In_c hy1) ⟨mv rfl, mv rfl, mv rfl, tv⟩ tv rfl ?_
 refine vif hF (fun _ hF => ?_) (fun _ hF => ?_)
 ·refine Dz.tt (b := true) rfl rfl ?_
  refine Dz.seq (Dz.reg (Dz.ret ?_))
  cases hF
  exact finG [] [] rfl rfl (mv rfl) tv rfl
 ·refine bdE hF (fun y2 hy2 hF => ?_)
  refine callG [] (s_l6In_c hy2) ⟨mv rfl, mv rfl, mv rfl, tv⟩ tv rfl ?_
  refine vif hF (fun _ hF => ?_) (fun _ hF => ?_)
  ·refine Dz.tt (b := true) rfl rfl ?_
   refine Dz.seq (Dz.reg (Dz.ret ?_))
   cases hF
   exact finG [] [] rfl rfl (mv rfl) tv rfl
  ·refine bdE hF (fun y3 hy3 hF => ?_)
   refine callG [] (s_l6In_c hy3) ⟨mv rfl, mv rfl, mv rfl, tv⟩ tv rfl ?_
   refine vif hF (fun _ hF => ?_) (fun _ hF => ?_)
   ·refine Dz.tt (b := true) rfl rfl ?_
    refine Dz.seq (Dz.reg (Dz.ret ?_))
    cases hF
    exact finG [] [] rfl rfl (mv rfl) tv rfl
   ·refine bdE hF (fun y4 hy4 hF => ?_)
    refine callG [] (s_l6In_c hy4) ⟨mv rfl, mv rfl, mv rfl, tv⟩ tv rfl ?_
    refine Dz.ite rfl hF (fun _ hF => ?_) (fun _ hF => ?_)
    ·refine Dz.seq (Dz.reg (Dz.ret ?_))
     cases hF
     exact finG [] [] rfl rfl (mv rfl) tv rfl
    ·refine Dz.skip (Dz.seq (Dz.seq (Dz.reg ?_)))
     refine Dz.ite rfl hF (fun _ hF => ?_) (fun _ hF => ?_)
     ·refine Dz.seq (Dz.reg ?_)
      refine vif hF (fun _ hF => ?_) (fun _ hF => ?_)
      ·refine vif hF (fun _ hF => ?_) (fun _ hF => ?_)
       ·intro hb5; replace hb5 : a1.Acks.length ≤ 140737488355328 := hb5
        refine Dz.ret ?_
        cases hF
        exact finG [] [] rfl rfl (mv rfl) tv rfl
       ·refine Dz.ret ?_
        cases hF
        exact finG [] [] rfl rfl (mv rfl) tv rfl
      ·refine Dz.ret ?_
       cases hF
       exact finG [] [] rfl rfl (mv rfl) tv rfl
     ·refine Dz.skip (Dz.seq (Dz.seq (Dz.reg ?_)))
      refine bdE hF (fun y6 hy6 hF => ?_)
      refine callG [] (s_l6In_c hy6) ⟨mv rfl, mv rfl, mv rfl, tv⟩ tv rfl ?_
      refine vif hF (fun _ hF => ?_) (fun _ hF => ?_)
      ·refine Dz.tt (b := true) rfl rfl ?_
       refine Dz.seq (Dz.reg (Dz.ret ?_))
       cases hF
       exact finG [] [] rfl rfl (mv rfl) tv rfl
      ·refine bdE hF (fun y7 hy7 hF => ?_)
       refine callG [] (s_l6In_c hy7) ⟨mv rfl, mv rfl, mv rfl, tv⟩ tv rfl ?_
       refine vif hF (fun _ hF => ?_) (fun _ hF => ?_)
       ·refine Dz.tt (b := true) rfl rfl ?_
        refine Dz.seq (Dz.reg (Dz.ret ?_))
        cases hF
        exact finG [] [] rfl rfl (mv rfl) tv rfl
       ·intro hb8; replace hb8 : a1.Acks.length ≤ 140737488355328 := hb8
        refine Dz.ite rfl hF (fun _ hF => ?_) (fun _ hF => ?_)
        ·refine Dz.seq (Dz.reg (Dz.ret ?_))
         cases hF
         exact finG [] [] rfl rfl (mv rfl) tv rfl
        ·refine Dz.skip (Dz.seq (Dz.seq (Dz.reg (Dz.blk ?_))))
         refine Dz.cnt hF (fun i9 v13 => ([(3, .ptr 0 0), (5, vint .i64 ((i9 : Nat) : Int))], [.box 113 [.u (cI a1.Id), .u (cI a1.Size), .u (cI a1.Epoch), .u (cI a1.Frozen), .u (cI a1.Client), .u (cI a1.Call), .u (ul cInt 1 t1_6 a1.Acks)]])) (entG [1] ⟨mp rfl, mv rfl, tv⟩ ⟨⟨rfl, o_box rfl⟩, tv⟩ rfl) (fun v13 hF => ?_) (fun i9 v13 κ14 hi0i9 hi1i9 hF => ?_)
         ·refine Dz.seq (Dz.seq (Dz.reg ?_))
          intro hb18; replace hb18 : a1.Acks.length ≤ 140737488355328 := hb18
          refine Dz.ff (b := decide (((0 + a1.Acks.length : Nat) : Int) < ((a1.Acks.length : Nat) : Int))) rfl (decide_eq_false (by omega)) ?_
          refine Dz.exit (Dz.seq (Dz.reg (Dz.ret ?_)))
          cases hF
          exact finG [] [] rfl rfl (mv rfl) tv rfl
         ·refine Dz.seq (Dz.seq (Dz.reg ?_))
          intro hb15; replace hb15 : a1.Acks.length ≤ 140737488355328 := hb15
          refine Dz.tt (b := decide (((i9 : Nat) : Int) < ((a1.Acks.length : Nat) : Int))) rfl (decide_eq_true (by omega)) ?_
          refine Dz.skip (Dz.seq (Dz.blk (Dz.seq ?_)))
          refine Dz.drw 1 [⟨[73], [], 1, 1⟩, ⟨[73], [0], 1, 1⟩, ⟨[71,72], [], 1, 1⟩, ⟨[], [], 1, 1⟩, ⟨[], [], 1, 1⟩, ⟨[], [], 1, 1⟩, ⟨[], [], 1, 1⟩, ⟨[], [], 1, 1⟩, ⟨[81,83,84,85,86,87], [], 1, 1⟩, ⟨[81,83,84,85,86,87], [0], 1, 1⟩, ⟨[79,80,83,84,85,86,87], [], 1, 1⟩, ⟨[83,84,85,86,87], [], 1, 1⟩, ⟨[79,80,81,82,85], [], 1, 1⟩, ⟨[79,80,81,82,85], [0], 1, 1⟩, ⟨[79,80,81,82,83,84], [], 1, 1⟩, ⟨[79,80,81,82], [], 1, 1⟩, ⟨[79,80,81,82], [], 1, 1⟩, ⟨[], [], 1, 1⟩, ⟨[], [], 1, 1⟩] ⟨by kernel_rfl, by kernel_rfl, rfl⟩ ?_
          refine vge (n := ((i9 : Nat) : Int)) (hi := (a1.Acks.length : Int)) (by omega) (by omega) ?_
          refine bdE hF (fun y16 hy16 hF => ?_)
          refine callG [] (s_l6In_c hy16) ⟨mv rfl, mv rfl, mv rfl, tv⟩ tv rfl ?_
          refine vif hF (fun _ hF => ?_) (fun _ hF => ?_)
          ·refine Dz.tt (b := true) rfl rfl ?_
           refine Dz.seq (Dz.reg (Dz.ret ?_))
           cases hF
           exact finG [] [] rfl rfl (mv rfl) tv rfl
          ·refine vck hF id (fun _ hF => ?_)
           refine vge (n := ((i9 : Nat) : Int)) (hi := (a1.Acks.length : Int)) (by omega) (by omega) ?_
           refine bdE hF (fun y17 hy17 hF => ?_)
           refine callG [] (s_l22Has_c hy17) ⟨⟨rfl, LeU.cut (by simp <;> omega) (EqG.take _), tv⟩, mv rfl, tv⟩ tv rfl ?_
           refine Dz.slotLe 82 (ul cInt 1 t1_6 (a1.Acks.take i9)) rfl (LeU.cut (by simp <;> omega) (EqG.take _)) ?_
           refine Dz.ite rfl hF (fun _ hF => ?_) (fun _ hF => ?_)
           ·refine Dz.seq (Dz.reg (Dz.ret ?_))
            cases hF
            exact finG [] [] rfl rfl (mv rfl) tv rfl
           ·refine Dz.skip (Dz.reg ?_)
            refine vsucc (by omega) ?_
            exact ⟨(), entG [0] ⟨mp rfl, mv rfl, tv⟩ ⟨⟨rfl, o_box rfl⟩, tv⟩ rfl, hF⟩
def s_MapOk (a0 : MapState) : Option (Bool) :=
 (s_l6In a0.Slots 0 60).bind (fun y1 => cond (!y1) (some false) ((s_l6In a0.Servers 3 5).bind (fun y2 => cond (!y2) (some false) ((s_l6In a0.Next 1 5).bind (fun y3 => cond (!y3) (some false) (cond (decide ((4 : Int) < ((a0.Disks.length : Nat) : Int))) (some false) (cond (!decide (((a0.Views.length : Nat) : Int) = 3)) (some false) (cond (decide ((4 : Int) < ((a0.Done.length : Nat) : Int))) (some false) (loopN (fun i7 (v12 : Unit) κ13 => lt (a0.Disks.getD i7 default) (fun x15 => (s_l31DiskOk a0 x15).bind (fun y16 => cond (!y16) (some false) (cond (decide ((0 : Int) < ((i7 : Nat) : Int))) (ix a0.Disks (((i7 : Nat) : Int) - 1) (fun x17 => cond (decide ((a0.Disks.getD i7 default).Id ≤ x17.Id)) (some false) (κ13 ()))) (κ13 ()))))) (fun (v12 : Unit) => loopN (fun i19 (v25 : Unit) κ26 => lt (a0.Views.getD i19 default) (fun x28 => (s_l6In x28.Num 1 99999).bind (fun y29 => cond (!y29) (some false) ((s_l6In x28.A 0 (w64 (a0.Servers - 1))).bind (fun y30 => cond (!y30) (some false) ((s_l6In x28.B (-1) (w64 (a0.Servers - 1))).bind (fun y31 => cond (!y31) (some false) (cond (decide (x28.A = x28.B)) (some false) (κ26 ()))))))))) (fun (v25 : Unit) => loopN (fun i33 (v41 : Unit) κ42 => lt (a0.Done.getD i33 default) (fun x44 => (s_l6In x44.Client 0 3).bind (fun y45 => cond (!y45) (some false) ((s_l6In x44.Call 1 99999).bind (fun y46 => cond (!y46) (some false) ((s_l6In x44.Code 0 6).bind (fun y47 => cond (!y47) (some false) ((s_l11Num x44.Value).bind (fun y48 => cond (!y48) (some false) (cond (decide ((0 : Int) < ((i33 : Nat) : Int))) (ix a0.Done (((i33 : Nat) : Int) - 1) (fun x49 => cond (decide (x44.Client ≤ x49.Client)) (some false) (κ42 ()))) (κ42 ()))))))))))) (fun (v41 : Unit) => some true) a0.Done.length 0 ()) a0.Views.length 0 ()) a0.Disks.length 0 ())))))))))
theorem s_MapOk_c {t0_3 t0_4 t0_5 : Bool} {a0 : MapState} {r : Bool} (hF : s_MapOk a0 = some r) : Con Tryz.prog 116 [.val true [.u (cI a0.Slots), .u (cI a0.Servers), .u (cI a0.Next), .u (ul MapDisk.c 7 t0_3 a0.Disks), .u (ul MapView.c 3 t0_4 a0.Views), .u (ul MapDone.c 4 t0_5 a0.Done)]] [] (vbool r) [] := by
 refine Con.of_Dz tabOk Tryz.func116 rfl rfl rfl ?_
 delta s_MapOk at hF
 refine Dz.seq (Dz.reg (Dz.seq (Dz.seq (Dz.reg ?_))))
 refine bdE hF (fun y1 hy1 hF => ?_)
 refine callG [] (s_l6In_c hy1) ⟨mv rfl, mv rfl, mv rfl, tv⟩ tv rfl ?_
 refine vif hF (fun _ hF => ?_) (fun _ hF => ?_)
 ·refine Dz.tt (b := true) rfl rfl ?_
  refine Dz.seq (Dz.reg (Dz.ret ?_))
  cases hF
  exact finG [] [] rfl rfl (mv rfl) tv rfl
 ·refine bdE hF (fun y2 hy2 hF => ?_)
  refine callG [] (s_l6In_c hy2) ⟨mv rfl, mv rfl, mv rfl, tv⟩ tv rfl ?_
  refine vif hF (fun _ hF => ?_) (fun _ hF => ?_)
  ·refine Dz.tt (b := true) rfl rfl ?_
   refine Dz.seq (Dz.reg (Dz.ret ?_))
   cases hF
   exact finG [] [] rfl rfl (mv rfl) tv rfl
  ·refine bdE hF (fun y3 hy3 hF => ?_)
   refine callG [] (s_l6In_c hy3) ⟨mv rfl, mv rfl, mv rfl, tv⟩ tv rfl ?_
   refine vif hF (fun _ hF => ?_) (fun _ hF => ?_)
   ·refine Dz.tt (b := true) rfl rfl ?_
    refine Dz.seq (Dz.reg (Dz.ret ?_))
    cases hF
    exact finG [] [] rfl rfl (mv rfl) tv rfl
   ·intro hb4; replace hb4 : a0.Disks.length ≤ 140737488355328 := hb4
    refine vif hF (fun _ hF => ?_) (fun _ hF => ?_)
    ·refine Dz.tt (b := true) rfl rfl ?_
     refine Dz.seq (Dz.reg (Dz.ret ?_))
     cases hF
     exact finG [] [] rfl rfl (mv rfl) tv rfl
    ·intro hb5; replace hb5 : a0.Views.length ≤ 140737488355328 := hb5
     refine vif hF (fun _ hF => ?_) (fun _ hF => ?_)
     ·refine Dz.tt (b := true) rfl rfl ?_
      refine Dz.seq (Dz.reg (Dz.ret ?_))
      cases hF
      exact finG [] [] rfl rfl (mv rfl) tv rfl
     ·intro hb6; replace hb6 : a0.Done.length ≤ 140737488355328 := hb6
      refine Dz.ite rfl hF (fun _ hF => ?_) (fun _ hF => ?_)
      ·refine Dz.seq (Dz.reg (Dz.ret ?_))
       cases hF
       exact finG [] [] rfl rfl (mv rfl) tv rfl
      ·refine Dz.skip (Dz.seq (Dz.seq (Dz.reg (Dz.blk ?_))))
       refine Dz.cnt hF (fun i7 v12 => ([(1, .ptr 0 0), (3, vint .i64 ((i7 : Nat) : Int))], [.box 46 [.u (cI a0.Slots), .u (cI a0.Servers), .u (cI a0.Next), .u (ul MapDisk.c 7 t0_3 a0.Disks), .u (ul MapView.c 3 t0_4 a0.Views), .u (ul MapDone.c 4 t0_5 a0.Done)]])) (entG [0] ⟨mp rfl, mv rfl, tv⟩ ⟨⟨rfl, o_box rfl⟩, tv⟩ rfl) (fun v12 hF => ?_) (fun i7 v12 κ13 hi0i7 hi1i7 hF => ?_)
       ·refine Dz.seq (Dz.seq (Dz.reg ?_))
        intro hb18; replace hb18 : a0.Disks.length ≤ 140737488355328 := hb18
        refine Dz.ff (b := decide (((0 + a0.Disks.length : Nat) : Int) < ((a0.Disks.length : Nat) : Int))) rfl (decide_eq_false (by omega)) ?_
        refine Dz.exit (Dz.seq (Dz.seq (Dz.reg (Dz.blk ?_))))
        refine Dz.cnt hF (fun i19 v25 => ([(1, .ptr 0 0), (4, vint .i64 ((i19 : Nat) : Int))], [.box 46 [.u (cI a0.Slots), .u (cI a0.Servers), .u (cI a0.Next), .u (ul MapDisk.c 7 t0_3 a0.Disks), .u (ul MapView.c 3 t0_4 a0.Views), .u (ul MapDone.c 4 t0_5 a0.Done)]])) (entG [0] ⟨mp rfl, mv rfl, tv⟩ ⟨⟨rfl, o_box rfl⟩, tv⟩ rfl) (fun v25 hF => ?_) (fun i19 v25 κ26 hi0i19 hi1i19 hF => ?_)
        ·refine Dz.seq (Dz.seq (Dz.reg ?_))
         intro hb32; replace hb32 : a0.Views.length ≤ 140737488355328 := hb32
         refine Dz.ff (b := decide (((0 + a0.Views.length : Nat) : Int) < ((a0.Views.length : Nat) : Int))) rfl (decide_eq_false (by omega)) ?_
         refine Dz.exit (Dz.seq (Dz.seq (Dz.reg (Dz.blk ?_))))
         refine Dz.cnt hF (fun i33 v41 => ([(1, .ptr 0 0), (6, vint .i64 ((i33 : Nat) : Int))], [.box 46 [.u (cI a0.Slots), .u (cI a0.Servers), .u (cI a0.Next), .u (ul MapDisk.c 7 t0_3 a0.Disks), .u (ul MapView.c 3 t0_4 a0.Views), .u (ul MapDone.c 4 t0_5 a0.Done)]])) (entG [0] ⟨mp rfl, mv rfl, tv⟩ ⟨⟨rfl, o_box rfl⟩, tv⟩ rfl) (fun v41 hF => ?_) (fun i33 v41 κ42 hi0i33 hi1i33 hF => ?_)
         ·refine Dz.seq (Dz.seq (Dz.reg ?_))
          intro hb50; replace hb50 : a0.Done.length ≤ 140737488355328 := hb50
          refine Dz.ff (b := decide (((0 + a0.Done.length : Nat) : Int) < ((a0.Done.length : Nat) : Int))) rfl (decide_eq_false (by omega)) ?_
          refine Dz.exit (Dz.seq (Dz.reg (Dz.ret ?_)))
          cases hF
          exact finG [] [] rfl rfl (mv rfl) tv rfl
         ·refine Dz.seq (Dz.seq (Dz.reg ?_))
          intro hb43; replace hb43 : a0.Done.length ≤ 140737488355328 := hb43
          refine Dz.tt (b := decide (((i33 : Nat) : Int) < ((a0.Done.length : Nat) : Int))) rfl (decide_eq_true (by omega)) ?_
          refine Dz.skip (Dz.seq (Dz.blk (Dz.seq (Dz.reg ?_))))
          refine vge (n := ((i33 : Nat) : Int)) (hi := (a0.Done.length : Int)) (by omega) (by omega) ?_
          have hF := ltE hF
          refine Dz.seq ?_
          refine Dz.drw 2 [⟨[], [], 2, 2⟩, ⟨[], [1], 2, 2⟩, ⟨[], [], 2, 2⟩, ⟨[], [], 2, 2⟩, ⟨[], [], 2, 2⟩, ⟨[], [], 2, 2⟩, ⟨[], [1], 2, 2⟩, ⟨[], [], 2, 2⟩, ⟨[], [], 2, 2⟩, ⟨[], [], 2, 2⟩, ⟨[], [], 2, 2⟩, ⟨[], [], 2, 2⟩, ⟨[], [1], 2, 2⟩, ⟨[], [], 2, 2⟩, ⟨[], [], 2, 2⟩, ⟨[], [], 2, 2⟩, ⟨[], [], 2, 2⟩, ⟨[], [], 2, 2⟩, ⟨[], [1], 2, 2⟩, ⟨[], [], 2, 2⟩, ⟨[], [], 2, 2⟩, ⟨[], [], 2, 2⟩, ⟨[], [], 2, 2⟩, ⟨[], [], 2, 2⟩, ⟨[], [], 2, 2⟩, ⟨[], [], 2, 2⟩, ⟨[158,159,163,164], [], 2, 2⟩, ⟨[158,159,163,164], [0], 2, 2⟩, ⟨[156,157,163,164], [], 2, 2⟩, ⟨[156,157,163,164], [], 2, 2⟩, ⟨[163,164], [], 2, 2⟩, ⟨[163,164], [], 2, 2⟩, ⟨[163,164], [], 2, 2⟩, ⟨[156,157,158,159,160,161,162], [], 2, 2⟩, ⟨[156,157,158,159,160,161,162], [1], 2, 2⟩, ⟨[], [], 2, 2⟩, ⟨[], [], 2, 2⟩, ⟨[], [], 2, 2⟩] ⟨by kernel_rfl, by kernel_rfl, rfl⟩ ?_
          refine bdE hF (fun y45 hy45 hF => ?_)
          refine callG [] (s_l6In_c hy45) ⟨mv rfl, mv rfl, mv rfl, tv⟩ tv rfl ?_
          refine vif hF (fun _ hF => ?_) (fun _ hF => ?_)
          ·refine Dz.tt (b := true) rfl rfl ?_
           refine Dz.seq (Dz.reg (Dz.ret ?_))
           cases hF
           exact finG [] [] rfl rfl (mv rfl) tv rfl
          ·refine bdE hF (fun y46 hy46 hF => ?_)
           refine callG [] (s_l6In_c hy46) ⟨mv rfl, mv rfl, mv rfl, tv⟩ tv rfl ?_
           refine vif hF (fun _ hF => ?_) (fun _ hF => ?_)
           ·refine Dz.tt (b := true) rfl rfl ?_
            refine Dz.seq (Dz.reg (Dz.ret ?_))
            cases hF
            exact finG [] [] rfl rfl (mv rfl) tv rfl
           ·refine bdE hF (fun y47 hy47 hF => ?_)
            refine callG [] (s_l6In_c hy47) ⟨mv rfl, mv rfl, mv rfl, tv⟩ tv rfl ?_
            refine vif hF (fun _ hF => ?_) (fun _ hF => ?_)
            ·refine Dz.tt (b := true) rfl rfl ?_
             refine Dz.seq (Dz.reg (Dz.ret ?_))
             cases hF
             exact finG [] [] rfl rfl (mv rfl) tv rfl
            ·refine bdE hF (fun y48 hy48 hF => ?_)
             refine callG [] (s_l11Num_c hy48) ⟨mv rfl, tv⟩ tv rfl ?_
             refine vif hF (fun _ hF => ?_) (fun _ hF => ?_)
             ·refine Dz.tt (b := true) rfl rfl ?_
              refine Dz.seq (Dz.reg (Dz.ret ?_))
              cases hF
              exact finG [] [] rfl rfl (mv rfl) tv rfl
             ·refine vif hF (fun _ hF => ?_) (fun _ hF => ?_)
              ·refine ⟨(((i33 : Nat) : Int) - 1), wrap64 (by omega) (by omega), ?_⟩
               refine vix hF (fun _ _ hF => ?_)
               refine Dz.ite rfl hF (fun _ hF => ?_) (fun _ hF => ?_)
               ·refine Dz.seq (Dz.reg (Dz.ret ?_))
                cases hF
                exact finG [] [] rfl rfl (mv rfl) tv rfl
               ·refine Dz.skip (Dz.reg ?_)
                refine vsucc (by omega) ?_
                exact ⟨(), entG [0] ⟨mp rfl, mv rfl, tv⟩ ⟨⟨rfl, o_box rfl⟩, tv⟩ rfl, hF⟩
              ·refine Dz.ff (b := false) rfl rfl ?_
               refine Dz.skip (Dz.reg ?_)
               refine vsucc (by omega) ?_
               exact ⟨(), entG [0] ⟨mp rfl, mv rfl, tv⟩ ⟨⟨rfl, o_box rfl⟩, tv⟩ rfl, hF⟩
        ·refine Dz.seq (Dz.seq (Dz.reg ?_))
         intro hb27; replace hb27 : a0.Views.length ≤ 140737488355328 := hb27
         refine Dz.tt (b := decide (((i19 : Nat) : Int) < ((a0.Views.length : Nat) : Int))) rfl (decide_eq_true (by omega)) ?_
         refine Dz.skip (Dz.seq (Dz.blk (Dz.seq (Dz.reg ?_))))
         refine vge (n := ((i19 : Nat) : Int)) (hi := (a0.Views.length : Int)) (by omega) (by omega) ?_
         have hF := ltE hF
         refine Dz.seq (Dz.reg ?_)
         refine bdE hF (fun y29 hy29 hF => ?_)
         refine callG [] (s_l6In_c hy29) ⟨mv rfl, mv rfl, mv rfl, tv⟩ tv rfl ?_
         refine vif hF (fun _ hF => ?_) (fun _ hF => ?_)
         ·refine Dz.tt (b := true) rfl rfl ?_
          refine Dz.seq (Dz.reg (Dz.ret ?_))
          cases hF
          exact finG [] [] rfl rfl (mv rfl) tv rfl
         ·refine vw64 ?_
          refine bdE hF (fun y30 hy30 hF => ?_)
          refine callG [] (s_l6In_c hy30) ⟨mv rfl, mv rfl, mv rfl, tv⟩ tv rfl ?_
          refine vif hF (fun _ hF => ?_) (fun _ hF => ?_)
          ·refine Dz.tt (b := true) rfl rfl ?_
           refine Dz.seq (Dz.reg (Dz.ret ?_))
           cases hF
           exact finG [] [] rfl rfl (mv rfl) tv rfl
          ·refine vw64 ?_
           refine bdE hF (fun y31 hy31 hF => ?_)
           refine callG [] (s_l6In_c hy31) ⟨mv rfl, mv rfl, mv rfl, tv⟩ tv rfl ?_
           refine vif hF (fun _ hF => ?_) (fun _ hF => ?_)
           ·refine Dz.tt (b := true) rfl rfl ?_
            refine Dz.seq (Dz.reg (Dz.ret ?_))
            cases hF
            exact finG [] [] rfl rfl (mv rfl) tv rfl
           ·refine Dz.ite rfl hF (fun _ hF => ?_) (fun _ hF => ?_)
            ·refine Dz.seq (Dz.reg (Dz.ret ?_))
             cases hF
             exact finG [] [] rfl rfl (mv rfl) tv rfl
            ·refine Dz.skip (Dz.reg ?_)
             refine vsucc (by omega) ?_
             exact ⟨(), entG [0] ⟨mp rfl, mv rfl, tv⟩ ⟨⟨rfl, o_box rfl⟩, tv⟩ rfl, hF⟩
       ·refine Dz.seq (Dz.seq (Dz.reg ?_))
        intro hb14; replace hb14 : a0.Disks.length ≤ 140737488355328 := hb14
        refine Dz.tt (b := decide (((i7 : Nat) : Int) < ((a0.Disks.length : Nat) : Int))) rfl (decide_eq_true (by omega)) ?_
        refine Dz.skip (Dz.seq (Dz.blk (Dz.seq ?_)))
        refine Dz.drw 1 [⟨[50,51,52,53,54], [0], 1, 1⟩, ⟨[49,52], [], 1, 1⟩, ⟨[49,52], [0], 1, 1⟩, ⟨[49,50,51], [], 1, 1⟩, ⟨[49], [], 1, 1⟩, ⟨[49], [], 1, 1⟩, ⟨[], [], 1, 1⟩, ⟨[], [], 1, 1⟩, ⟨[], [], 1, 1⟩, ⟨[], [], 1, 1⟩, ⟨[], [], 1, 1⟩, ⟨[], [], 1, 1⟩, ⟨[63,64,68,69,70,71,72,73], [], 1, 1⟩, ⟨[63,64,68,69,70,71,72,73], [0], 1, 1⟩, ⟨[61,62,68,69,70,71,72,73], [], 1, 1⟩, ⟨[61,62,68,69,70,71,72,73], [], 1, 1⟩, ⟨[68,69,70,71,72,73], [], 1, 1⟩, ⟨[68,69,70,71,72,73], [], 1, 1⟩, ⟨[68,69,70,71,72,73], [], 1, 1⟩, ⟨[61,62,63,64,65,66,67,70], [], 1, 1⟩, ⟨[61,62,63,64,65,66,67,70], [0], 1, 1⟩, ⟨[61,62,63,64,65,66,67,68,69], [], 1, 1⟩, ⟨[61,62,63,64,65,66,67], [], 1, 1⟩, ⟨[61,62,63,64,65,66,67], [], 1, 1⟩, ⟨[61,62,63,64,65,66,67], [], 1, 1⟩, ⟨[], [], 1, 1⟩, ⟨[], [], 1, 1⟩, ⟨[], [], 1, 1⟩] ⟨by kernel_rfl, by kernel_rfl, rfl⟩ ?_
        refine vge (n := ((i7 : Nat) : Int)) (hi := (a0.Disks.length : Int)) (by omega) (by omega) ?_
        have hF := ltE hF
        refine bdE hF (fun y16 hy16 hF => ?_)
        refine callG [] (s_l31DiskOk_c hy16) ⟨mv rfl, mv rfl, tv⟩ tv rfl ?_
        refine vif hF (fun _ hF => ?_) (fun _ hF => ?_)
        ·refine Dz.tt (b := true) rfl rfl ?_
         refine Dz.seq (Dz.reg (Dz.ret ?_))
         cases hF
         exact finG [] [] rfl rfl (mv rfl) tv rfl
        ·refine vif hF (fun _ hF => ?_) (fun _ hF => ?_)
         ·refine ⟨(((i7 : Nat) : Int) - 1), wrap64 (by omega) (by omega), ?_⟩
          refine vix hF (fun _ _ hF => ?_)
          refine vge (n := ((i7 : Nat) : Int)) (hi := (a0.Disks.length : Int)) (by omega) (by omega) ?_
          refine Dz.ite rfl hF (fun _ hF => ?_) (fun _ hF => ?_)
          ·refine Dz.seq (Dz.reg (Dz.ret ?_))
           cases hF
           exact finG [] [] rfl rfl (mv rfl) tv rfl
          ·refine Dz.skip (Dz.reg ?_)
           refine vsucc (by omega) ?_
           exact ⟨(), entG [0] ⟨mp rfl, mv rfl, tv⟩ ⟨⟨rfl, o_box rfl⟩, tv⟩ rfl, hF⟩
         ·refine Dz.ff (b := false) rfl rfl ?_
          refine Dz.skip (Dz.reg ?_)
          refine vsucc (by omega) ?_
          exact ⟨(), entG [0] ⟨mp rfl, mv rfl, tv⟩ ⟨⟨rfl, o_box rfl⟩, tv⟩ rfl, hF⟩
def s_l31Copy (a0 : MapState) : Option (MapState) :=
 loopN (fun i1 (v8 : List MapDisk) κ9 => lt (a0.Disks.getD i1 default) (fun x11 => ck ((0 + x11.Acks.length) * 8 ≤ 140737488355328) (ck ((v8.length + 1) * 72 ≤ 140737488355328) (κ9 (v8 ++ ([({ Id := x11.Id, Size := x11.Size, Epoch := x11.Epoch, Frozen := x11.Frozen, Client := x11.Client, Call := x11.Call, Acks := (([] : List Int) ++ x11.Acks) } : MapDisk)] : List MapDisk)))))) (fun (v8 : List MapDisk) => ck ((0 + a0.Views.length) * 24 ≤ 140737488355328) (ck ((0 + a0.Done.length) * 32 ≤ 140737488355328) (some ({ Slots := a0.Slots, Servers := a0.Servers, Next := a0.Next, Disks := v8, Views := (([] : List MapView) ++ a0.Views), Done := (([] : List MapDone) ++ a0.Done) } : MapState)))) a0.Disks.length 0 ([] : List MapDisk)
theorem s_l31Copy_c {t0_3 t0_4 t0_5 : Bool} {a0 : MapState} {r : MapState} (hF : s_l31Copy a0 = some r) : Con Tryz.prog 117 [.val true [.u (cI a0.Slots), .u (cI a0.Servers), .u (cI a0.Next), .u (ul MapDisk.c 7 t0_3 a0.Disks), .u (ul MapView.c 3 t0_4 a0.Views), .u (ul MapDone.c 4 t0_5 a0.Done)]] [] (.val true [.u (cI r.Slots), .u (cI r.Servers), .u (cI r.Next), .row 0, .row 1, .row 2]) [.row 113 r.Disks.length 7 (gl MapDisk.c r.Disks), .row 116 r.Views.length 3 (gl MapView.c r.Views), .row 207 r.Done.length 4 (gl MapDone.c r.Done)] := by
 refine Con.of_Dz tabOk Tryz.func117 rfl rfl rfl ?_
 delta s_l31Copy at hF
 refine Dz.seq (Dz.reg (Dz.seq (Dz.reg (Dz.seq (Dz.reg ?_)))))
 refine Dz.row 3 ([] : List MapDisk).length (gl MapDisk.c ([] : List MapDisk)) rfl (by simp <;> omega) EqG.nilr ?_
 refine Dz.seq (Dz.seq (Dz.reg (Dz.blk ?_)))
 refine Dz.cnt hF (fun i1 v8 => ([(1, .ptr 0 0), (2, .ptr 1 0), (3, .ptr 2 0), (4, vint .i64 ((i1 : Nat) : Int))], [.box 46 [.u (cI a0.Slots), .u (cI a0.Servers), .u (cI a0.Next), .u (ul MapDisk.c 7 t0_3 a0.Disks), .u (ul MapView.c 3 t0_4 a0.Views), .u (ul MapDone.c 4 t0_5 a0.Done)], .box 46 [.u (cI 0), .u (cI 0), .u (cI 0), .nil, .nil, .nil], .box 46 [.u (cI a0.Slots), .u (cI a0.Servers), .u (cI a0.Next), .row 3, .u (ul MapView.c 3 t0_4 a0.Views), .u (ul MapDone.c 4 t0_5 a0.Done)], .row 113 v8.length 7 (gl MapDisk.c v8)])) (entG [0, 1, 2, 3] ⟨mp rfl, mp rfl, mp rfl, mv rfl, tv⟩ ⟨⟨rfl, o_box rfl⟩, ⟨rfl, ⟨rfl, lr, lr, lr, tv, tv, tv, tv⟩⟩, ⟨rfl, ⟨rfl, lr, lr, lr, rfl, lr, lr, tv⟩⟩, ⟨rfl, o_row⟩, tv⟩ rfl) (fun v8 hF => ?_) (fun i1 v8 κ9 hi0i1 hi1i1 hF => ?_)
 ·refine Dz.seq (Dz.seq (Dz.reg ?_))
  intro hb12; replace hb12 : a0.Disks.length ≤ 140737488355328 := hb12
  refine Dz.ff (b := decide (((0 + a0.Disks.length : Nat) : Int) < ((a0.Disks.length : Nat) : Int))) rfl (decide_eq_false (by omega)) ?_
  refine Dz.exit (Dz.seq (Dz.reg ?_))
  refine vck hF id (fun _ hF => ?_)
  refine Dz.row 5 (([] : List MapView) ++ a0.Views).length (gl MapView.c (([] : List MapView) ++ a0.Views)) rfl (by simp <;> omega) (EqG.app (by simp <;> omega) rfl EqG.nilr (EqG.refl _ _ _)) ?_
  refine Dz.seq (Dz.reg ?_)
  refine vck hF id (fun _ hF => ?_)
  refine Dz.row 7 (([] : List MapDone) ++ a0.Done).length (gl MapDone.c (([] : List MapDone) ++ a0.Done)) rfl (by simp <;> omega) (EqG.app (by simp <;> omega) rfl EqG.nilr (EqG.refl _ _ _)) ?_
  refine Dz.seq (Dz.reg (Dz.ret ?_))
  cases hF
  exact finG [] [3, 5, 7] rfl rfl (⟨rfl, lr, lr, lr, rfl, rfl, rfl, tv⟩) ⟨⟨rfl, o_row⟩, ⟨rfl, o_row⟩, ⟨rfl, o_row⟩, tv⟩ rfl
 ·refine Dz.seq (Dz.seq (Dz.reg ?_))
  intro hb10; replace hb10 : a0.Disks.length ≤ 140737488355328 := hb10
  refine Dz.tt (b := decide (((i1 : Nat) : Int) < ((a0.Disks.length : Nat) : Int))) rfl (decide_eq_true (by omega)) ?_
  refine Dz.skip (Dz.seq (Dz.blk (Dz.seq (Dz.reg ?_))))
  refine vge (n := ((i1 : Nat) : Int)) (hi := (a0.Disks.length : Int)) (by omega) (by omega) ?_
  have hF := ltE hF
  refine Dz.seq (Dz.reg ?_)
  refine vck hF id (fun _ hF => ?_)
  refine Dz.row 6 (([] : List Int) ++ (a0.Disks.getD i1 default).Acks).length (gl cInt (([] : List Int) ++ (a0.Disks.getD i1 default).Acks)) rfl (by simp <;> omega) (EqG.app (by simp <;> omega) rfl EqG.nilr (EqG.refl _ _ _)) ?_
  refine Dz.reg ?_
  refine vck hF id (fun _ hF => ?_)
  refine Dz.row 7 ([({ Id := (a0.Disks.getD i1 default).Id, Size := (a0.Disks.getD i1 default).Size, Epoch := (a0.Disks.getD i1 default).Epoch, Frozen := (a0.Disks.getD i1 default).Frozen, Client := (a0.Disks.getD i1 default).Client, Call := (a0.Disks.getD i1 default).Call, Acks := (([] : List Int) ++ (a0.Disks.getD i1 default).Acks) } : MapDisk)] : List MapDisk).length (gl MapDisk.c ([({ Id := (a0.Disks.getD i1 default).Id, Size := (a0.Disks.getD i1 default).Size, Epoch := (a0.Disks.getD i1 default).Epoch, Frozen := (a0.Disks.getD i1 default).Frozen, Client := (a0.Disks.getD i1 default).Client, Call := (a0.Disks.getD i1 default).Call, Acks := (([] : List Int) ++ (a0.Disks.getD i1 default).Acks) } : MapDisk)] : List MapDisk)) rfl (by simp <;> omega) (EqG.lit (c := MapDisk.c) (sz := 7) (L := ([({ Id := (a0.Disks.getD i1 default).Id, Size := (a0.Disks.getD i1 default).Size, Epoch := (a0.Disks.getD i1 default).Epoch, Frozen := (a0.Disks.getD i1 default).Frozen, Client := (a0.Disks.getD i1 default).Client, Call := (a0.Disks.getD i1 default).Call, Acks := (([] : List Int) ++ (a0.Disks.getD i1 default).Acks) } : MapDisk)] : List MapDisk)) ⟨lr, lr, lr, lr, lr, lr, lr, tv⟩) ?_
  refine Dz.row 8 (v8 ++ ([({ Id := (a0.Disks.getD i1 default).Id, Size := (a0.Disks.getD i1 default).Size, Epoch := (a0.Disks.getD i1 default).Epoch, Frozen := (a0.Disks.getD i1 default).Frozen, Client := (a0.Disks.getD i1 default).Client, Call := (a0.Disks.getD i1 default).Call, Acks := (([] : List Int) ++ (a0.Disks.getD i1 default).Acks) } : MapDisk)] : List MapDisk)).length (gl MapDisk.c (v8 ++ ([({ Id := (a0.Disks.getD i1 default).Id, Size := (a0.Disks.getD i1 default).Size, Epoch := (a0.Disks.getD i1 default).Epoch, Frozen := (a0.Disks.getD i1 default).Frozen, Client := (a0.Disks.getD i1 default).Client, Call := (a0.Disks.getD i1 default).Call, Acks := (([] : List Int) ++ (a0.Disks.getD i1 default).Acks) } : MapDisk)] : List MapDisk))) rfl (by simp <;> omega) (EqG.app rfl (by simp <;> omega) (EqG.refl _ _ _) (EqG.lit (c := MapDisk.c) (sz := 7) (L := ([({ Id := (a0.Disks.getD i1 default).Id, Size := (a0.Disks.getD i1 default).Size, Epoch := (a0.Disks.getD i1 default).Epoch, Frozen := (a0.Disks.getD i1 default).Frozen, Client := (a0.Disks.getD i1 default).Client, Call := (a0.Disks.getD i1 default).Call, Acks := (([] : List Int) ++ (a0.Disks.getD i1 default).Acks) } : MapDisk)] : List MapDisk)) ⟨lr, lr, lr, lr, lr, lr, lr, tv⟩)) ?_
  refine Dz.reg ?_
  refine vsucc (by omega) ?_
  exact ⟨(v8 ++ ([({ Id := (a0.Disks.getD i1 default).Id, Size := (a0.Disks.getD i1 default).Size, Epoch := (a0.Disks.getD i1 default).Epoch, Frozen := (a0.Disks.getD i1 default).Frozen, Client := (a0.Disks.getD i1 default).Client, Call := (a0.Disks.getD i1 default).Call, Acks := (([] : List Int) ++ (a0.Disks.getD i1 default).Acks) } : MapDisk)] : List MapDisk)), entG [0, 1, 2, 8] ⟨mp rfl, mp rfl, mp rfl, mv rfl, tv⟩ ⟨⟨rfl, o_box rfl⟩, ⟨rfl, ⟨rfl, lr, lr, lr, tv, tv, tv, tv⟩⟩, ⟨rfl, ⟨rfl, lr, lr, lr, rfl, lr, lr, tv⟩⟩, ⟨rfl, o_row⟩, tv⟩ rfl, hF⟩
def s_l31View (a0 : MapState) (a1 : Cmd) : Option (MapState) :=
 (s_l6In a1.Range 0 2).bind (fun y1 => cond (!y1) (some a0) (ix a0.Views a1.Range (fun _ => lt (a0.Views.getD a1.Range.toNat default) (fun x2 => jn (fun (v4 : Bool) => cond v4 (some a0) (jn (fun (v6 : Int) => ix a0.Views a1.Range (fun _ => lt (a0.Views.set a1.Range.toNat ({ Num := a1.Num, A := a1.A, B := v6 } : MapView)) (fun r7 => some ({ Slots := a0.Slots, Servers := a0.Servers, Next := a0.Next, Disks := a0.Disks, Views := r7, Done := a0.Done } : MapState)))) (fun j8 => cond (decide ((0 : Int) ≤ a1.B)) (j8 a1.B) (j8 (-1))))) (fun j9 => cond (!decide (a1.Num = (w64 (x2.Num + 1)))) (j9 true) (cond (!decide (a1.A = x2.A)) (cond (!decide (a1.A = x2.B)) (j9 true) (cond (decide (a1.A < 0)) (j9 true) (cond (decide (a0.Servers ≤ a1.B)) (j9 true) (cond (decide (a1.A = a1.B)) (j9 true) (cond (decide ((0 : Int) ≤ a1.B)) (j9 (decide ((0 : Int) ≤ x2.B))) (j9 false)))))) (cond (decide (a1.A < 0)) (j9 true) (cond (decide (a0.Servers ≤ a1.B)) (j9 true) (cond (decide (a1.A = a1.B)) (j9 true) (cond (decide ((0 : Int) ≤ a1.B)) (j9 (decide ((0 : Int) ≤ x2.B))) (j9 false)))))))))))
theorem s_l31View_c {a0 : MapState} {a1 : Cmd} {r : MapState} (hF : s_l31View a0 a1 = some r) : Con Tryz.prog 118 [.val true [.u (cI a0.Slots), .u (cI a0.Servers), .u (cI a0.Next), .u (ul MapDisk.c 7 false a0.Disks), .row 0, .u (ul MapDone.c 4 false a0.Done)], .val true (Cmd.L a1)] [.row 116 a0.Views.length 3 (gl MapView.c a0.Views)] (.val true [.u (cI r.Slots), .u (cI r.Servers), .u (cI r.Next), .u (ul MapDisk.c 7 false r.Disks), .row 0, .u (ul MapDone.c 4 false r.Done)]) [.row 116 r.Views.length 3 (gl MapView.c r.Views)] := by
 refine Con.of_Dz tabOk Tryz.func118 rfl rfl rfl ?_
 delta s_l31View at hF
 refine Dz.seq (Dz.reg (Dz.seq (Dz.seq (Dz.reg ?_))))
 refine bdE hF (fun y1 hy1 hF => ?_)
 refine callG [] (s_l6In_c hy1) ⟨mv rfl, mv rfl, mv rfl, tv⟩ tv rfl ?_
 refine Dz.ite rfl hF (fun _ hF => ?_) (fun _ hF => ?_)
 ·refine Dz.seq (Dz.reg (Dz.ret ?_))
  cases hF
  exact finG [] [0] rfl rfl (⟨rfl, lr, lr, lr, lr, rfl, lr, tv⟩) ⟨⟨rfl, o_row⟩, tv⟩ rfl
 ·refine Dz.skip (Dz.seq (Dz.reg ?_))
  refine vix hF (fun _ _ hF => ?_)
  have hF := ltE hF
  refine Dz.seq (Dz.reg (Dz.seq ?_))
  refine Dz.jn hF (fun v4 => ([(2, .ptr 1 0), (3, .ptr 2 0), (4, .ptr 3 0), (6, vbool (decide ((0 : Int) ≤ a1.B))), (68, vbool v4)], [.row 116 a0.Views.length 3 (gl MapView.c a0.Views), .box 46 [.u (cI a0.Slots), .u (cI a0.Servers), .u (cI a0.Next), .u (ul MapDisk.c 7 false a0.Disks), .row 0, .u (ul MapDone.c 4 false a0.Done)], .box 55 (Cmd.L a1), .box 46 [.u (cI 0), .u (cI 0), .u (cI 0), .nil, .nil, .nil]])) (fun v4 hF => ?_) (fun hF => ?_)
  ·refine Dz.ite rfl hF (fun _ hF => ?_) (fun _ hF => ?_)
   ·refine Dz.seq (Dz.reg (Dz.ret ?_))
    cases hF
    exact finG [] [0] rfl rfl (⟨rfl, lr, lr, lr, lr, rfl, lr, tv⟩) ⟨⟨rfl, o_row⟩, tv⟩ rfl
   ·refine Dz.skip (Dz.seq (Dz.reg ?_))
    refine Dz.jn hF (fun v6 => ([(2, .ptr 1 0), (3, .ptr 2 0), (4, .ptr 3 0), (7, vint .i64 v6)], [.row 116 a0.Views.length 3 (gl MapView.c a0.Views), .box 46 [.u (cI a0.Slots), .u (cI a0.Servers), .u (cI a0.Next), .u (ul MapDisk.c 7 false a0.Disks), .row 0, .u (ul MapDone.c 4 false a0.Done)], .box 55 (Cmd.L a1), .box 46 [.u (cI 0), .u (cI 0), .u (cI 0), .nil, .nil, .nil]])) (fun v6 hF => ?_) (fun hF => ?_)
    ·refine Dz.seq (Dz.reg ?_)
     refine vix hF (fun _ _ hF => ?_)
     refine ltX hF (fun r7 hr7 hF => ?_)
     have hlr7 : r7.length = a0.Views.length := by rw [hr7]; simp <;> omega
     refine Dz.row 0 r7.length (gl MapView.c r7) rfl (by rw [hr7]; simp <;> omega) (by rw [hr7]; exact (EqG.set' rfl (EqG.refl _ _ _) ⟨lr, lr, lr, tv⟩)) ?_
     refine Dz.seq (Dz.reg (Dz.ret ?_))
     cases hF
     exact finG [] [0] rfl rfl (⟨rfl, lr, lr, lr, lr, rfl, lr, tv⟩) ⟨⟨rfl, o_row⟩, tv⟩ rfl
    ·refine Dz.seq (Dz.reg ?_)
     refine Dz.ite rfl hF (fun _ hF => ?_) (fun _ hF => ?_)
     ·refine Dz.reg ?_
      exact ⟨a1.B, entG [0, 1, 2, 3] ⟨mp rfl, mp rfl, mp rfl, mv rfl, tv⟩ ⟨⟨rfl, o_row⟩, ⟨rfl, ⟨rfl, lr, lr, lr, lr, rfl, lr, tv⟩⟩, ⟨rfl, o_box rfl⟩, ⟨rfl, ⟨rfl, lr, lr, lr, tv, tv, tv, tv⟩⟩, tv⟩ rfl, hF⟩
     ·refine Dz.skip ?_
      exact ⟨(-1), entG [0, 1, 2, 3] ⟨mp rfl, mp rfl, mp rfl, mv rfl, tv⟩ ⟨⟨rfl, o_row⟩, ⟨rfl, ⟨rfl, lr, lr, lr, lr, rfl, lr, tv⟩⟩, ⟨rfl, o_box rfl⟩, ⟨rfl, ⟨rfl, lr, lr, lr, tv, tv, tv, tv⟩⟩, tv⟩ rfl, hF⟩
  ·refine Dz.reg (vw64 ?_)
   refine vif hF (fun _ hF => ?_) (fun _ hF => ?_)
   ·exact ⟨true, entG [0, 1, 2, 3] ⟨mp rfl, mp rfl, mp rfl, mv rfl, mv rfl, tv⟩ ⟨⟨rfl, o_row⟩, ⟨rfl, ⟨rfl, lr, lr, lr, lr, rfl, lr, tv⟩⟩, ⟨rfl, o_box rfl⟩, ⟨rfl, ⟨rfl, lr, lr, lr, tv, tv, tv, tv⟩⟩, tv⟩ rfl, hF⟩
   ·refine vif hF (fun _ hF => ?_) (fun _ hF => ?_)
    ·refine vif hF (fun _ hF => ?_) (fun _ hF => ?_)
     ·exact ⟨true, entG [0, 1, 2, 3] ⟨mp rfl, mp rfl, mp rfl, mv rfl, mv rfl, tv⟩ ⟨⟨rfl, o_row⟩, ⟨rfl, ⟨rfl, lr, lr, lr, lr, rfl, lr, tv⟩⟩, ⟨rfl, o_box rfl⟩, ⟨rfl, ⟨rfl, lr, lr, lr, tv, tv, tv, tv⟩⟩, tv⟩ rfl, hF⟩
     ·refine vif hF (fun _ hF => ?_) (fun _ hF => ?_)
      ·exact ⟨true, entG [0, 1, 2, 3] ⟨mp rfl, mp rfl, mp rfl, mv rfl, mv rfl, tv⟩ ⟨⟨rfl, o_row⟩, ⟨rfl, ⟨rfl, lr, lr, lr, lr, rfl, lr, tv⟩⟩, ⟨rfl, o_box rfl⟩, ⟨rfl, ⟨rfl, lr, lr, lr, tv, tv, tv, tv⟩⟩, tv⟩ rfl, hF⟩
      ·refine vif hF (fun _ hF => ?_) (fun _ hF => ?_)
       ·exact ⟨true, entG [0, 1, 2, 3] ⟨mp rfl, mp rfl, mp rfl, mv rfl, mv rfl, tv⟩ ⟨⟨rfl, o_row⟩, ⟨rfl, ⟨rfl, lr, lr, lr, lr, rfl, lr, tv⟩⟩, ⟨rfl, o_box rfl⟩, ⟨rfl, ⟨rfl, lr, lr, lr, tv, tv, tv, tv⟩⟩, tv⟩ rfl, hF⟩
       ·refine vif hF (fun _ hF => ?_) (fun _ hF => ?_)
        ·exact ⟨true, entG [0, 1, 2, 3] ⟨mp rfl, mp rfl, mp rfl, mv rfl, mv rfl, tv⟩ ⟨⟨rfl, o_row⟩, ⟨rfl, ⟨rfl, lr, lr, lr, lr, rfl, lr, tv⟩⟩, ⟨rfl, o_box rfl⟩, ⟨rfl, ⟨rfl, lr, lr, lr, tv, tv, tv, tv⟩⟩, tv⟩ rfl, hF⟩
        ·refine vif hF (fun _ hF => ?_) (fun _ hF => ?_)
         ·exact ⟨(decide ((0 : Int) ≤ (a0.Views.getD a1.Range.toNat default).B)), entG [0, 1, 2, 3] ⟨mp rfl, mp rfl, mp rfl, mv rfl, mv rfl, tv⟩ ⟨⟨rfl, o_row⟩, ⟨rfl, ⟨rfl, lr, lr, lr, lr, rfl, lr, tv⟩⟩, ⟨rfl, o_box rfl⟩, ⟨rfl, ⟨rfl, lr, lr, lr, tv, tv, tv, tv⟩⟩, tv⟩ rfl, hF⟩
         ·exact ⟨false, entG [0, 1, 2, 3] ⟨mp rfl, mp rfl, mp rfl, mv rfl, mv rfl, tv⟩ ⟨⟨rfl, o_row⟩, ⟨rfl, ⟨rfl, lr, lr, lr, lr, rfl, lr, tv⟩⟩, ⟨rfl, o_box rfl⟩, ⟨rfl, ⟨rfl, lr, lr, lr, tv, tv, tv, tv⟩⟩, tv⟩ rfl, hF⟩
    ·refine vif hF (fun _ hF => ?_) (fun _ hF => ?_)
     ·exact ⟨true, entG [0, 1, 2, 3] ⟨mp rfl, mp rfl, mp rfl, mv rfl, mv rfl, tv⟩ ⟨⟨rfl, o_row⟩, ⟨rfl, ⟨rfl, lr, lr, lr, lr, rfl, lr, tv⟩⟩, ⟨rfl, o_box rfl⟩, ⟨rfl, ⟨rfl, lr, lr, lr, tv, tv, tv, tv⟩⟩, tv⟩ rfl, hF⟩
     ·refine vif hF (fun _ hF => ?_) (fun _ hF => ?_)
      ·exact ⟨true, entG [0, 1, 2, 3] ⟨mp rfl, mp rfl, mp rfl, mv rfl, mv rfl, tv⟩ ⟨⟨rfl, o_row⟩, ⟨rfl, ⟨rfl, lr, lr, lr, lr, rfl, lr, tv⟩⟩, ⟨rfl, o_box rfl⟩, ⟨rfl, ⟨rfl, lr, lr, lr, tv, tv, tv, tv⟩⟩, tv⟩ rfl, hF⟩
      ·refine vif hF (fun _ hF => ?_) (fun _ hF => ?_)
       ·exact ⟨true, entG [0, 1, 2, 3] ⟨mp rfl, mp rfl, mp rfl, mv rfl, mv rfl, tv⟩ ⟨⟨rfl, o_row⟩, ⟨rfl, ⟨rfl, lr, lr, lr, lr, rfl, lr, tv⟩⟩, ⟨rfl, o_box rfl⟩, ⟨rfl, ⟨rfl, lr, lr, lr, tv, tv, tv, tv⟩⟩, tv⟩ rfl, hF⟩
       ·refine vif hF (fun _ hF => ?_) (fun _ hF => ?_)
        ·exact ⟨(decide ((0 : Int) ≤ (a0.Views.getD a1.Range.toNat default).B)), entG [0, 1, 2, 3] ⟨mp rfl, mp rfl, mp rfl, mv rfl, mv rfl, tv⟩ ⟨⟨rfl, o_row⟩, ⟨rfl, ⟨rfl, lr, lr, lr, lr, rfl, lr, tv⟩⟩, ⟨rfl, o_box rfl⟩, ⟨rfl, ⟨rfl, lr, lr, lr, tv, tv, tv, tv⟩⟩, tv⟩ rfl, hF⟩
        ·exact ⟨false, entG [0, 1, 2, 3] ⟨mp rfl, mp rfl, mp rfl, mv rfl, mv rfl, tv⟩ ⟨⟨rfl, o_row⟩, ⟨rfl, ⟨rfl, lr, lr, lr, lr, rfl, lr, tv⟩⟩, ⟨rfl, o_box rfl⟩, ⟨rfl, ⟨rfl, lr, lr, lr, tv, tv, tv, tv⟩⟩, tv⟩ rfl, hF⟩
def s_l31Disk (a0 : MapState) (a1 : Int) : Option (Int) :=
 loopN (fun i1 (v3 : Unit) κ4 => cond (decide ((a0.Disks.getD i1 default).Id = a1)) (some ((i1 : Nat) : Int)) (κ4 ())) (fun (v3 : Unit) => some (-1)) a0.Disks.length 0 ()
theorem s_l31Disk_c {t0_3 t0_4 t0_5 : Bool} {a0 : MapState} {a1 : Int} {r : Int} (hF : s_l31Disk a0 a1 = some r) : Con Tryz.prog 157 [.val true [.u (cI a0.Slots), .u (cI a0.Servers), .u (cI a0.Next), .u (ul MapDisk.c 7 t0_3 a0.Disks), .u (ul MapView.c 3 t0_4 a0.Views), .u (ul MapDone.c 4 t0_5 a0.Done)], vint .i64 a1] [] (vint .i64 r) [] := by
 refine Con.of_Dz tabOk Tryz.func157 rfl rfl rfl ?_
 delta s_l31Disk at hF
 refine Dz.seq (Dz.reg (Dz.seq (Dz.seq (Dz.reg (Dz.blk ?_)))))
 refine Dz.cnt hF (fun i1 v3 => ([(1, vint .i64 a1), (2, .ptr 0 0), (5, vint .i64 ((i1 : Nat) : Int))], [.box 46 [.u (cI a0.Slots), .u (cI a0.Servers), .u (cI a0.Next), .u (ul MapDisk.c 7 t0_3 a0.Disks), .u (ul MapView.c 3 t0_4 a0.Views), .u (ul MapDone.c 4 t0_5 a0.Done)]])) (entG [0] ⟨mv rfl, mp rfl, mv rfl, tv⟩ ⟨⟨rfl, o_box rfl⟩, tv⟩ rfl) (fun v3 hF => ?_) (fun i1 v3 κ4 hi0i1 hi1i1 hF => ?_)
 ·refine Dz.seq (Dz.seq (Dz.reg ?_))
  intro hb6; replace hb6 : a0.Disks.length ≤ 140737488355328 := hb6
  refine Dz.ff (b := decide (((0 + a0.Disks.length : Nat) : Int) < ((a0.Disks.length : Nat) : Int))) rfl (decide_eq_false (by omega)) ?_
  refine Dz.exit (Dz.seq (Dz.reg (Dz.ret ?_)))
  cases hF
  exact finG [] [] rfl rfl (mv rfl) tv rfl
 ·refine Dz.seq (Dz.seq (Dz.reg ?_))
  intro hb5; replace hb5 : a0.Disks.length ≤ 140737488355328 := hb5
  refine Dz.tt (b := decide (((i1 : Nat) : Int) < ((a0.Disks.length : Nat) : Int))) rfl (decide_eq_true (by omega)) ?_
  refine Dz.skip (Dz.seq (Dz.blk (Dz.seq (Dz.reg ?_))))
  refine vge (n := ((i1 : Nat) : Int)) (hi := (a0.Disks.length : Int)) (by omega) (by omega) ?_
  refine Dz.ite rfl hF (fun _ hF => ?_) (fun _ hF => ?_)
  ·refine Dz.seq (Dz.reg (Dz.ret ?_))
   cases hF
   exact finG [] [] rfl rfl (mv rfl) tv rfl
  ·refine Dz.skip (Dz.reg ?_)
   refine vsucc (by omega) ?_
   exact ⟨(), entG [0] ⟨mv rfl, mp rfl, mv rfl, tv⟩ ⟨⟨rfl, o_box rfl⟩, tv⟩ rfl, hF⟩
def s_l31Last (a0 : MapState) (a1 : Int) : Option (MapDone) :=
 loopN (fun i1 (v4 : Unit) κ5 => cond (decide ((a0.Done.getD i1 default).Client = a1)) (lt (a0.Done.getD i1 default) (fun x7 => some x7)) (κ5 ())) (fun (v4 : Unit) => some ({ Client := 0, Call := 0, Code := 0, Value := 0 } : MapDone)) a0.Done.length 0 ()
theorem s_l31Last_c {t0_3 t0_4 t0_5 : Bool} {a0 : MapState} {a1 : Int} {r : MapDone} (hF : s_l31Last a0 a1 = some r) : Con Tryz.prog 174 [.val true [.u (cI a0.Slots), .u (cI a0.Servers), .u (cI a0.Next), .u (ul MapDisk.c 7 t0_3 a0.Disks), .u (ul MapView.c 3 t0_4 a0.Views), .u (ul MapDone.c 4 t0_5 a0.Done)], vint .i64 a1] [] (.val true (MapDone.L r)) [] := by
 refine Con.of_Dz tabOk Tryz.func174 rfl rfl rfl ?_
 delta s_l31Last at hF
 refine Dz.seq (Dz.reg (Dz.seq (Dz.seq (Dz.reg (Dz.blk ?_)))))
 refine Dz.cnt hF (fun i1 v4 => ([(1, vint .i64 a1), (2, .ptr 0 0), (4, .ptr 1 0), (5, vint .i64 ((i1 : Nat) : Int))], [.box 46 [.u (cI a0.Slots), .u (cI a0.Servers), .u (cI a0.Next), .u (ul MapDisk.c 7 t0_3 a0.Disks), .u (ul MapView.c 3 t0_4 a0.Views), .u (ul MapDone.c 4 t0_5 a0.Done)], .box 207 [.u (cI 0), .u (cI 0), .u (cI 0), .u (cI 0)]])) (entG [0, 1] ⟨mv rfl, mp rfl, mp rfl, mv rfl, tv⟩ ⟨⟨rfl, o_box rfl⟩, ⟨rfl, o_box rfl⟩, tv⟩ rfl) (fun v4 hF => ?_) (fun i1 v4 κ5 hi0i1 hi1i1 hF => ?_)
 ·refine Dz.seq (Dz.seq (Dz.reg ?_))
  intro hb8; replace hb8 : a0.Done.length ≤ 140737488355328 := hb8
  refine Dz.ff (b := decide (((0 + a0.Done.length : Nat) : Int) < ((a0.Done.length : Nat) : Int))) rfl (decide_eq_false (by omega)) ?_
  refine Dz.exit (Dz.seq (Dz.reg (Dz.ret ?_)))
  cases hF
  exact finG [] [] rfl rfl (mv rfl) tv rfl
 ·refine Dz.seq (Dz.seq (Dz.reg ?_))
  intro hb6; replace hb6 : a0.Done.length ≤ 140737488355328 := hb6
  refine Dz.tt (b := decide (((i1 : Nat) : Int) < ((a0.Done.length : Nat) : Int))) rfl (decide_eq_true (by omega)) ?_
  refine Dz.skip (Dz.seq (Dz.blk (Dz.seq (Dz.reg ?_))))
  refine vge (n := ((i1 : Nat) : Int)) (hi := (a0.Done.length : Int)) (by omega) (by omega) ?_
  refine Dz.ite rfl hF (fun _ hF => ?_) (fun _ hF => ?_)
  ·refine Dz.seq (Dz.reg ?_)
   refine vge (n := ((i1 : Nat) : Int)) (hi := (a0.Done.length : Int)) (by omega) (by omega) ?_
   have hF := ltE hF
   refine Dz.ret ?_
   cases hF
   exact finG [] [] rfl rfl (mv rfl) tv rfl
  ·refine Dz.skip (Dz.reg ?_)
   refine vsucc (by omega) ?_
   exact ⟨(), entG [0, 1] ⟨mv rfl, mp rfl, mp rfl, mv rfl, tv⟩ ⟨⟨rfl, o_box rfl⟩, ⟨rfl, o_box rfl⟩, tv⟩ rfl, hF⟩
def s_l31Tell (a0 : MapState) (a1 : MapDone) : Option (MapState) :=
 loopN (fun i1 (v6 : List MapDone) κ7 => (s_l31Last a0 ((i1 : Nat) : Int)).bind (fun y8 => cond (decide (((i1 : Nat) : Int) = a1.Client)) (cond (decide ((0 : Int) < a1.Call)) (ck ((v6.length + 1) * 32 ≤ 140737488355328) (κ7 (v6 ++ ([a1] : List MapDone)))) (κ7 v6)) (cond (decide ((0 : Int) < y8.Call)) (ck ((v6.length + 1) * 32 ≤ 140737488355328) (κ7 (v6 ++ ([y8] : List MapDone)))) (κ7 v6)))) (fun (v6 : List MapDone) => some ({ Slots := a0.Slots, Servers := a0.Servers, Next := a0.Next, Disks := a0.Disks, Views := a0.Views, Done := v6 } : MapState)) 4 0 ([] : List MapDone)
theorem s_l31Tell_c {t0_5 : Bool} {a0 : MapState} {a1 : MapDone} {r : MapState} (hF : s_l31Tell a0 a1 = some r) : Con Tryz.prog 163 [.val true [.u (cI a0.Slots), .u (cI a0.Servers), .u (cI a0.Next), .u (ul MapDisk.c 7 false a0.Disks), .u (ul MapView.c 3 false a0.Views), .u (ul MapDone.c 4 t0_5 a0.Done)], .val true (MapDone.L a1)] [] (.val true [.u (cI r.Slots), .u (cI r.Servers), .u (cI r.Next), .u (ul MapDisk.c 7 false r.Disks), .u (ul MapView.c 3 false r.Views), .row 0]) [.row 207 r.Done.length 4 (gl MapDone.c r.Done)] := by
 refine Con.of_Dz tabOk Tryz.func163 rfl rfl rfl ?_
 delta s_l31Tell at hF
 refine Dz.seq (Dz.reg (Dz.seq (Dz.reg ?_)))
 refine Dz.row 3 ([] : List MapDone).length (gl MapDone.c ([] : List MapDone)) rfl (by simp <;> omega) EqG.nilr ?_
 refine Dz.seq (Dz.seq (Dz.reg (Dz.blk ?_)))
 refine Dz.cnt hF (fun i1 v6 => ([(2, .ptr 0 0), (3, .ptr 1 0), (4, .ptr 2 0), (5, .val false [.row 3]), (6, vint .i64 ((i1 : Nat) : Int))], [.box 46 [.u (cI a0.Slots), .u (cI a0.Servers), .u (cI a0.Next), .u (ul MapDisk.c 7 false a0.Disks), .u (ul MapView.c 3 false a0.Views), .u (ul MapDone.c 4 t0_5 a0.Done)], .box 207 (MapDone.L a1), .box 46 [.u (cI 0), .u (cI 0), .u (cI 0), .nil, .nil, .nil], .row 207 v6.length 4 (gl MapDone.c v6)])) (entG [0, 1, 2, 3] ⟨mp rfl, mp rfl, mp rfl, ⟨rfl, rfl, tv⟩, mv rfl, tv⟩ ⟨⟨rfl, o_box rfl⟩, ⟨rfl, o_box rfl⟩, ⟨rfl, ⟨rfl, lr, lr, lr, tv, tv, tv, tv⟩⟩, ⟨rfl, o_row⟩, tv⟩ rfl) (fun v6 hF => ?_) (fun i1 v6 κ7 hi0i1 hi1i1 hF => ?_)
 ·refine Dz.seq (Dz.seq (Dz.reg ?_))
  refine Dz.ff (b := decide (((0 + 4 : Nat) : Int) < 4)) rfl (decide_eq_false (by omega)) ?_
  refine Dz.exit (Dz.seq (Dz.reg (Dz.seq (Dz.reg (Dz.ret ?_)))))
  cases hF
  exact finG [] [3] rfl rfl (⟨rfl, lr, lr, lr, lr, lr, rfl, tv⟩) ⟨⟨rfl, o_row⟩, tv⟩ rfl
 ·refine Dz.seq (Dz.seq (Dz.reg ?_))
  refine Dz.tt (b := decide (((i1 : Nat) : Int) < 4)) rfl (decide_eq_true (by omega)) ?_
  refine Dz.skip (Dz.seq (Dz.blk (Dz.seq (Dz.reg ?_))))
  refine bdE hF (fun y8 hy8 hF => ?_)
  refine callG [] (s_l31Last_c hy8) ⟨mv rfl, mv rfl, tv⟩ tv rfl ?_
  refine Dz.seq (Dz.seq (Dz.reg ?_))
  refine Dz.ite rfl hF (fun _ hF => ?_) (fun _ hF => ?_)
  ·refine Dz.reg (Dz.seq (Dz.reg ?_))
   refine Dz.ite rfl hF (fun _ hF => ?_) (fun _ hF => ?_)
   ·refine Dz.reg ?_
    refine vck hF id (fun _ hF => ?_)
    refine Dz.row 5 ([a1] : List MapDone).length (gl MapDone.c ([a1] : List MapDone)) rfl (by simp <;> omega) (EqG.lit (c := MapDone.c) (sz := 4) (L := ([a1] : List MapDone)) ⟨lr, lr, lr, lr, tv⟩) ?_
    refine Dz.row 6 (v6 ++ ([a1] : List MapDone)).length (gl MapDone.c (v6 ++ ([a1] : List MapDone))) rfl (by simp <;> omega) (EqG.app rfl (by simp <;> omega) (EqG.refl _ _ _) (EqG.lit (c := MapDone.c) (sz := 4) (L := ([a1] : List MapDone)) ⟨lr, lr, lr, lr, tv⟩)) ?_
    refine Dz.reg ?_
    refine vsucc (by omega) ?_
    exact ⟨(v6 ++ ([a1] : List MapDone)), entG [0, 1, 2, 6] ⟨mp rfl, mp rfl, mp rfl, ⟨rfl, rfl, tv⟩, mv rfl, tv⟩ ⟨⟨rfl, o_box rfl⟩, ⟨rfl, o_box rfl⟩, ⟨rfl, ⟨rfl, lr, lr, lr, tv, tv, tv, tv⟩⟩, ⟨rfl, o_row⟩, tv⟩ rfl, hF⟩
   ·refine Dz.skip (Dz.reg ?_)
    refine vsucc (by omega) ?_
    exact ⟨v6, entG [0, 1, 2, 3] ⟨mp rfl, mp rfl, mp rfl, ⟨rfl, rfl, tv⟩, mv rfl, tv⟩ ⟨⟨rfl, o_box rfl⟩, ⟨rfl, o_box rfl⟩, ⟨rfl, ⟨rfl, lr, lr, lr, tv, tv, tv, tv⟩⟩, ⟨rfl, o_row⟩, tv⟩ rfl, hF⟩
  ·refine Dz.skip (Dz.seq (Dz.reg ?_))
   refine Dz.ite rfl hF (fun _ hF => ?_) (fun _ hF => ?_)
   ·refine Dz.reg ?_
    refine vck hF id (fun _ hF => ?_)
    refine Dz.row 5 ([y8] : List MapDone).length (gl MapDone.c ([y8] : List MapDone)) rfl (by simp <;> omega) (EqG.lit (c := MapDone.c) (sz := 4) (L := ([y8] : List MapDone)) ⟨lr, lr, lr, lr, tv⟩) ?_
    refine Dz.row 6 (v6 ++ ([y8] : List MapDone)).length (gl MapDone.c (v6 ++ ([y8] : List MapDone))) rfl (by simp <;> omega) (EqG.app rfl (by simp <;> omega) (EqG.refl _ _ _) (EqG.lit (c := MapDone.c) (sz := 4) (L := ([y8] : List MapDone)) ⟨lr, lr, lr, lr, tv⟩)) ?_
    refine Dz.reg ?_
    refine vsucc (by omega) ?_
    exact ⟨(v6 ++ ([y8] : List MapDone)), entG [0, 1, 2, 6] ⟨mp rfl, mp rfl, mp rfl, ⟨rfl, rfl, tv⟩, mv rfl, tv⟩ ⟨⟨rfl, o_box rfl⟩, ⟨rfl, o_box rfl⟩, ⟨rfl, ⟨rfl, lr, lr, lr, tv, tv, tv, tv⟩⟩, ⟨rfl, o_row⟩, tv⟩ rfl, hF⟩
   ·refine Dz.skip (Dz.reg ?_)
    refine vsucc (by omega) ?_
    exact ⟨v6, entG [0, 1, 2, 3] ⟨mp rfl, mp rfl, mp rfl, ⟨rfl, rfl, tv⟩, mv rfl, tv⟩ ⟨⟨rfl, o_box rfl⟩, ⟨rfl, o_box rfl⟩, ⟨rfl, ⟨rfl, lr, lr, lr, tv, tv, tv, tv⟩⟩, ⟨rfl, o_row⟩, tv⟩ rfl, hF⟩
def s_l31Thaw (a0 : MapState) (a1 : Int) : Option (MapState) :=
 ix a0.Disks a1 (fun _ => lt (a0.Disks.getD a1.toNat default) (fun x1 => jn (fun (v4 : Int × List MapDisk) => (s_l31Last ({ Slots := a0.Slots, Servers := a0.Servers, Next := a0.Next, Disks := v4.2, Views := a0.Views, Done := a0.Done } : MapState) x1.Client).bind (fun y5 => cond (decide (x1.Call < y5.Call)) (some ({ Slots := a0.Slots, Servers := a0.Servers, Next := a0.Next, Disks := v4.2, Views := a0.Views, Done := a0.Done } : MapState)) ((s_l31Tell ({ Slots := a0.Slots, Servers := a0.Servers, Next := a0.Next, Disks := v4.2, Views := a0.Views, Done := a0.Done } : MapState) ({ Client := x1.Client, Call := x1.Call, Code := 0, Value := v4.1 } : MapDone)).bind (fun y6 => some y6)))) (fun j7 => cond (decide (x1.Frozen = 1)) (ix a0.Disks a1 (fun _ => j7 (x1.Epoch, (a0.Disks.set a1.toNat ({ Id := x1.Id, Size := x1.Size, Epoch := (w64 (x1.Epoch + 1)), Frozen := 0, Client := 0, Call := 0, Acks := [] } : MapDisk))))) (ck (0 ≤ a1 ∧ a1 ≤ (a0.Disks.length : Int)) (ck ((0 + a1.toNat) * 72 ≤ 140737488355328) (ck (0 ≤ (w64 (a1 + 1)) ∧ (w64 (a1 + 1)) ≤ (a0.Disks.length : Int)) (ck (((0 + a1.toNat) + (a0.Disks.length - ((w64 (a1 + 1)).toNat))) * 72 ≤ 140737488355328) (j7 (0, ((([] : List MapDisk) ++ (a0.Disks.take a1.toNat)) ++ (a0.Disks.drop ((w64 (a1 + 1)).toNat))))))))))))
theorem s_l31Thaw_c {a0 : MapState} {a1 : Int} {r : MapState} (hF : s_l31Thaw a0 a1 = some r) : Con Tryz.prog 159 [.val true [.u (cI a0.Slots), .u (cI a0.Servers), .u (cI a0.Next), .row 0, .u (ul MapView.c 3 false a0.Views), .u (ul MapDone.c 4 false a0.Done)], vint .i64 a1] [.row 113 a0.Disks.length 7 (gl MapDisk.c a0.Disks)] (.val true (MapState.L r)) [.none] := by
 refine Con.of_Dz tabOk Tryz.func159 rfl rfl rfl ?_
 delta s_l31Thaw at hF
 refine Dz.seq (Dz.reg (Dz.seq (Dz.reg ?_)))
 refine vix hF (fun _ _ hF => ?_)
 have hF := ltE hF
 refine Dz.seq (Dz.reg ?_)
 refine Dz.jn hF (fun v4 => ([(2, .ptr 1 0), (4, .ptr 2 0), (5, .ptr 3 0), (6, .ptr 4 0)], [.none, .box 46 [.u (cI a0.Slots), .u (cI a0.Servers), .u (cI a0.Next), .row 5, .u (ul MapView.c 3 false a0.Views), .u (ul MapDone.c 4 false a0.Done)], .box 46 [.u (cI 0), .u (cI 0), .u (cI 0), .nil, .nil, .nil], .box 113 (MapDisk.L (a0.Disks.getD a1.toNat default)), .box 207 [.u (cI ((a0.Disks.getD a1.toNat default).Client)), .u (cI ((a0.Disks.getD a1.toNat default).Call)), .u (cI 0), .u (cI v4.1)], .row 113 v4.2.length 7 (gl MapDisk.c v4.2)])) (fun v4 hF => ?_) (fun hF => ?_)
 ·refine Dz.seq (Dz.seq ?_)
  refine Dz.drw 6 [⟨[49,50,53,54], [1], 6, 6⟩, ⟨[48,53,54], [], 6, 6⟩, ⟨[48,53,54], [3], 6, 6⟩, ⟨[53,54], [5], 6, 6⟩, ⟨[53,54], [], 6, 6⟩, ⟨[48,49,50,51,52], [], 6, 6⟩, ⟨[48,49,50,51,52], [3], 6, 6⟩, ⟨[], [], 6, 6⟩] ⟨by kernel_rfl, by kernel_rfl, rfl⟩ ?_
  refine bdE hF (fun y5 hy5 hF => ?_)
  refine callL [] (s_l31Last_c hy5) ⟨⟨rfl, lr, lr, lr, ⟨rfl, rfl, lr⟩, lr, lr, tv⟩, mv rfl, tv⟩ tv rfl ⟨⟨tv, tv, tv, tv, tv⟩, tv⟩ ?_
  refine Dz.ite rfl hF (fun _ hF => ?_) (fun _ hF => ?_)
  ·refine Dz.seq (Dz.reg (Dz.ret ?_))
   cases hF
   exact finG [.frz 5] [0] rfl rfl (⟨rfl, lr, lr, lr, lr, lr, lr, tv⟩) ⟨⟨rfl, tv⟩, tv⟩ rfl
  ·refine Dz.skip (Dz.seq (Dz.reg ?_))
   refine bdE hF (fun y6 hy6 hF => ?_)
   refine callF [5] [] (s_l31Tell_c hy6) ⟨⟨rfl, lr, lr, lr, lr, lr, lr, tv⟩, mv rfl, tv⟩ tv rfl ?_
   refine Dz.ret ?_
   cases hF
   exact finG [.frz 6] [0] rfl rfl (⟨rfl, lr, lr, lr, lr, lr, lr, tv⟩) ⟨⟨rfl, tv⟩, tv⟩ rfl
 ·refine Dz.seq (Dz.reg ?_)
  refine Dz.ite rfl hF (fun _ hF => ?_) (fun _ hF => ?_)
  ·refine Dz.reg (vw64 ?_)
   refine vix hF (fun _ _ hF => ?_)
   exact ⟨((a0.Disks.getD a1.toNat default).Epoch, (a0.Disks.set a1.toNat ({ Id := (a0.Disks.getD a1.toNat default).Id, Size := (a0.Disks.getD a1.toNat default).Size, Epoch := (w64 ((a0.Disks.getD a1.toNat default).Epoch + 1)), Frozen := 0, Client := 0, Call := 0, Acks := [] } : MapDisk))), entG [0, 1, 2, 3, 4, 0] ⟨mp rfl, mp rfl, mp rfl, mp rfl, tv⟩ ⟨⟨rfl, tv⟩, ⟨rfl, ⟨rfl, lr, lr, lr, rfl, lr, lr, tv⟩⟩, ⟨rfl, ⟨rfl, lr, lr, lr, tv, tv, tv, tv⟩⟩, ⟨rfl, o_box rfl⟩, ⟨rfl, o_box rfl⟩, ⟨rfl, o_rowE (by simp <;> omega) (EqG.set' rfl (EqG.refl _ _ _) ⟨lr, lr, lr, lr, lr, lr, LeU.nil, tv⟩)⟩, tv⟩ rfl, hF⟩
  ·refine Dz.seq (Dz.reg ?_)
   refine Dz.ent (x := ([(1, vint .i64 a1), (2, .ptr 1 0), (4, .ptr 2 0), (5, .ptr 3 0), (6, .ptr 4 0)], [.none, .box 46 (MapState.L a0), .box 46 [.u (cI 0), .u (cI 0), .u (cI 0), .nil, .nil, .nil], .box 113 (MapDisk.L (a0.Disks.getD a1.toNat default)), .box 207 [.u (cI ((a0.Disks.getD a1.toNat default).Client)), .u (cI ((a0.Disks.getD a1.toNat default).Call)), .u (cI 0), .u (cI 0)]])) (entF [.frz 0] [0, 1, 2, 3, 4] rfl ⟨mv rfl, mp rfl, mp rfl, mp rfl, mp rfl, tv⟩ ⟨⟨rfl, tv⟩, ⟨rfl, ⟨rfl, lr, lr, lr, lr, lr, lr, tv⟩⟩, ⟨rfl, ⟨rfl, lr, lr, lr, tv, tv, tv, tv⟩⟩, ⟨rfl, o_box rfl⟩, ⟨rfl, o_box rfl⟩, tv⟩ rfl) ?_
   refine Dz.drw 5 [⟨[36,37,38,39,41,42,43,44,45], [], 5, 6⟩, ⟨[35,38,41,42,43,44,45], [], 6, 6⟩, ⟨[35,38,41,42,43,44,45], [1], 6, 6⟩, ⟨[35,36,37,41,42,43,44,45], [], 6, 6⟩, ⟨[35,41,42,43,44,45], [], 6, 6⟩, ⟨[41,42,43,44,45], [5], 6, 7⟩, ⟨[35,36,37,38,39,40,43,44], [], 7, 7⟩, ⟨[35,36,37,38,39,40,43,44], [1], 7, 7⟩, ⟨[35,36,37,38,39,40,41,42], [], 7, 7⟩, ⟨[35,36,37,38,39,40,41,42], [], 7, 7⟩, ⟨[35,36,37,38,39,40], [], 7, 7⟩, ⟨[], [6], 7, 8⟩, ⟨[], [], 8, 8⟩, ⟨[], [1], 8, 8⟩] ⟨by kernel_rfl, by kernel_rfl, rfl⟩ ?_
   refine vck hF id (fun _ hF => ?_)
   refine vck hF id (fun _ hF => ?_)
   refine vw64 ?_
   refine vck hF id (fun _ hF => ?_)
   refine vck hF id (fun _ hF => ?_)
   exact ⟨(0, ((([] : List MapDisk) ++ (a0.Disks.take a1.toNat)) ++ (a0.Disks.drop ((w64 (a1 + 1)).toNat)))), entG [0, 1, 2, 3, 4, 7] ⟨mp rfl, mp rfl, mp rfl, mp rfl, tv⟩ ⟨⟨rfl, tv⟩, ⟨rfl, ⟨rfl, lr, lr, lr, rfl, lr, lr, tv⟩⟩, ⟨rfl, ⟨rfl, lr, lr, lr, tv, tv, tv, tv⟩⟩, ⟨rfl, o_box rfl⟩, ⟨rfl, o_box rfl⟩, ⟨rfl, o_rowE (by simp <;> omega) (EqG.app (by simp <;> omega) (by simp <;> omega) (EqG.app (by simp <;> omega) (by simp <;> omega) EqG.nilr (EqG.take _)) (EqG.drop _))⟩, tv⟩ rfl, hF⟩
def s_l31Ack (a0 : MapState) (a1 : Cmd) : Option (MapState) :=
 (s_l31Disk a0 a1.Disk).bind (fun y1 => cond (decide (y1 < 0)) (some a0) ((s_l6In a1.Range 0 2).bind (fun y2 => cond (!y2) (some a0) (ix a0.Views a1.Range (fun x3 => cond (!decide (x3.Num = a1.Num)) (some a0) (ix a0.Disks y1 (fun _ => cond (decide ((a0.Disks.getD y1.toNat default).Frozen = 0)) (some a0) (ix a0.Disks y1 (fun _ => cond (!decide ((a0.Disks.getD y1.toNat default).Epoch = a1.Epoch)) (some a0) (ix a0.Disks y1 (fun _ => (s_l22Has ((a0.Disks.getD y1.toNat default).Acks) a1.Range).bind (fun y4 => cond y4 (some a0) (ix a0.Disks y1 (fun _ => ck ((0 + ((a0.Disks.getD y1.toNat default).Acks).length) * 8 ≤ 140737488355328) (ck (((0 + ((a0.Disks.getD y1.toNat default).Acks).length) + 1) * 8 ≤ 140737488355328) (ix a0.Disks y1 (fun _ => lt (a0.Disks.set y1.toNat ({ Id := (a0.Disks.getD y1.toNat default).Id, Size := (a0.Disks.getD y1.toNat default).Size, Epoch := (a0.Disks.getD y1.toNat default).Epoch, Frozen := (a0.Disks.getD y1.toNat default).Frozen, Client := (a0.Disks.getD y1.toNat default).Client, Call := (a0.Disks.getD y1.toNat default).Call, Acks := ((([] : List Int) ++ ((a0.Disks.getD y1.toNat default).Acks)) ++ ([a1.Range] : List Int)) } : MapDisk)) (fun r5 => ix r5 y1 (fun _ => cond (decide (((((r5.getD y1.toNat default).Acks).length : Nat) : Int) = 3)) ((s_l31Thaw ({ Slots := a0.Slots, Servers := a0.Servers, Next := a0.Next, Disks := r5, Views := a0.Views, Done := a0.Done } : MapState) y1).bind (fun y7 => some y7)) (some ({ Slots := a0.Slots, Servers := a0.Servers, Next := a0.Next, Disks := r5, Views := a0.Views, Done := a0.Done } : MapState)))))))))))))))))))))
theorem s_l31Ack_c {a0 : MapState} {a1 : Cmd} {r : MapState} (hF : s_l31Ack a0 a1 = some r) : Con Tryz.prog 119 [.val true [.u (cI a0.Slots), .u (cI a0.Servers), .u (cI a0.Next), .row 0, .u (ul MapView.c 3 false a0.Views), .u (ul MapDone.c 4 false a0.Done)], .val true (Cmd.L a1)] [.row 113 a0.Disks.length 7 (gl MapDisk.c a0.Disks)] (.val true (MapState.L r)) [.none] := by
 refine Con.of_Dz tabOk Tryz.func119 rfl rfl rfl ?_
 delta s_l31Ack at hF
 refine Dz.seq (Dz.reg (Dz.seq (Dz.reg ?_)))
 refine bdE hF (fun y1 hy1 hF => ?_)
 refine callL [] (s_l31Disk_c hy1) ⟨⟨rfl, lr, lr, lr, ⟨rfl, rfl, lr⟩, lr, lr, tv⟩, mv rfl, tv⟩ tv rfl ⟨⟨tv, tv⟩, tv⟩ ?_
 refine Dz.seq (Dz.seq ?_)
 refine Dz.drw 4 [⟨[], [], 4, 4⟩, ⟨[], [], 4, 4⟩, ⟨[], [], 4, 4⟩, ⟨[], [], 4, 4⟩, ⟨[], [2], 4, 4⟩, ⟨[], [], 4, 4⟩, ⟨[], [], 4, 4⟩, ⟨[], [], 4, 4⟩, ⟨[], [], 4, 4⟩, ⟨[21,22,26,27], [], 4, 4⟩, ⟨[21,22,26,27], [1], 4, 4⟩, ⟨[19,20,26,27], [], 4, 4⟩, ⟨[19,20,26,27], [2], 4, 4⟩, ⟨[26,27], [], 4, 4⟩, ⟨[26,27], [], 4, 4⟩, ⟨[26,27], [], 4, 4⟩, ⟨[19,20,21,22,23,24,25], [], 4, 4⟩, ⟨[19,20,21,22,23,24,25], [2], 4, 4⟩, ⟨[], [], 4, 4⟩, ⟨[], [], 4, 4⟩, ⟨[], [], 4, 4⟩, ⟨[33], [], 4, 4⟩, ⟨[33], [1], 4, 4⟩, ⟨[31,32], [], 4, 4⟩, ⟨[], [0], 4, 4⟩, ⟨[], [], 4, 4⟩, ⟨[], [0], 4, 4⟩, ⟨[], [], 4, 4⟩, ⟨[], [], 4, 4⟩, ⟨[], [], 4, 4⟩, ⟨[42,46,47], [], 4, 4⟩, ⟨[42,46,47], [1], 4, 4⟩, ⟨[40,41,46,47], [], 4, 4⟩, ⟨[46,47], [0], 4, 4⟩, ⟨[46,47], [], 4, 4⟩, ⟨[46,47], [0], 4, 4⟩, ⟨[40,41,42,43,44,45], [], 4, 4⟩, ⟨[40,41,42,43,44,45], [2], 4, 4⟩, ⟨[], [], 4, 4⟩, ⟨[], [], 4, 4⟩, ⟨[], [], 4, 4⟩, ⟨[53,57,58], [], 4, 4⟩, ⟨[53,57,58], [1], 4, 4⟩, ⟨[51,52,57,58], [], 4, 4⟩, ⟨[57,58], [0], 4, 4⟩, ⟨[57,58], [], 4, 4⟩, ⟨[57,58], [0], 4, 4⟩, ⟨[51,52,53,54,55,56], [], 4, 4⟩, ⟨[51,52,53,54,55,56], [2], 4, 4⟩, ⟨[], [], 4, 4⟩, ⟨[], [], 4, 4⟩] ⟨by kernel_rfl, by kernel_rfl, rfl⟩ ?_
 refine vif hF (fun _ hF => ?_) (fun _ hF => ?_)
 ·refine Dz.tt (b := true) rfl rfl ?_
  refine Dz.seq (Dz.reg (Dz.ret ?_))
  cases hF
  exact finG [.frz 0] [0] rfl rfl (⟨rfl, lr, lr, lr, lr, lr, lr, tv⟩) ⟨⟨rfl, tv⟩, tv⟩ rfl
 ·refine bdE hF (fun y2 hy2 hF => ?_)
  refine callG [] (s_l6In_c hy2) ⟨mv rfl, mv rfl, mv rfl, tv⟩ tv rfl ?_
  refine vif hF (fun _ hF => ?_) (fun _ hF => ?_)
  ·refine Dz.tt (b := true) rfl rfl ?_
   refine Dz.seq (Dz.reg (Dz.ret ?_))
   cases hF
   exact finG [.frz 0] [0] rfl rfl (⟨rfl, lr, lr, lr, lr, lr, lr, tv⟩) ⟨⟨rfl, tv⟩, tv⟩ rfl
  ·refine vix hF (fun _ _ hF => ?_)
   refine vif hF (fun _ hF => ?_) (fun _ hF => ?_)
   ·refine Dz.tt (b := true) rfl rfl ?_
    refine Dz.seq (Dz.reg (Dz.ret ?_))
    cases hF
    exact finG [.frz 0] [0] rfl rfl (⟨rfl, lr, lr, lr, lr, lr, lr, tv⟩) ⟨⟨rfl, tv⟩, tv⟩ rfl
   ·refine vix hF (fun _ _ hF => ?_)
    refine vif hF (fun _ hF => ?_) (fun _ hF => ?_)
    ·refine Dz.tt (b := true) rfl rfl ?_
     refine Dz.seq (Dz.reg (Dz.ret ?_))
     cases hF
     exact finG [.frz 0] [0] rfl rfl (⟨rfl, lr, lr, lr, lr, lr, lr, tv⟩) ⟨⟨rfl, tv⟩, tv⟩ rfl
    ·refine vix hF (fun _ _ hF => ?_)
     refine vif hF (fun _ hF => ?_) (fun _ hF => ?_)
     ·refine Dz.tt (b := true) rfl rfl ?_
      refine Dz.seq (Dz.reg (Dz.ret ?_))
      cases hF
      exact finG [.frz 0] [0] rfl rfl (⟨rfl, lr, lr, lr, lr, lr, lr, tv⟩) ⟨⟨rfl, tv⟩, tv⟩ rfl
     ·refine vix hF (fun _ _ hF => ?_)
      refine bdE hF (fun y4 hy4 hF => ?_)
      refine callG [] (s_l22Has_c hy4) ⟨mv rfl, mv rfl, tv⟩ tv rfl ?_
      refine Dz.ite rfl hF (fun _ hF => ?_) (fun _ hF => ?_)
      ·refine Dz.seq (Dz.reg (Dz.ret ?_))
       cases hF
       exact finG [.frz 0] [0] rfl rfl (⟨rfl, lr, lr, lr, lr, lr, lr, tv⟩) ⟨⟨rfl, tv⟩, tv⟩ rfl
      ·refine Dz.skip (Dz.seq ?_)
       refine Dz.drw 4 [⟨[64,65,66,67,68,69,70,71,72,73,74,75,76], [], 4, 4⟩, ⟨[64,65,66,67,68,69,70,71,72,73,74,75,76], [1], 4, 4⟩, ⟨[62,63,65,66,67,68,69,70,71,72,73,74,75,76], [], 4, 4⟩, ⟨[62,63,64,66,67,68,69,70,71,73,74,75], [], 4, 5⟩, ⟨[62,63,64,65,68,73,74,75], [], 5, 5⟩, ⟨[62,63,64,65,68,73,74,75], [1], 5, 5⟩, ⟨[62,63,64,65,66,67,73,74,75], [], 5, 5⟩, ⟨[62,63,64,65,73,74,75], [0], 5, 5⟩, ⟨[62,63,64,65,73,74,75], [], 5, 5⟩, ⟨[62,63,64,65,73,74,75], [0], 5, 5⟩, ⟨[62,63,64,73,74,75], [4], 5, 6⟩, ⟨[62,63,64,65,66,67,68,69,70,71,72], [], 6, 6⟩, ⟨[62,63,64,65,66,67,68,69,70,71,72], [2], 6, 6⟩, ⟨[62,63,64,65,66,67,68,69,70,71,72], [], 6, 7⟩, ⟨[62,63,64], [5,6], 7, 8⟩, ⟨[], [0], 8, 8⟩, ⟨[], [], 8, 8⟩, ⟨[], [0,7], 8, 8⟩] ⟨by kernel_rfl, by kernel_rfl, rfl⟩ ?_
       refine vix hF (fun _ _ hF => ?_)
       refine vck hF id (fun _ hF => ?_)
       refine vck hF id (fun _ hF => ?_)
       refine vix hF (fun _ _ hF => ?_)
       refine ltX hF (fun r5 hr5 hF => ?_)
       have hlr5 : r5.length = a0.Disks.length := by rw [hr5]; simp <;> omega
       refine Dz.row 0 r5.length (gl MapDisk.c r5) rfl (by rw [hr5]; simp <;> omega) (by rw [hr5]; exact (EqG.set' rfl (EqG.refl _ _ _) ⟨lr, lr, lr, lr, lr, lr, LeU.cut (by simp <;> omega) (EqG.app (by simp <;> omega) (by simp <;> omega) (EqG.app (by simp <;> omega) rfl EqG.nilr (EqG.refl _ _ _)) (EqG.lit (c := cInt) (sz := 1) (L := ([a1.Range] : List Int)) ⟨lr, tv⟩)), tv⟩)) ?_
       refine Dz.row 6 ([a1.Range] : List Int).length (gl cInt ([a1.Range] : List Int)) rfl (by simp <;> omega) (EqG.lit (c := cInt) (sz := 1) (L := ([a1.Range] : List Int)) ⟨lr, tv⟩) ?_
       refine Dz.seq (Dz.seq (Dz.reg ?_))
       refine vix hF (fun _ _ hF => ?_)
       intro hb6; replace hb6 : ((r5.getD y1.toNat default).Acks).length ≤ 140737488355328 := hb6
       refine Dz.ite rfl hF (fun _ hF => ?_) (fun _ hF => ?_)
       ·refine Dz.seq (Dz.reg ?_)
        refine bdE hF (fun y7 hy7 hF => ?_)
        refine callG [0] (s_l31Thaw_c hy7) ⟨⟨rfl, lr, lr, lr, rfl, lr, lr, tv⟩, mv rfl, tv⟩ ⟨⟨rfl, o_row⟩, tv⟩ rfl ?_
        refine Dz.ret ?_
        cases hF
        exact finG [] [0] rfl rfl (mv rfl) ⟨⟨rfl, tv⟩, tv⟩ rfl
       ·refine Dz.skip (Dz.seq (Dz.reg (Dz.ret ?_)))
        cases hF
        exact finG [.frz 0] [0] rfl rfl (⟨rfl, lr, lr, lr, lr, lr, lr, tv⟩) ⟨⟨rfl, tv⟩, tv⟩ rfl
def s_l31Past (a0 : MapState) (a1 : Int) (a2 : Int) : Option (Bool) :=
 (s_l31Last a0 a1).bind (fun y1 => jn (fun (v2 : Unit) => loopN (fun i3 (v5 : Unit) κ6 => cond (!decide ((a0.Disks.getD i3 default).Frozen = 0)) (cond (decide ((a0.Disks.getD i3 default).Client = a1)) (cond (decide (a2 ≤ (a0.Disks.getD i3 default).Call)) (some true) (κ6 ())) (κ6 ())) (κ6 ())) (fun (v5 : Unit) => some false) a0.Disks.length 0 ()) (fun j9 => cond (decide ((0 : Int) < y1.Call)) (cond (decide (a2 < y1.Call)) (some true) (cond (decide (y1.Call = a2)) (cond (!decide (y1.Code = 6)) (some true) (j9 ())) (j9 ()))) (j9 ())))
theorem s_l31Past_c {t0_3 t0_4 t0_5 : Bool} {a0 : MapState} {a1 : Int} {a2 : Int} {r : Bool} (hF : s_l31Past a0 a1 a2 = some r) : Con Tryz.prog 160 [.val true [.u (cI a0.Slots), .u (cI a0.Servers), .u (cI a0.Next), .u (ul MapDisk.c 7 t0_3 a0.Disks), .u (ul MapView.c 3 t0_4 a0.Views), .u (ul MapDone.c 4 t0_5 a0.Done)], vint .i64 a1, vint .i64 a2] [] (vbool r) [] := by
 refine Con.of_Dz tabOk Tryz.func160 rfl rfl rfl ?_
 delta s_l31Past at hF
 refine Dz.seq (Dz.reg (Dz.seq (Dz.reg ?_)))
 refine bdE hF (fun y1 hy1 hF => ?_)
 refine callG [] (s_l31Last_c hy1) ⟨mv rfl, mv rfl, tv⟩ tv rfl ?_
 refine Dz.jn hF (fun v2 => ([(1, vint .i64 a1), (2, vint .i64 a2), (3, .ptr 0 0)], [.box 46 [.u (cI a0.Slots), .u (cI a0.Servers), .u (cI a0.Next), .u (ul MapDisk.c 7 t0_3 a0.Disks), .u (ul MapView.c 3 t0_4 a0.Views), .u (ul MapDone.c 4 t0_5 a0.Done)]])) (fun v2 hF => ?_) (fun hF => ?_)
 ·refine Dz.seq (Dz.seq (Dz.reg (Dz.blk ?_)))
  refine Dz.cnt hF (fun i3 v5 => ([(1, vint .i64 a1), (2, vint .i64 a2), (3, .ptr 0 0), (8, vint .i64 ((i3 : Nat) : Int))], [.box 46 [.u (cI a0.Slots), .u (cI a0.Servers), .u (cI a0.Next), .u (ul MapDisk.c 7 t0_3 a0.Disks), .u (ul MapView.c 3 t0_4 a0.Views), .u (ul MapDone.c 4 t0_5 a0.Done)]])) (entG [0] ⟨mv rfl, mv rfl, mp rfl, mv rfl, tv⟩ ⟨⟨rfl, o_box rfl⟩, tv⟩ rfl) (fun v5 hF => ?_) (fun i3 v5 κ6 hi0i3 hi1i3 hF => ?_)
  ·refine Dz.seq (Dz.seq (Dz.reg ?_))
   intro hb8; replace hb8 : a0.Disks.length ≤ 140737488355328 := hb8
   refine Dz.ff (b := decide (((0 + a0.Disks.length : Nat) : Int) < ((a0.Disks.length : Nat) : Int))) rfl (decide_eq_false (by omega)) ?_
   refine Dz.exit (Dz.seq (Dz.reg (Dz.ret ?_)))
   cases hF
   exact finG [] [] rfl rfl (mv rfl) tv rfl
  ·refine Dz.seq (Dz.seq (Dz.reg ?_))
   intro hb7; replace hb7 : a0.Disks.length ≤ 140737488355328 := hb7
   refine Dz.tt (b := decide (((i3 : Nat) : Int) < ((a0.Disks.length : Nat) : Int))) rfl (decide_eq_true (by omega)) ?_
   refine Dz.skip (Dz.seq (Dz.blk (Dz.seq (Dz.reg ?_))))
   refine vge (n := ((i3 : Nat) : Int)) (hi := (a0.Disks.length : Int)) (by omega) (by omega) ?_
   refine vif hF (fun _ hF => ?_) (fun _ hF => ?_)
   ·refine vge (n := ((i3 : Nat) : Int)) (hi := (a0.Disks.length : Int)) (by omega) (by omega) ?_
    refine vif hF (fun _ hF => ?_) (fun _ hF => ?_)
    ·refine vge (n := ((i3 : Nat) : Int)) (hi := (a0.Disks.length : Int)) (by omega) (by omega) ?_
     refine Dz.ite rfl hF (fun _ hF => ?_) (fun _ hF => ?_)
     ·refine Dz.seq (Dz.reg (Dz.ret ?_))
      cases hF
      exact finG [] [] rfl rfl (mv rfl) tv rfl
     ·refine Dz.skip (Dz.reg ?_)
      refine vsucc (by omega) ?_
      exact ⟨(), entG [0] ⟨mv rfl, mv rfl, mp rfl, mv rfl, tv⟩ ⟨⟨rfl, o_box rfl⟩, tv⟩ rfl, hF⟩
    ·refine Dz.ff (b := false) rfl rfl ?_
     refine Dz.skip (Dz.reg ?_)
     refine vsucc (by omega) ?_
     exact ⟨(), entG [0] ⟨mv rfl, mv rfl, mp rfl, mv rfl, tv⟩ ⟨⟨rfl, o_box rfl⟩, tv⟩ rfl, hF⟩
   ·refine Dz.ff (b := false) rfl rfl ?_
    refine Dz.skip (Dz.reg ?_)
    refine vsucc (by omega) ?_
    exact ⟨(), entG [0] ⟨mv rfl, mv rfl, mp rfl, mv rfl, tv⟩ ⟨⟨rfl, o_box rfl⟩, tv⟩ rfl, hF⟩
 ·refine Dz.seq (Dz.reg ?_)
  refine vif hF (fun _ hF => ?_) (fun _ hF => ?_)
  ·refine vif hF (fun _ hF => ?_) (fun _ hF => ?_)
   ·refine Dz.tt (b := true) rfl rfl ?_
    refine Dz.seq (Dz.reg (Dz.ret ?_))
    cases hF
    exact finG [] [] rfl rfl (mv rfl) tv rfl
   ·refine vif hF (fun _ hF => ?_) (fun _ hF => ?_)
    ·refine Dz.ite rfl hF (fun _ hF => ?_) (fun _ hF => ?_)
     ·refine Dz.seq (Dz.reg (Dz.ret ?_))
      cases hF
      exact finG [] [] rfl rfl (mv rfl) tv rfl
     ·refine Dz.skip ?_
      exact ⟨(), entG [0] ⟨mv rfl, mv rfl, mp rfl, tv⟩ ⟨⟨rfl, o_box rfl⟩, tv⟩ rfl, hF⟩
    ·refine Dz.ff (b := false) rfl rfl ?_
     refine Dz.skip ?_
     exact ⟨(), entG [0] ⟨mv rfl, mv rfl, mp rfl, tv⟩ ⟨⟨rfl, o_box rfl⟩, tv⟩ rfl, hF⟩
  ·refine Dz.ff (b := false) rfl rfl ?_
   refine Dz.skip ?_
   exact ⟨(), entG [0] ⟨mv rfl, mv rfl, mp rfl, tv⟩ ⟨⟨rfl, o_box rfl⟩, tv⟩ rfl, hF⟩
def s_l31Create (a0 : MapState) (a1 : Cmd) : Option (MapState) :=
 (s_l6In a1.Arg 1 8).bind (fun y1 => cond (!y1) ((s_l31Tell a0 ({ Client := a1.Client, Call := a1.Call, Code := 4, Value := 0 } : MapDone)).bind (fun y2 => some y2)) (cond (decide ((4 : Int) < a0.Next)) ((s_l31Tell a0 ({ Client := a1.Client, Call := a1.Call, Code := 4, Value := 0 } : MapDone)).bind (fun y3 => some y3)) (ck ((a0.Disks.length + 1) * 72 ≤ 140737488355328) ((s_l31Tell ({ Slots := a0.Slots, Servers := a0.Servers, Next := (w64 (a0.Next + 1)), Disks := (a0.Disks ++ ([({ Id := a0.Next, Size := a1.Arg, Epoch := 1, Frozen := 0, Client := 0, Call := 0, Acks := [] } : MapDisk)] : List MapDisk)), Views := a0.Views, Done := a0.Done } : MapState) ({ Client := a1.Client, Call := a1.Call, Code := 0, Value := (w64 ((w64 (a0.Next + 1)) - 1)) } : MapDone)).bind (fun y4 => some y4)))))
theorem s_l31Create_c {t0_5 : Bool} {a0 : MapState} {a1 : Cmd} {r : MapState} (hF : s_l31Create a0 a1 = some r) : Con Tryz.prog 161 [.val true [.u (cI a0.Slots), .u (cI a0.Servers), .u (cI a0.Next), .row 0, .u (ul MapView.c 3 false a0.Views), .u (ul MapDone.c 4 t0_5 a0.Done)], .val true (Cmd.L a1)] [.row 113 a0.Disks.length 7 (gl MapDisk.c a0.Disks)] (.val true [.u (cI r.Slots), .u (cI r.Servers), .u (cI r.Next), .u (ul MapDisk.c 7 false r.Disks), .u (ul MapView.c 3 false r.Views), .row 1]) [.none, .row 207 r.Done.length 4 (gl MapDone.c r.Done)] := by
 refine Con.of_Dz tabOk Tryz.func161 rfl rfl rfl ?_
 delta s_l31Create at hF
 refine Dz.seq (Dz.reg (Dz.seq (Dz.seq (Dz.reg ?_))))
 refine bdE hF (fun y1 hy1 hF => ?_)
 refine callG [] (s_l6In_c hy1) ⟨mv rfl, mv rfl, mv rfl, tv⟩ tv rfl ?_
 refine vif hF (fun _ hF => ?_) (fun _ hF => ?_)
 ·refine Dz.tt (b := true) rfl rfl ?_
  refine Dz.seq (Dz.reg ?_)
  refine bdE hF (fun y2 hy2 hF => ?_)
  refine callF [0] [] (s_l31Tell_c hy2) ⟨⟨rfl, lr, lr, lr, lr, lr, lr, tv⟩, mv rfl, tv⟩ tv rfl ?_
  refine Dz.ret ?_
  cases hF
  exact finG [] [0, 4] rfl rfl (⟨rfl, lr, lr, lr, lr, lr, rfl, tv⟩) ⟨⟨rfl, tv⟩, ⟨rfl, o_row⟩, tv⟩ rfl
 ·refine Dz.ite rfl hF (fun _ hF => ?_) (fun _ hF => ?_)
  ·refine Dz.seq (Dz.reg ?_)
   refine bdE hF (fun y3 hy3 hF => ?_)
   refine callF [0] [] (s_l31Tell_c hy3) ⟨⟨rfl, lr, lr, lr, lr, lr, lr, tv⟩, mv rfl, tv⟩ tv rfl ?_
   refine Dz.ret ?_
   cases hF
   exact finG [] [0, 4] rfl rfl (⟨rfl, lr, lr, lr, lr, lr, rfl, tv⟩) ⟨⟨rfl, tv⟩, ⟨rfl, o_row⟩, tv⟩ rfl
  ·refine Dz.skip (Dz.seq (Dz.reg ?_))
   refine vck hF id (fun _ hF => ?_)
   refine Dz.row 4 ([({ Id := a0.Next, Size := a1.Arg, Epoch := 1, Frozen := 0, Client := 0, Call := 0, Acks := [] } : MapDisk)] : List MapDisk).length (gl MapDisk.c ([({ Id := a0.Next, Size := a1.Arg, Epoch := 1, Frozen := 0, Client := 0, Call := 0, Acks := [] } : MapDisk)] : List MapDisk)) rfl (by simp <;> omega) (EqG.lit (c := MapDisk.c) (sz := 7) (L := ([({ Id := a0.Next, Size := a1.Arg, Epoch := 1, Frozen := 0, Client := 0, Call := 0, Acks := [] } : MapDisk)] : List MapDisk)) ⟨lr, lr, lr, lr, lr, lr, LeU.nil, tv⟩) ?_
   refine Dz.row 5 (a0.Disks ++ ([({ Id := a0.Next, Size := a1.Arg, Epoch := 1, Frozen := 0, Client := 0, Call := 0, Acks := [] } : MapDisk)] : List MapDisk)).length (gl MapDisk.c (a0.Disks ++ ([({ Id := a0.Next, Size := a1.Arg, Epoch := 1, Frozen := 0, Client := 0, Call := 0, Acks := [] } : MapDisk)] : List MapDisk))) rfl (by simp <;> omega) (EqG.app rfl (by simp <;> omega) (EqG.refl _ _ _) (EqG.lit (c := MapDisk.c) (sz := 7) (L := ([({ Id := a0.Next, Size := a1.Arg, Epoch := 1, Frozen := 0, Client := 0, Call := 0, Acks := [] } : MapDisk)] : List MapDisk)) ⟨lr, lr, lr, lr, lr, lr, LeU.nil, tv⟩)) ?_
   refine Dz.seq (Dz.reg (vw64 (Dz.seq (Dz.reg (vw64 ?_)))))
   refine bdE hF (fun y4 hy4 hF => ?_)
   refine callF [5] [] (s_l31Tell_c hy4) ⟨⟨rfl, lr, lr, lr, lr, lr, lr, tv⟩, mv rfl, tv⟩ tv rfl ?_
   refine Dz.ret ?_
   cases hF
   exact finG [] [0, 6] rfl rfl (⟨rfl, lr, lr, lr, lr, lr, rfl, tv⟩) ⟨⟨rfl, tv⟩, ⟨rfl, o_row⟩, tv⟩ rfl
def s_l31Freeze (a0 : MapState) (a1 : Cmd) (a2 : Int) : Option (MapState) :=
 (s_l31Disk a0 a1.Disk).bind (fun y1 => cond (decide (y1 < 0)) ((s_l31Tell a0 ({ Client := a1.Client, Call := a1.Call, Code := 1, Value := 0 } : MapDone)).bind (fun y2 => some y2)) (ix a0.Disks y1 (fun _ => cond (!decide ((a0.Disks.getD y1.toNat default).Frozen = 0)) ((s_l31Tell a0 ({ Client := a1.Client, Call := a1.Call, Code := 5, Value := 0 } : MapDone)).bind (fun y3 => some y3)) (ix a0.Disks y1 (fun _ => lt (a0.Disks.set y1.toNat ({ Id := (a0.Disks.getD y1.toNat default).Id, Size := (a0.Disks.getD y1.toNat default).Size, Epoch := (a0.Disks.getD y1.toNat default).Epoch, Frozen := a2, Client := (a0.Disks.getD y1.toNat default).Client, Call := (a0.Disks.getD y1.toNat default).Call, Acks := (a0.Disks.getD y1.toNat default).Acks } : MapDisk)) (fun r4 => ix r4 y1 (fun _ => lt (r4.set y1.toNat ({ Id := (r4.getD y1.toNat default).Id, Size := (r4.getD y1.toNat default).Size, Epoch := (r4.getD y1.toNat default).Epoch, Frozen := (r4.getD y1.toNat default).Frozen, Client := a1.Client, Call := (r4.getD y1.toNat default).Call, Acks := (r4.getD y1.toNat default).Acks } : MapDisk)) (fun r5 => ix r5 y1 (fun _ => lt (r5.set y1.toNat ({ Id := (r5.getD y1.toNat default).Id, Size := (r5.getD y1.toNat default).Size, Epoch := (r5.getD y1.toNat default).Epoch, Frozen := (r5.getD y1.toNat default).Frozen, Client := (r5.getD y1.toNat default).Client, Call := a1.Call, Acks := (r5.getD y1.toNat default).Acks } : MapDisk)) (fun r6 => some ({ Slots := a0.Slots, Servers := a0.Servers, Next := a0.Next, Disks := r6, Views := a0.Views, Done := a0.Done } : MapState)))))))))))
theorem s_l31Freeze_c {a0 : MapState} {a1 : Cmd} {a2 : Int} {r : MapState} (hF : s_l31Freeze a0 a1 a2 = some r) : Con Tryz.prog 162 [.val true [.u (cI a0.Slots), .u (cI a0.Servers), .u (cI a0.Next), .row 0, .u (ul MapView.c 3 false a0.Views), .u (ul MapDone.c 4 false a0.Done)], .val true (Cmd.L a1), vint .i64 a2] [.row 113 a0.Disks.length 7 (gl MapDisk.c a0.Disks)] (.val true (MapState.L r)) [.none] := by
 refine Con.of_Dz tabOk Tryz.func162 rfl rfl rfl ?_
 delta s_l31Freeze at hF
 refine Dz.seq (Dz.reg (Dz.seq (Dz.reg ?_)))
 refine bdE hF (fun y1 hy1 hF => ?_)
 refine callL [] (s_l31Disk_c hy1) ⟨⟨rfl, lr, lr, lr, ⟨rfl, rfl, lr⟩, lr, lr, tv⟩, mv rfl, tv⟩ tv rfl ⟨⟨tv, tv⟩, tv⟩ ?_
 refine Dz.seq (Dz.seq (Dz.reg ?_))
 refine Dz.ite rfl hF (fun _ hF => ?_) (fun _ hF => ?_)
 ·refine Dz.seq (Dz.reg ?_)
  refine bdE hF (fun y2 hy2 hF => ?_)
  refine callF [0] [] (s_l31Tell_c hy2) ⟨⟨rfl, lr, lr, lr, lr, lr, lr, tv⟩, mv rfl, tv⟩ tv rfl ?_
  refine Dz.ret ?_
  cases hF
  exact finG [.frz 4] [0] rfl rfl (⟨rfl, lr, lr, lr, lr, lr, lr, tv⟩) ⟨⟨rfl, tv⟩, tv⟩ rfl
 ·refine Dz.skip (Dz.seq (Dz.seq (Dz.reg ?_)))
  refine vix hF (fun _ _ hF => ?_)
  refine Dz.ite rfl hF (fun _ hF => ?_) (fun _ hF => ?_)
  ·refine Dz.seq (Dz.reg ?_)
   refine bdE hF (fun y3 hy3 hF => ?_)
   refine callF [0] [] (s_l31Tell_c hy3) ⟨⟨rfl, lr, lr, lr, lr, lr, lr, tv⟩, mv rfl, tv⟩ tv rfl ?_
   refine Dz.ret ?_
   cases hF
   exact finG [.frz 4] [0] rfl rfl (⟨rfl, lr, lr, lr, lr, lr, lr, tv⟩) ⟨⟨rfl, tv⟩, tv⟩ rfl
  ·refine Dz.skip (Dz.seq (Dz.reg ?_))
   refine vix hF (fun _ _ hF => ?_)
   refine ltX hF (fun r4 hr4 hF => ?_)
   have hlr4 : r4.length = a0.Disks.length := by rw [hr4]; simp <;> omega
   refine Dz.row 0 r4.length (gl MapDisk.c r4) rfl (by rw [hr4]; simp <;> omega) (by rw [hr4]; exact (EqG.set' rfl (EqG.refl _ _ _) ⟨lr, lr, lr, lr, lr, lr, lr, tv⟩)) ?_
   refine Dz.seq (Dz.reg ?_)
   refine vix hF (fun _ _ hF => ?_)
   refine ltX hF (fun r5 hr5 hF => ?_)
   have hlr5 : r5.length = r4.length := by rw [hr5]; simp <;> omega
   refine Dz.row 0 r5.length (gl MapDisk.c r5) rfl (by rw [hr5]; simp <;> omega) (by rw [hr5]; exact (EqG.set' rfl (EqG.refl _ _ _) ⟨lr, lr, lr, lr, lr, lr, lr, tv⟩)) ?_
   refine Dz.seq (Dz.reg ?_)
   refine vix hF (fun _ _ hF => ?_)
   refine ltX hF (fun r6 hr6 hF => ?_)
   have hlr6 : r6.length = r5.length := by rw [hr6]; simp <;> omega
   refine Dz.row 0 r6.length (gl MapDisk.c r6) rfl (by rw [hr6]; simp <;> omega) (by rw [hr6]; exact (EqG.set' rfl (EqG.refl _ _ _) ⟨lr, lr, lr, lr, lr, lr, lr, tv⟩)) ?_
   refine Dz.seq (Dz.reg (Dz.ret ?_))
   cases hF
   exact finG [.frz 0] [0] rfl rfl (⟨rfl, lr, lr, lr, lr, lr, lr, tv⟩) ⟨⟨rfl, tv⟩, tv⟩ rfl
def s_MapJudge (a0 : MapState) (a1 : Int) (a2 : Int) (a3 : Int) (a4 : Bool) : Option (Int) :=
 (s_MapOk a0).bind (fun y1 => cond (!y1) (some 1) ((s_l31Disk a0 a1).bind (fun y2 => cond (decide (y2 < 0)) (some 1) (ix a0.Disks y2 (fun x3 => (s_l6In a2 0 (w64 (x3.Size - 1))).bind (fun y4 => cond (!y4) (some 2) (cond (!a4) (cond (!decide (a3 = 0)) (ix a0.Disks y2 (fun x5 => (s_l6In a3 1 (w64 (x5.Epoch - 1))).bind (fun y6 => cond (!y6) (some 3) (some 0)))) (some 0)) (some 0))))))))
theorem s_MapJudge_c {t0_3 t0_4 t0_5 : Bool} {a0 : MapState} {a1 : Int} {a2 : Int} {a3 : Int} {a4 : Bool} {r : Int} (hF : s_MapJudge a0 a1 a2 a3 a4 = some r) : Con Tryz.prog 164 [.val true [.u (cI a0.Slots), .u (cI a0.Servers), .u (cI a0.Next), .u (ul MapDisk.c 7 t0_3 a0.Disks), .u (ul MapView.c 3 t0_4 a0.Views), .u (ul MapDone.c 4 t0_5 a0.Done)], vint .i64 a1, vint .i64 a2, vint .i64 a3, vbool a4] [] (vint .i64 r) [] := by
 refine Con.of_Dz tabOk Tryz.func164 rfl rfl rfl ?_
 delta s_MapJudge at hF
 refine Dz.seq (Dz.reg (Dz.seq (Dz.seq (Dz.reg ?_))))
 refine bdE hF (fun y1 hy1 hF => ?_)
 refine callG [] (s_MapOk_c hy1) ⟨mv rfl, tv⟩ tv rfl ?_
 refine Dz.ite rfl hF (fun _ hF => ?_) (fun _ hF => ?_)
 ·refine Dz.seq (Dz.reg (Dz.ret ?_))
  cases hF
  exact finG [] [] rfl rfl (mv rfl) tv rfl
 ·refine Dz.skip (Dz.seq (Dz.reg ?_))
  refine bdE hF (fun y2 hy2 hF => ?_)
  refine callG [] (s_l31Disk_c hy2) ⟨mv rfl, mv rfl, tv⟩ tv rfl ?_
  refine Dz.seq (Dz.blk (Dz.seq (Dz.reg ?_)))
  refine Dz.ite rfl hF (fun _ hF => ?_) (fun _ hF => ?_)
  ·refine Dz.seq (Dz.reg (Dz.ret ?_))
   cases hF
   exact finG [] [] rfl rfl (mv rfl) tv rfl
  ·refine Dz.seq (Dz.reg ?_)
   refine vix hF (fun _ _ hF => ?_)
   refine vw64 ?_
   refine bdE hF (fun y4 hy4 hF => ?_)
   refine callG [] (s_l6In_c hy4) ⟨mv rfl, mv rfl, mv rfl, tv⟩ tv rfl ?_
   refine Dz.ite rfl hF (fun _ hF => ?_) (fun _ hF => ?_)
   ·refine Dz.seq (Dz.reg (Dz.ret ?_))
    cases hF
    exact finG [] [] rfl rfl (mv rfl) tv rfl
   ·refine Dz.seq (Dz.reg ?_)
    refine vif hF (fun _ hF => ?_) (fun _ hF => ?_)
    ·refine vif hF (fun _ hF => ?_) (fun _ hF => ?_)
     ·refine vix hF (fun _ _ hF => ?_)
      refine vw64 ?_
      refine bdE hF (fun y6 hy6 hF => ?_)
      refine callG [] (s_l6In_c hy6) ⟨mv rfl, mv rfl, mv rfl, tv⟩ tv rfl ?_
      refine Dz.ite rfl hF (fun _ hF => ?_) (fun _ hF => ?_)
      ·refine Dz.seq (Dz.reg (Dz.ret ?_))
       cases hF
       exact finG [] [] rfl rfl (mv rfl) tv rfl
      ·refine Dz.skip (Dz.seq (Dz.reg (Dz.ret ?_)))
       cases hF
       exact finG [] [] rfl rfl (mv rfl) tv rfl
     ·refine Dz.ff (b := false) rfl rfl ?_
      refine Dz.skip (Dz.seq (Dz.reg (Dz.ret ?_)))
      cases hF
      exact finG [] [] rfl rfl (mv rfl) tv rfl
    ·refine Dz.ff (b := false) rfl rfl ?_
     refine Dz.skip (Dz.seq (Dz.reg (Dz.ret ?_)))
     cases hF
     exact finG [] [] rfl rfl (mv rfl) tv rfl
def s_l31Admin (a0 : MapState) (a1 : Cmd) : Option (MapState) :=
 (s_l6In a1.Client 0 3).bind (fun y1 => cond (!y1) (some a0) (cond (decide (a1.Call < 1)) (some a0) ((s_l31Past a0 a1.Client a1.Call).bind (fun y2 => cond y2 (some a0) (cond (decide (a1.Kind = 1)) ((s_l31Create a0 a1).bind (fun y3 => some y3)) (cond (decide (a1.Kind = 2)) ((s_l31Freeze a0 a1 1).bind (fun y4 => some y4)) (cond (decide (a1.Kind = 3)) ((s_l31Freeze a0 a1 2).bind (fun y5 => some y5)) (cond (decide (a1.Kind = 4)) (cond (decide ((5 : Int) ≤ a0.Servers)) ((s_l31Tell a0 ({ Client := a1.Client, Call := a1.Call, Code := 4, Value := 0 } : MapDone)).bind (fun y6 => some y6)) ((s_l31Tell ({ Slots := a0.Slots, Servers := (w64 (a0.Servers + 1)), Next := a0.Next, Disks := a0.Disks, Views := a0.Views, Done := a0.Done } : MapState) ({ Client := a1.Client, Call := a1.Call, Code := 0, Value := (w64 (a0.Servers + 1)) } : MapDone)).bind (fun y7 => some y7))) (jn (fun (v8 : Unit) => (s_MapJudge a0 a1.Disk a1.Arg a1.Epoch (decide (a1.A = 1))).bind (fun y9 => cond (decide (y9 = 0)) ((s_l31Tell a0 ({ Client := a1.Client, Call := a1.Call, Code := 6, Value := 0 } : MapDone)).bind (fun y10 => some y10)) ((s_l31Tell a0 ({ Client := a1.Client, Call := a1.Call, Code := y9, Value := 0 } : MapDone)).bind (fun y11 => some y11)))) (fun j12 => cond (decide (a1.A = 1)) ((s_l6In a1.Range 0 2).bind (fun y13 => cond (!y13) (some a0) (ix a0.Views a1.Range (fun x14 => cond (!decide (x14.Num = a1.Num)) (some a0) (j12 ()))))) (j12 ())))))))))))
theorem s_l31Admin_c {a0 : MapState} {a1 : Cmd} {r : MapState} (hF : s_l31Admin a0 a1 = some r) : Con Tryz.prog 120 [.val true [.u (cI a0.Slots), .u (cI a0.Servers), .u (cI a0.Next), .row 0, .u (ul MapView.c 3 false a0.Views), .u (ul MapDone.c 4 false a0.Done)], .val true (Cmd.L a1)] [.row 113 a0.Disks.length 7 (gl MapDisk.c a0.Disks)] (.val true (MapState.L r)) [.none] := by
 refine Con.of_Dz tabOk Tryz.func120 rfl rfl rfl ?_
 delta s_l31Admin at hF
 refine Dz.seq (Dz.reg (Dz.seq (Dz.seq (Dz.reg ?_))))
 refine bdE hF (fun y1 hy1 hF => ?_)
 refine callG [] (s_l6In_c hy1) ⟨mv rfl, mv rfl, mv rfl, tv⟩ tv rfl ?_
 refine vif hF (fun _ hF => ?_) (fun _ hF => ?_)
 ·refine Dz.tt (b := true) rfl rfl ?_
  refine Dz.seq (Dz.reg (Dz.ret ?_))
  cases hF
  exact finG [.frz 0] [0] rfl rfl (⟨rfl, lr, lr, lr, lr, lr, lr, tv⟩) ⟨⟨rfl, tv⟩, tv⟩ rfl
 ·refine vif hF (fun _ hF => ?_) (fun _ hF => ?_)
  ·refine Dz.tt (b := true) rfl rfl ?_
   refine Dz.seq (Dz.reg (Dz.ret ?_))
   cases hF
   exact finG [.frz 0] [0] rfl rfl (⟨rfl, lr, lr, lr, lr, lr, lr, tv⟩) ⟨⟨rfl, tv⟩, tv⟩ rfl
  ·refine bdE hF (fun y2 hy2 hF => ?_)
   refine callL [] (s_l31Past_c hy2) ⟨⟨rfl, lr, lr, lr, ⟨rfl, rfl, lr⟩, lr, lr, tv⟩, mv rfl, mv rfl, tv⟩ tv rfl ⟨⟨tv, tv⟩, tv⟩ ?_
   refine Dz.ite rfl hF (fun _ hF => ?_) (fun _ hF => ?_)
   ·refine Dz.seq (Dz.reg (Dz.ret ?_))
    cases hF
    exact finG [.frz 0] [0] rfl rfl (⟨rfl, lr, lr, lr, lr, lr, lr, tv⟩) ⟨⟨rfl, tv⟩, tv⟩ rfl
   ·refine Dz.skip (Dz.seq (Dz.seq (Dz.reg (Dz.blk (Dz.seq (Dz.reg ?_))))))
    refine Dz.ite rfl hF (fun _ hF => ?_) (fun _ hF => ?_)
    ·refine Dz.seq (Dz.reg ?_)
     refine bdE hF (fun y3 hy3 hF => ?_)
     refine callG [0] (s_l31Create_c hy3) ⟨⟨rfl, lr, lr, lr, rfl, lr, lr, tv⟩, mv rfl, tv⟩ ⟨⟨rfl, o_row⟩, tv⟩ rfl ?_
     refine Dz.ret ?_
     cases hF
     exact finG [.frz 4] [0] rfl rfl (⟨rfl, lr, lr, lr, lr, lr, lr, tv⟩) ⟨⟨rfl, tv⟩, tv⟩ rfl
    ·refine Dz.seq (Dz.reg ?_)
     refine Dz.ite rfl hF (fun _ hF => ?_) (fun _ hF => ?_)
     ·refine Dz.seq (Dz.reg ?_)
      refine bdE hF (fun y4 hy4 hF => ?_)
      refine callG [0] (s_l31Freeze_c hy4) ⟨⟨rfl, lr, lr, lr, rfl, lr, lr, tv⟩, mv rfl, mv rfl, tv⟩ ⟨⟨rfl, o_row⟩, tv⟩ rfl ?_
      refine Dz.ret ?_
      cases hF
      exact finG [] [0] rfl rfl (mv rfl) ⟨⟨rfl, tv⟩, tv⟩ rfl
     ·refine Dz.seq (Dz.reg ?_)
      refine Dz.ite rfl hF (fun _ hF => ?_) (fun _ hF => ?_)
      ·refine Dz.seq (Dz.reg ?_)
       refine bdE hF (fun y5 hy5 hF => ?_)
       refine callG [0] (s_l31Freeze_c hy5) ⟨⟨rfl, lr, lr, lr, rfl, lr, lr, tv⟩, mv rfl, mv rfl, tv⟩ ⟨⟨rfl, o_row⟩, tv⟩ rfl ?_
       refine Dz.ret ?_
       cases hF
       exact finG [] [0] rfl rfl (mv rfl) ⟨⟨rfl, tv⟩, tv⟩ rfl
      ·refine Dz.seq (Dz.reg ?_)
       refine Dz.ite rfl hF (fun _ hF => ?_) (fun _ hF => ?_)
       ·refine Dz.seq (Dz.seq (Dz.reg ?_))
        refine Dz.ite rfl hF (fun _ hF => ?_) (fun _ hF => ?_)
        ·refine Dz.seq (Dz.reg ?_)
         refine bdE hF (fun y6 hy6 hF => ?_)
         refine callF [0] [] (s_l31Tell_c hy6) ⟨⟨rfl, lr, lr, lr, lr, lr, lr, tv⟩, mv rfl, tv⟩ tv rfl ?_
         refine Dz.ret ?_
         cases hF
         exact finG [.frz 4] [0] rfl rfl (⟨rfl, lr, lr, lr, lr, lr, lr, tv⟩) ⟨⟨rfl, tv⟩, tv⟩ rfl
        ·refine Dz.skip (Dz.seq (Dz.reg (vw64 (Dz.seq (Dz.reg ?_)))))
         refine bdE hF (fun y7 hy7 hF => ?_)
         refine callF [0] [] (s_l31Tell_c hy7) ⟨⟨rfl, lr, lr, lr, lr, lr, lr, tv⟩, mv rfl, tv⟩ tv rfl ?_
         refine Dz.ret ?_
         cases hF
         exact finG [.frz 4] [0] rfl rfl (⟨rfl, lr, lr, lr, lr, lr, lr, tv⟩) ⟨⟨rfl, tv⟩, tv⟩ rfl
       ·refine Dz.skip ?_
        refine Dz.jn hF (fun v8 => ([(2, .ptr 1 0), (3, .ptr 2 0), (4, .ptr 3 0)], [.row 113 a0.Disks.length 7 (gl MapDisk.c a0.Disks), .box 46 [.u (cI a0.Slots), .u (cI a0.Servers), .u (cI a0.Next), .row 0, .u (ul MapView.c 3 false a0.Views), .u (ul MapDone.c 4 false a0.Done)], .box 55 (Cmd.L a1), .box 46 [.u (cI 0), .u (cI 0), .u (cI 0), .nil, .nil, .nil]])) (fun v8 hF => ?_) (fun hF => ?_)
        ·refine Dz.seq (Dz.reg ?_)
         refine bdE hF (fun y9 hy9 hF => ?_)
         refine callL [] (s_MapJudge_c hy9) ⟨⟨rfl, lr, lr, lr, ⟨rfl, rfl, lr⟩, lr, lr, tv⟩, mv rfl, mv rfl, mv rfl, mv rfl, tv⟩ tv rfl ⟨⟨tv, tv⟩, tv⟩ ?_
         refine Dz.seq (Dz.seq (Dz.reg ?_))
         refine Dz.ite rfl hF (fun _ hF => ?_) (fun _ hF => ?_)
         ·refine Dz.reg (Dz.seq (Dz.reg ?_))
          refine bdE hF (fun y10 hy10 hF => ?_)
          refine callF [0] [] (s_l31Tell_c hy10) ⟨⟨rfl, lr, lr, lr, lr, lr, lr, tv⟩, mv rfl, tv⟩ tv rfl ?_
          refine Dz.ret ?_
          cases hF
          exact finG [.frz 4] [0] rfl rfl (⟨rfl, lr, lr, lr, lr, lr, lr, tv⟩) ⟨⟨rfl, tv⟩, tv⟩ rfl
         ·refine Dz.skip (Dz.seq (Dz.reg ?_))
          refine bdE hF (fun y11 hy11 hF => ?_)
          refine callF [0] [] (s_l31Tell_c hy11) ⟨⟨rfl, lr, lr, lr, lr, lr, lr, tv⟩, mv rfl, tv⟩ tv rfl ?_
          refine Dz.ret ?_
          cases hF
          exact finG [.frz 4] [0] rfl rfl (⟨rfl, lr, lr, lr, lr, lr, lr, tv⟩) ⟨⟨rfl, tv⟩, tv⟩ rfl
        ·refine Dz.seq ?_
         refine Dz.drw 4 [⟨[], [], 4, 4⟩, ⟨[], [2], 4, 4⟩, ⟨[], [], 4, 4⟩, ⟨[], [], 4, 4⟩, ⟨[], [], 4, 4⟩, ⟨[], [2], 4, 4⟩, ⟨[], [], 4, 4⟩, ⟨[], [], 4, 4⟩, ⟨[], [], 4, 4⟩, ⟨[77,78,82,83], [], 4, 4⟩, ⟨[77,78,82,83], [1], 4, 4⟩, ⟨[75,76,82,83], [], 4, 4⟩, ⟨[75,76,82,83], [2], 4, 4⟩, ⟨[82,83], [], 4, 4⟩, ⟨[82,83], [], 4, 4⟩, ⟨[82,83], [], 4, 4⟩, ⟨[75,76,77,78,79,80,81], [], 4, 4⟩, ⟨[75,76,77,78,79,80,81], [2], 4, 4⟩, ⟨[], [], 4, 4⟩, ⟨[], [], 4, 4⟩, ⟨[], [], 4, 4⟩] ⟨by kernel_rfl, by kernel_rfl, rfl⟩ ?_
         refine vif hF (fun _ hF => ?_) (fun _ hF => ?_)
         ·refine bdE hF (fun y13 hy13 hF => ?_)
          refine callG [] (s_l6In_c hy13) ⟨mv rfl, mv rfl, mv rfl, tv⟩ tv rfl ?_
          refine vif hF (fun _ hF => ?_) (fun _ hF => ?_)
          ·refine Dz.tt (b := true) rfl rfl ?_
           refine Dz.seq (Dz.reg (Dz.ret ?_))
           cases hF
           exact finG [.frz 0] [0] rfl rfl (⟨rfl, lr, lr, lr, lr, lr, lr, tv⟩) ⟨⟨rfl, tv⟩, tv⟩ rfl
          ·refine vix hF (fun _ _ hF => ?_)
           refine Dz.ite rfl hF (fun _ hF => ?_) (fun _ hF => ?_)
           ·refine Dz.seq (Dz.reg (Dz.ret ?_))
            cases hF
            exact finG [.frz 0] [0] rfl rfl (⟨rfl, lr, lr, lr, lr, lr, lr, tv⟩) ⟨⟨rfl, tv⟩, tv⟩ rfl
           ·refine Dz.skip ?_
            exact ⟨(), entG [0, 1, 2, 3] ⟨mp rfl, mp rfl, mp rfl, tv⟩ ⟨⟨rfl, o_row⟩, ⟨rfl, ⟨rfl, lr, lr, lr, rfl, lr, lr, tv⟩⟩, ⟨rfl, o_box rfl⟩, ⟨rfl, ⟨rfl, lr, lr, lr, tv, tv, tv, tv⟩⟩, tv⟩ rfl, hF⟩
         ·refine Dz.ff (b := false) rfl rfl ?_
          refine Dz.skip ?_
          exact ⟨(), entG [0, 1, 2, 3] ⟨mp rfl, mp rfl, mp rfl, tv⟩ ⟨⟨rfl, o_row⟩, ⟨rfl, ⟨rfl, lr, lr, lr, rfl, lr, lr, tv⟩⟩, ⟨rfl, o_box rfl⟩, ⟨rfl, ⟨rfl, lr, lr, lr, tv, tv, tv, tv⟩⟩, tv⟩ rfl, hF⟩
def s_MapDo (a0 : MapState) (a1 : Cmd) : Option (MapState) :=
 (s_MapOk a0).bind (fun y1 => cond (!y1) (some ({ Slots := 0, Servers := 0, Next := 0, Disks := ([] : List MapDisk), Views := ([] : List MapView), Done := ([] : List MapDone) } : MapState)) (cond (decide ((60 : Int) ≤ a0.Slots)) (some ({ Slots := 0, Servers := 0, Next := 0, Disks := ([] : List MapDisk), Views := ([] : List MapView), Done := ([] : List MapDone) } : MapState)) ((s_l31Copy a0).bind (fun y2 => (s_l11CmdOk a1).bind (fun y3 => cond (!y3) (some ({ Slots := (w64 (y2.Slots + 1)), Servers := y2.Servers, Next := y2.Next, Disks := y2.Disks, Views := y2.Views, Done := y2.Done } : MapState)) (cond (decide (a1.Kind = 5)) ((s_l31View ({ Slots := (w64 (y2.Slots + 1)), Servers := y2.Servers, Next := y2.Next, Disks := y2.Disks, Views := y2.Views, Done := y2.Done } : MapState) a1).bind (fun y4 => (s_l31Copy y4).bind (fun y5 => some y5))) (cond (decide (a1.Kind = 6)) ((s_l31Ack ({ Slots := (w64 (y2.Slots + 1)), Servers := y2.Servers, Next := y2.Next, Disks := y2.Disks, Views := y2.Views, Done := y2.Done } : MapState) a1).bind (fun y6 => (s_l31Copy y6).bind (fun y7 => some y7))) (cond (!decide (a1.Kind = 0)) ((s_l31Admin ({ Slots := (w64 (y2.Slots + 1)), Servers := y2.Servers, Next := y2.Next, Disks := y2.Disks, Views := y2.Views, Done := y2.Done } : MapState) a1).bind (fun y8 => (s_l31Copy y8).bind (fun y9 => some y9))) ((s_l31Copy ({ Slots := (w64 (y2.Slots + 1)), Servers := y2.Servers, Next := y2.Next, Disks := y2.Disks, Views := y2.Views, Done := y2.Done } : MapState)).bind (fun y10 => some y10))))))))))
theorem s_MapDo_c {t0_3 t0_4 t0_5 : Bool} {a0 : MapState} {a1 : Cmd} {r : MapState} (hF : s_MapDo a0 a1 = some r) : Con Tryz.prog 73 [.val true [.u (cI a0.Slots), .u (cI a0.Servers), .u (cI a0.Next), .u (ul MapDisk.c 7 t0_3 a0.Disks), .u (ul MapView.c 3 t0_4 a0.Views), .u (ul MapDone.c 4 t0_5 a0.Done)], .val true (Cmd.L a1)] [] (.val true [.u (cI r.Slots), .u (cI r.Servers), .u (cI r.Next), .row 0, .row 1, .row 2]) [.row 113 r.Disks.length 7 (gl MapDisk.c r.Disks), .row 116 r.Views.length 3 (gl MapView.c r.Views), .row 207 r.Done.length 4 (gl MapDone.c r.Done)] := by
 refine Con.of_Dz tabOk Tryz.func73 rfl rfl rfl ?_
 delta s_MapDo at hF
 refine Dz.seq (Dz.reg (Dz.seq (Dz.seq (Dz.reg ?_))))
 refine bdE hF (fun y1 hy1 hF => ?_)
 refine callG [] (s_MapOk_c hy1) ⟨mv rfl, tv⟩ tv rfl ?_
 refine vif hF (fun _ hF => ?_) (fun _ hF => ?_)
 ·refine Dz.tt (b := true) rfl rfl ?_
  refine Dz.seq (Dz.reg (Dz.ret ?_))
  cases hF
  exact finG [.leaf 2 3 113 7, .leaf 2 4 116 3, .leaf 2 5 207 4] [3, 4, 5] rfl rfl (⟨rfl, lr, lr, lr, rfl, rfl, rfl, tv⟩) ⟨⟨rfl, o_rowE (by simp <;> omega) EqG.nilr⟩, ⟨rfl, o_rowE (by simp <;> omega) EqG.nilr⟩, ⟨rfl, o_rowE (by simp <;> omega) EqG.nilr⟩, tv⟩ rfl
 ·refine Dz.ite rfl hF (fun _ hF => ?_) (fun _ hF => ?_)
  ·refine Dz.seq (Dz.reg (Dz.ret ?_))
   cases hF
   exact finG [.leaf 2 3 113 7, .leaf 2 4 116 3, .leaf 2 5 207 4] [3, 4, 5] rfl rfl (⟨rfl, lr, lr, lr, rfl, rfl, rfl, tv⟩) ⟨⟨rfl, o_rowE (by simp <;> omega) EqG.nilr⟩, ⟨rfl, o_rowE (by simp <;> omega) EqG.nilr⟩, ⟨rfl, o_rowE (by simp <;> omega) EqG.nilr⟩, tv⟩ rfl
  ·refine Dz.skip (Dz.seq (Dz.reg ?_))
   refine bdE hF (fun y2 hy2 hF => ?_)
   refine callG [] (s_l31Copy_c hy2) ⟨mv rfl, tv⟩ tv rfl ?_
   refine Dz.seq (Dz.reg (vw64 (Dz.seq (Dz.blk (Dz.seq (Dz.reg ?_))))))
   refine bdE hF (fun y3 hy3 hF => ?_)
   refine callG [] (s_l11CmdOk_c hy3) ⟨mv rfl, tv⟩ tv rfl ?_
   refine Dz.ite rfl hF (fun _ hF => ?_) (fun _ hF => ?_)
   ·refine Dz.seq (Dz.reg (Dz.ret ?_))
    cases hF
    exact finG [] [3, 4, 5] rfl rfl (⟨rfl, lr, lr, lr, rfl, rfl, rfl, tv⟩) ⟨⟨rfl, o_row⟩, ⟨rfl, o_row⟩, ⟨rfl, o_row⟩, tv⟩ rfl
   ·refine Dz.seq (Dz.reg ?_)
    refine Dz.ite rfl hF (fun _ hF => ?_) (fun _ hF => ?_)
    ·refine Dz.reg ?_
     refine bdE hF (fun y4 hy4 hF => ?_)
     refine callF [3, 5] [4] (s_l31View_c hy4) ⟨⟨rfl, lr, lr, lr, lr, rfl, lr, tv⟩, mv rfl, tv⟩ ⟨⟨rfl, o_row⟩, tv⟩ rfl ?_
     refine Dz.seq (Dz.reg ?_)
     refine bdE hF (fun y5 hy5 hF => ?_)
     refine callL [] (s_l31Copy_c hy5) ⟨⟨rfl, lr, lr, lr, lr, ⟨rfl, rfl, lr⟩, lr, tv⟩, tv⟩ tv rfl ⟨⟨tv, tv, tv, tv, tv, tv, tv⟩, ⟨ntm_gl, ntm_gl, ntm_gl, tv⟩⟩ ?_
     refine Dz.ret ?_
     cases hF
     exact finG [] [6, 7, 8] rfl rfl (⟨rfl, lr, lr, lr, rfl, rfl, rfl, tv⟩) ⟨⟨rfl, o_row⟩, ⟨rfl, o_row⟩, ⟨rfl, o_row⟩, tv⟩ rfl
    ·refine Dz.seq (Dz.reg ?_)
     refine Dz.ite rfl hF (fun _ hF => ?_) (fun _ hF => ?_)
     ·refine Dz.reg ?_
      refine bdE hF (fun y6 hy6 hF => ?_)
      refine callF [4, 5] [3] (s_l31Ack_c hy6) ⟨⟨rfl, lr, lr, lr, rfl, lr, lr, tv⟩, mv rfl, tv⟩ ⟨⟨rfl, o_row⟩, tv⟩ rfl ?_
      refine Dz.seq (Dz.reg ?_)
      refine bdE hF (fun y7 hy7 hF => ?_)
      refine callG [] (s_l31Copy_c hy7) ⟨mv rfl, tv⟩ tv rfl ?_
      refine Dz.ret ?_
      cases hF
      exact finG [] [6, 7, 8] rfl rfl (⟨rfl, lr, lr, lr, rfl, rfl, rfl, tv⟩) ⟨⟨rfl, o_row⟩, ⟨rfl, o_row⟩, ⟨rfl, o_row⟩, tv⟩ rfl
     ·refine Dz.seq (Dz.reg ?_)
      refine Dz.ite rfl hF (fun _ hF => ?_) (fun _ hF => ?_)
      ·refine Dz.reg ?_
       refine bdE hF (fun y8 hy8 hF => ?_)
       refine callF [4, 5] [3] (s_l31Admin_c hy8) ⟨⟨rfl, lr, lr, lr, rfl, lr, lr, tv⟩, mv rfl, tv⟩ ⟨⟨rfl, o_row⟩, tv⟩ rfl ?_
       refine Dz.seq (Dz.reg ?_)
       refine bdE hF (fun y9 hy9 hF => ?_)
       refine callG [] (s_l31Copy_c hy9) ⟨mv rfl, tv⟩ tv rfl ?_
       refine Dz.ret ?_
       cases hF
       exact finG [] [6, 7, 8] rfl rfl (⟨rfl, lr, lr, lr, rfl, rfl, rfl, tv⟩) ⟨⟨rfl, o_row⟩, ⟨rfl, o_row⟩, ⟨rfl, o_row⟩, tv⟩ rfl
      ·refine Dz.skip (Dz.seq (Dz.reg ?_))
       refine bdE hF (fun y10 hy10 hF => ?_)
       refine callL [] (s_l31Copy_c hy10) ⟨⟨rfl, lr, lr, lr, ⟨rfl, rfl, lr⟩, ⟨rfl, rfl, lr⟩, ⟨rfl, rfl, lr⟩, tv⟩, tv⟩ tv rfl ⟨⟨tv, tv, tv, tv, tv, tv, tv⟩, ⟨ntm_gl, ntm_gl, ntm_gl, tv⟩⟩ ?_
       refine Dz.ret ?_
       cases hF
       exact finG [] [6, 7, 8] rfl rfl (⟨rfl, lr, lr, lr, rfl, rfl, rfl, tv⟩) ⟨⟨rfl, o_row⟩, ⟨rfl, o_row⟩, ⟨rfl, o_row⟩, tv⟩ rfl
def s_MapOf (a0 : (List Cmd)) : Option (MapState) :=
 (s_MapStart).bind (fun y1 => cond (decide ((60 : Int) < ((a0.length : Nat) : Int))) (some ({ Slots := 0, Servers := 0, Next := 0, Disks := [], Views := ([] : List MapView), Done := [] } : MapState)) (loopN (fun i3 (v12 : MapState) κ13 => lt (a0.getD i3 default) (fun x15 => (s_MapDo v12 x15).bind (fun y16 => κ13 y16))) (fun (v12 : MapState) => some v12) a0.length 0 y1))
theorem s_MapOf_c {t0_0 : Bool} {a0 : (List Cmd)} {r : MapState} (hF : s_MapOf a0 = some r) : Con Tryz.prog 39 [.val false [.u (ul Cmd.c 10 t0_0 a0)]] [] (.val true [.u (cI r.Slots), .u (cI r.Servers), .u (cI r.Next), .u (ul MapDisk.c 7 false r.Disks), .row 0, .u (ul MapDone.c 4 false r.Done)]) [.row 116 r.Views.length 3 (gl MapView.c r.Views)] := by
 refine Con.of_Dz tabOk Tryz.func39 rfl rfl rfl ?_
 delta s_MapOf at hF
 refine Dz.seq (Dz.reg (Dz.seq (Dz.reg ?_)))
 refine bdE hF (fun y1 hy1 hF => ?_)
 refine callG [] (s_MapStart_c hy1) tv tv rfl ?_
 refine Dz.seq (Dz.seq (Dz.reg ?_))
 intro hb2; replace hb2 : a0.length ≤ 140737488355328 := hb2
 refine Dz.ite rfl hF (fun _ hF => ?_) (fun _ hF => ?_)
 ·refine Dz.seq (Dz.reg (Dz.ret ?_))
  cases hF
  exact finG [.leaf 0 4 116 3] [3] rfl rfl (⟨rfl, lr, lr, lr, ⟨_, _, _, rfl⟩, rfl, ⟨_, _, _, rfl⟩, tv⟩) ⟨⟨rfl, o_rowE (by simp <;> omega) EqG.nilr⟩, tv⟩ rfl
 ·refine Dz.skip (Dz.seq (Dz.seq (Dz.reg (Dz.blk ?_))))
  refine Dz.cnt hF (fun i3 v12 => ([(0, .val false [.u (ul Cmd.c 10 t0_0 a0)]), (2, .ptr 0 0), (3, .ptr 1 0), (4, vint .i64 ((i3 : Nat) : Int))], [.box 46 [.u (cI 0), .u (cI 0), .u (cI 0), .nil, .nil, .nil], .box 46 [.u (cI v12.Slots), .u (cI v12.Servers), .u (cI v12.Next), .u (ul MapDisk.c 7 false v12.Disks), .row 2, .u (ul MapDone.c 4 false v12.Done)], .row 116 v12.Views.length 3 (gl MapView.c v12.Views)])) (entG [0, 2, 1] ⟨mv rfl, mp rfl, mp rfl, mv rfl, tv⟩ ⟨⟨rfl, ⟨rfl, lr, lr, lr, tv, tv, tv, tv⟩⟩, ⟨rfl, ⟨rfl, lr, lr, lr, lr, rfl, lr, tv⟩⟩, ⟨rfl, o_row⟩, tv⟩ rfl) (fun v12 hF => ?_) (fun i3 v12 κ13 hi0i3 hi1i3 hF => ?_)
  ·refine Dz.seq (Dz.seq (Dz.reg ?_))
   intro hb17; replace hb17 : a0.length ≤ 140737488355328 := hb17
   refine Dz.ff (b := decide (((0 + a0.length : Nat) : Int) < ((a0.length : Nat) : Int))) rfl (decide_eq_false (by omega)) ?_
   refine Dz.exit (Dz.seq (Dz.reg (Dz.ret ?_)))
   cases hF
   exact finG [] [2] rfl rfl (⟨rfl, lr, lr, lr, lr, rfl, lr, tv⟩) ⟨⟨rfl, o_row⟩, tv⟩ rfl
  ·refine Dz.seq (Dz.seq (Dz.reg ?_))
   intro hb14; replace hb14 : a0.length ≤ 140737488355328 := hb14
   refine Dz.tt (b := decide (((i3 : Nat) : Int) < ((a0.length : Nat) : Int))) rfl (decide_eq_true (by omega)) ?_
   refine Dz.skip (Dz.seq (Dz.blk ?_))
   refine Dz.drw 3 [⟨[17,18,19,20], [1], 3, 3⟩, ⟨[16,18], [], 3, 3⟩, ⟨[16,17], [], 3, 3⟩, ⟨[16], [], 3, 3⟩, ⟨[16], [], 3, 3⟩, ⟨[], [2], 3, 6⟩, ⟨[], [1], 6, 6⟩] ⟨by kernel_rfl, by kernel_rfl, rfl⟩ ?_
   refine vge (n := ((i3 : Nat) : Int)) (hi := (a0.length : Int)) (by omega) (by omega) ?_
   have hF := ltE hF
   refine bdE hF (fun y16 hy16 hF => ?_)
   refine callL [] (s_MapDo_c hy16) ⟨⟨rfl, lr, lr, lr, lr, ⟨rfl, rfl, lr⟩, lr, tv⟩, mv rfl, tv⟩ tv rfl ⟨⟨tv, tv, tv, tv, tv, tv, tv⟩, ⟨ntm_gl, ntm_gl, ntm_gl, tv⟩⟩ ?_
   refine Dz.reg ?_
   refine vsucc (by omega) ?_
   exact ⟨y16, entF [.frz 3, .frz 5] [0, 1, 4] rfl ⟨mv rfl, mp rfl, mp rfl, mv rfl, tv⟩ ⟨⟨rfl, ⟨rfl, lr, lr, lr, tv, tv, tv, tv⟩⟩, ⟨rfl, ⟨rfl, lr, lr, lr, lr, rfl, lr, tv⟩⟩, ⟨rfl, o_row⟩, tv⟩ rfl, hF⟩
def s_l64Longest (a0 : PanWorld) : Option (MapState) :=
 loopN (fun i1 (v10 : List Cmd) κ11 => cond (decide (((v10.length : Nat) : Int) < ((((a0.Servers.getD i1 default).Log).length : Nat) : Int))) (κ11 ((a0.Servers.getD i1 default).Log)) (κ11 v10)) (fun (v10 : List Cmd) => (s_MapOf v10).bind (fun y16 => some y16)) a0.Servers.length 0 ([] : List Cmd)
theorem s_l64Longest_c {t0_1 t0_2 t0_3 : Bool} {a0 : PanWorld} {r : MapState} (hF : s_l64Longest a0 = some r) : Con Tryz.prog 14 [.val true [.u (cI a0.Time), .u (ul Server.c 36 t0_1 a0.Servers), .u (ul Word.c 26 t0_2 a0.Radio), .u (ul PanCall.c 12 t0_3 a0.Calls)]] [] (.val true [.u (cI r.Slots), .u (cI r.Servers), .u (cI r.Next), .u (ul MapDisk.c 7 false r.Disks), .row 0, .u (ul MapDone.c 4 false r.Done)]) [.row 116 r.Views.length 3 (gl MapView.c r.Views)] := by
 refine Con.of_Dz tabOk Tryz.func14 rfl rfl rfl ?_
 delta s_l64Longest at hF
 refine Dz.seq (Dz.reg (Dz.seq (Dz.reg ?_)))
 refine Dz.row 2 ([] : List Cmd).length (gl Cmd.c ([] : List Cmd)) rfl (by simp <;> omega) EqG.nilr ?_
 refine Dz.seq (Dz.seq (Dz.reg (Dz.blk ?_)))
 refine Dz.cnt hF (fun i1 v10 => ([(1, .ptr 0 0), (2, .ptr 1 0), (3, .val false [.u (ul Cmd.c 10 false v10)]), (4, vint .i64 ((i1 : Nat) : Int))], [.box 33 [.u (cI a0.Time), .u (ul Server.c 36 t0_1 a0.Servers), .u (ul Word.c 26 t0_2 a0.Radio), .u (ul PanCall.c 12 t0_3 a0.Calls)], .box 46 [.u (cI 0), .u (cI 0), .u (cI 0), .nil, .nil, .nil]])) (entF [.frz 2] [0, 1] rfl ⟨mp rfl, mp rfl, ⟨rfl, lr, tv⟩, mv rfl, tv⟩ ⟨⟨rfl, o_box rfl⟩, ⟨rfl, ⟨rfl, lr, lr, lr, tv, tv, tv, tv⟩⟩, tv⟩ rfl) (fun v10 hF => ?_) (fun i1 v10 κ11 hi0i1 hi1i1 hF => ?_)
 ·refine Dz.seq (Dz.seq (Dz.reg ?_))
  intro hb15; replace hb15 : a0.Servers.length ≤ 140737488355328 := hb15
  refine Dz.ff (b := decide (((0 + a0.Servers.length : Nat) : Int) < ((a0.Servers.length : Nat) : Int))) rfl (decide_eq_false (by omega)) ?_
  refine Dz.exit (Dz.seq (Dz.reg ?_))
  refine bdE hF (fun y16 hy16 hF => ?_)
  refine callG [] (s_MapOf_c hy16) ⟨mv rfl, tv⟩ tv rfl ?_
  refine Dz.ret ?_
  cases hF
  exact finG [] [2] rfl rfl (⟨rfl, lr, lr, lr, lr, rfl, lr, tv⟩) ⟨⟨rfl, o_row⟩, tv⟩ rfl
 ·refine Dz.seq (Dz.seq (Dz.reg ?_))
  intro hb12; replace hb12 : a0.Servers.length ≤ 140737488355328 := hb12
  refine Dz.tt (b := decide (((i1 : Nat) : Int) < ((a0.Servers.length : Nat) : Int))) rfl (decide_eq_true (by omega)) ?_
  refine Dz.skip (Dz.seq (Dz.blk (Dz.seq (Dz.reg ?_))))
  refine vge (n := ((i1 : Nat) : Int)) (hi := (a0.Servers.length : Int)) (by omega) (by omega) ?_
  intro hb13; replace hb13 : ((a0.Servers.getD i1 default).Log).length ≤ 140737488355328 := hb13
  intro hb14; replace hb14 : v10.length ≤ 140737488355328 := hb14
  refine Dz.ite rfl hF (fun _ hF => ?_) (fun _ hF => ?_)
  ·refine Dz.reg ?_
   refine vge (n := ((i1 : Nat) : Int)) (hi := (a0.Servers.length : Int)) (by omega) (by omega) ?_
   refine Dz.reg ?_
   refine vsucc (by omega) ?_
   exact ⟨((a0.Servers.getD i1 default).Log), entG [0, 1] ⟨mp rfl, mp rfl, mv rfl, mv rfl, tv⟩ ⟨⟨rfl, o_box rfl⟩, ⟨rfl, ⟨rfl, lr, lr, lr, tv, tv, tv, tv⟩⟩, tv⟩ rfl, hF⟩
  ·refine Dz.skip (Dz.reg ?_)
   refine vsucc (by omega) ?_
   exact ⟨v10, entG [0, 1] ⟨mp rfl, mp rfl, mv rfl, mv rfl, tv⟩ ⟨⟨rfl, o_box rfl⟩, ⟨rfl, ⟨rfl, lr, lr, lr, tv, tv, tv, tv⟩⟩, tv⟩ rfl, hF⟩
end Go.Proofs.PanB
