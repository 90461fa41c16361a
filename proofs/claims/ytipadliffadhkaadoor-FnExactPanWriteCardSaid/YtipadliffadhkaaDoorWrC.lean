/- Words and walks for the proof. -/
import Derived.Test.YtipadliffadhkaaDoorWrB
import Derived.Shelf.Strconv.AppendIntPublic10
import Derived.Maps.AppendAt
import Derived.Lib.ItoaLen
import Derived.Shelf.Strings.Builder1
import Derived.Shelf.Strings.SplitShaped
import Derived.Shelf.Strconv.Itoa3
import Derived.ProofKit
import Derived.OpenShut
import Derived.ReadAgain
import Derived.Carry
import Derived.Deep.Slices
import Derived.SizedLaws
set_option linter.unusedVariables false
set_option linter.unusedSimpArgs false
set_option linter.unusedSectionVars false
/-! Printed by wip/tools/walk.py. -/
namespace Go.Proofs.PanL
open Go.Vs
set_option maxRecDepth 8000
def l_toPanEventS (a0 : (List PanEvent)) : Option ((List PanEvent)) :=
  ck (0 ≤ ((a0.length : Nat) : Int) ∧ ((a0.length : Nat) : Int) * 96 ≤ 140737488355328) (loopN (fun i2 (v13 : List PanEvent) κ14 => lt (a0.getD i2 default) (fun x16 => (l_toPanEvent x16).bind (fun y17 => ix v13 ((i2 : Nat) : Int) (fun _ => lt (v13.set i2 y17) (fun r18 => κ14 r18))))) (fun (v13 : List PanEvent) => some v13) a0.length 0 (List.replicate a0.length (({ Kind := 0, Server := 0, Other := 0, Client := 0, Word := 0, Keep := false, Range := 0, Op := 0, Disk := 0, Block := 0, Epoch := 0, Data := 0 } : PanEvent) : PanEvent)))
theorem l_toPanEventS_c {t0_0 : Bool} {a0 : (List PanEvent)} {r : (List PanEvent)} (hF : l_toPanEventS a0 = some r) : Con Tryd.prog 9 [.val false [.u (ul PanEvent.c 12 t0_0 a0)]] [] (.val false [.row 0]) [.row 48 r.length 12 (gl PanEvent.c r)] := by
  refine Con.of_Dz tabOk Tryd.func9 rfl rfl rfl ?_
  delta l_toPanEventS at hF
  refine Dz.seq ?_
  refine Dz.reg ?_
  refine Dz.seq ?_
  refine Dz.reg ?_
  intro hb1; replace hb1 : a0.length ≤ 140737488355328 := hb1
  refine vck hF (fun h => ⟨rfl, h⟩) (fun hk hF => ?_)
  refine Dz.row 0 (List.replicate a0.length (({ Kind := 0, Server := 0, Other := 0, Client := 0, Word := 0, Keep := false, Range := 0, Op := 0, Disk := 0, Block := 0, Epoch := 0, Data := 0 } : PanEvent) : PanEvent)).length (gl PanEvent.c (List.replicate a0.length (({ Kind := 0, Server := 0, Other := 0, Client := 0, Word := 0, Keep := false, Range := 0, Op := 0, Disk := 0, Block := 0, Epoch := 0, Data := 0 } : PanEvent) : PanEvent))) rfl (by simp <;> omega) (EqG.rep' (c := PanEvent.c) (sz := 12) _ ⟨LeU.refl _, LeU.refl _, LeU.refl _, LeU.refl _, LeU.refl _, LeU.refl _, LeU.refl _, LeU.refl _, LeU.refl _, LeU.refl _, LeU.refl _, LeU.refl _, trivial⟩) ?_
  refine Dz.seq ?_
  refine Dz.seq ?_
  refine Dz.reg ?_
  refine Dz.blk ?_
  refine Dz.cnt hF (fun i2 v13 => ([(0, .val false [.u (ul PanEvent.c 12 t0_0 a0)]), (3, .val false [.row 0]), (4, vint .i64 ((i2 : Nat) : Int))], [.row 48 v13.length 12 (gl PanEvent.c v13)])) (entG [0] ⟨m_val rfl, ⟨rfl, rfl, trivial⟩, m_val rfl, trivial⟩ ⟨⟨rfl, o_row⟩, trivial⟩ rfl) (fun v13 hF => ?_) (fun i2 v13 κ14 hi0i2 hi1i2 hF => ?_)
  · refine Dz.seq ?_
    refine Dz.seq ?_
    refine Dz.reg ?_
    intro hb19; replace hb19 : a0.length ≤ 140737488355328 := hb19
    refine Dz.ff (b := decide (((0 + a0.length : Nat) : Int) < ((a0.length : Nat) : Int))) rfl (decide_eq_false (by omega)) ?_
    refine Dz.exit ?_
    refine Dz.seq ?_
    refine Dz.reg ?_
    refine Dz.ret ?_
    cases hF
    exact finG [] [0] rfl rfl (⟨rfl, rfl, trivial⟩) ⟨⟨rfl, o_row⟩, trivial⟩ rfl
  · refine Dz.seq ?_
    refine Dz.seq ?_
    refine Dz.reg ?_
    intro hb15; replace hb15 : a0.length ≤ 140737488355328 := hb15
    refine Dz.tt (b := decide (((i2 : Nat) : Int) < ((a0.length : Nat) : Int))) rfl (decide_eq_true (by omega)) ?_
    refine Dz.skip ?_
    refine Dz.seq ?_
    refine Dz.blk ?_
    refine Dz.reg ?_
    refine vge (n := ((i2 : Nat) : Int)) (hi := (a0.length : Int)) (by omega) (by omega) ?_
    have hF := ltE hF
    refine bdE hF (fun y17 hy17 hF => ?_)
    refine callG [] (l_toPanEvent_c hy17) ⟨m_val rfl, trivial⟩ trivial rfl ?_
    refine vix hF (fun _ _ hF => ?_)
    refine ltX hF (fun r18 hr18 hF => ?_)
    have hlr18 : r18.length = v13.length := by rw [hr18]; simp <;> omega
    refine Dz.row 0 r18.length (gl PanEvent.c r18) rfl (by rw [hr18]; simp <;> omega) (by rw [hr18]; exact (EqG.set' rfl (EqG.refl _ _ _) ⟨LeU.refl _, LeU.refl _, LeU.refl _, LeU.refl _, LeU.refl _, LeU.refl _, LeU.refl _, LeU.refl _, LeU.refl _, LeU.refl _, LeU.refl _, LeU.refl _, trivial⟩)) ?_
    refine Dz.reg ?_
    refine vsucc (by omega) ?_
    exact ⟨r18, entG [0] ⟨m_val rfl, ⟨rfl, rfl, trivial⟩, m_val rfl, trivial⟩ ⟨⟨rfl, o_row⟩, trivial⟩ rfl, hF⟩
end Go.Proofs.PanL

/-! Printed by wip/tools/walk.py. -/
namespace Go.Proofs.PanL
open Go.Vs
set_option maxRecDepth 8000
def i_lineKinds : Option ((List lineKind)) :=
  some ([({ word := (⟨#[98, 101, 103, 105, 110, 115]⟩ : ByteArray), kind := 1, keep := false, fields := (⟨#[99, 111, 112, 98, 101, 100]⟩ : ByteArray) } : lineKind), ({ word := (⟨#[115, 101, 110, 100, 115]⟩ : ByteArray), kind := 2, keep := false, fields := (⟨#[99, 115]⟩ : ByteArray) } : lineKind), ({ word := (⟨#[103, 105, 118, 101, 115]⟩ : ByteArray), kind := 3, keep := false, fields := (⟨#[99]⟩ : ByteArray) } : lineKind), ({ word := (⟨#[98, 114, 105, 110, 103, 115]⟩ : ByteArray), kind := 4, keep := false, fields := (⟨#[119]⟩ : ByteArray) } : lineKind), ({ word := (⟨#[100, 111, 117, 98, 108, 101, 115]⟩ : ByteArray), kind := 4, keep := true, fields := (⟨#[119]⟩ : ByteArray) } : lineKind), ({ word := (⟨#[108, 111, 115, 101, 115]⟩ : ByteArray), kind := 5, keep := false, fields := (⟨#[119]⟩ : ByteArray) } : lineKind), ({ word := (⟨#[102, 97, 108, 108, 115]⟩ : ByteArray), kind := 6, keep := false, fields := (⟨#[115]⟩ : ByteArray) } : lineKind), ({ word := (⟨#[114, 105, 115, 101, 115]⟩ : ByteArray), kind := 7, keep := false, fields := (⟨#[115]⟩ : ByteArray) } : lineKind), ({ word := (⟨#[103, 111, 101, 115]⟩ : ByteArray), kind := 8, keep := false, fields := (⟨#[115]⟩ : ByteArray) } : lineKind), ({ word := (⟨#[115, 117, 115, 112, 101, 99, 116, 115]⟩ : ByteArray), kind := 9, keep := false, fields := (⟨#[115, 114]⟩ : ByteArray) } : lineKind), ({ word := (⟨#[116, 101, 110, 100, 115]⟩ : ByteArray), kind := 10, keep := false, fields := (⟨#[115, 114]⟩ : ByteArray) } : lineKind), ({ word := (⟨#[106, 111, 105, 110, 115]⟩ : ByteArray), kind := 10, keep := true, fields := (⟨#[115, 114]⟩ : ByteArray) } : lineKind), ({ word := (⟨#[115, 101, 101, 107, 115]⟩ : ByteArray), kind := 11, keep := false, fields := (⟨#[115]⟩ : ByteArray) } : lineKind), ({ word := (⟨#[110, 101, 101, 100, 115]⟩ : ByteArray), kind := 12, keep := false, fields := (⟨#[115, 120]⟩ : ByteArray) } : lineKind)] : List lineKind)
theorem i_lineKinds_c {r : (List lineKind)} (hF : i_lineKinds = some r) : Con Tryd.prog 32 [] [] (.val false [.row 0]) [.row 61 r.length 4 (gl lineKind.c r)] := by
  refine Con.of_Dz tabOk Tryd.func32 rfl rfl rfl ?_
  delta i_lineKinds at hF
  refine Dz.seq ?_
  refine Dz.reg ?_
  refine Dz.seq ?_
  refine Dz.reg ?_
  refine Dz.ret ?_
  cases hF
  exact finG [] [0] rfl rfl (⟨rfl, rfl, trivial⟩) ⟨⟨rfl, o_rowE (by simp <;> omega) (EqG.lit (c := lineKind.c) (sz := 4) (L := ([({ word := (⟨#[98, 101, 103, 105, 110, 115]⟩ : ByteArray), kind := 1, keep := false, fields := (⟨#[99, 111, 112, 98, 101, 100]⟩ : ByteArray) } : lineKind), ({ word := (⟨#[115, 101, 110, 100, 115]⟩ : ByteArray), kind := 2, keep := false, fields := (⟨#[99, 115]⟩ : ByteArray) } : lineKind), ({ word := (⟨#[103, 105, 118, 101, 115]⟩ : ByteArray), kind := 3, keep := false, fields := (⟨#[99]⟩ : ByteArray) } : lineKind), ({ word := (⟨#[98, 114, 105, 110, 103, 115]⟩ : ByteArray), kind := 4, keep := false, fields := (⟨#[119]⟩ : ByteArray) } : lineKind), ({ word := (⟨#[100, 111, 117, 98, 108, 101, 115]⟩ : ByteArray), kind := 4, keep := true, fields := (⟨#[119]⟩ : ByteArray) } : lineKind), ({ word := (⟨#[108, 111, 115, 101, 115]⟩ : ByteArray), kind := 5, keep := false, fields := (⟨#[119]⟩ : ByteArray) } : lineKind), ({ word := (⟨#[102, 97, 108, 108, 115]⟩ : ByteArray), kind := 6, keep := false, fields := (⟨#[115]⟩ : ByteArray) } : lineKind), ({ word := (⟨#[114, 105, 115, 101, 115]⟩ : ByteArray), kind := 7, keep := false, fields := (⟨#[115]⟩ : ByteArray) } : lineKind), ({ word := (⟨#[103, 111, 101, 115]⟩ : ByteArray), kind := 8, keep := false, fields := (⟨#[115]⟩ : ByteArray) } : lineKind), ({ word := (⟨#[115, 117, 115, 112, 101, 99, 116, 115]⟩ : ByteArray), kind := 9, keep := false, fields := (⟨#[115, 114]⟩ : ByteArray) } : lineKind), ({ word := (⟨#[116, 101, 110, 100, 115]⟩ : ByteArray), kind := 10, keep := false, fields := (⟨#[115, 114]⟩ : ByteArray) } : lineKind), ({ word := (⟨#[106, 111, 105, 110, 115]⟩ : ByteArray), kind := 10, keep := true, fields := (⟨#[115, 114]⟩ : ByteArray) } : lineKind), ({ word := (⟨#[115, 101, 101, 107, 115]⟩ : ByteArray), kind := 11, keep := false, fields := (⟨#[115]⟩ : ByteArray) } : lineKind), ({ word := (⟨#[110, 101, 101, 100, 115]⟩ : ByteArray), kind := 12, keep := false, fields := (⟨#[115, 120]⟩ : ByteArray) } : lineKind)] : List lineKind)) ⟨LeU.refl _, LeU.refl _, LeU.refl _, LeU.refl _, LeU.refl _, LeU.refl _, LeU.refl _, LeU.refl _, LeU.refl _, LeU.refl _, LeU.refl _, LeU.refl _, LeU.refl _, LeU.refl _, LeU.refl _, LeU.refl _, LeU.refl _, LeU.refl _, LeU.refl _, LeU.refl _, LeU.refl _, LeU.refl _, LeU.refl _, LeU.refl _, LeU.refl _, LeU.refl _, LeU.refl _, LeU.refl _, LeU.refl _, LeU.refl _, LeU.refl _, LeU.refl _, LeU.refl _, LeU.refl _, LeU.refl _, LeU.refl _, LeU.refl _, LeU.refl _, LeU.refl _, LeU.refl _, LeU.refl _, LeU.refl _, LeU.refl _, LeU.refl _, LeU.refl _, LeU.refl _, LeU.refl _, LeU.refl _, LeU.refl _, LeU.refl _, LeU.refl _, LeU.refl _, LeU.refl _, LeU.refl _, LeU.refl _, LeU.refl _, trivial⟩)⟩, trivial⟩ rfl
end Go.Proofs.PanL

/-! Printed by wip/tools/walk.py. -/
namespace Go.Proofs.PanL
open Go.Vs
set_option maxRecDepth 8000
theorem i_field_w99 {a0 : PanEvent} : Con Tryd.prog 54 [.ptr 0 0, vint .u8 99] [.box 48 (PanEvent.L a0)] (.ptr 0 3) [.box 48 (PanEvent.L a0)] := by
  refine Con.of_Dz (T := T) tabOk Tryd.func54 rfl rfl rfl ?_
  refine Dz.seq ?_
  refine Dz.reg ?_
  refine Dz.seq ?_
  refine Dz.seq ?_
  refine Dz.reg ?_
  refine Dz.blk ?_
  refine Dz.seq ?_
  refine Dz.reg ?_
  refine Dz.tt (b := true) rfl rfl ?_
  refine Dz.seq ?_
  refine Dz.reg ?_
  refine Dz.ret ?_
  exact finG [] [0] rfl rfl (m_ptr rfl) ⟨⟨rfl, o_box rfl⟩, trivial⟩ rfl
theorem i_field_w111 {a0 : PanEvent} : Con Tryd.prog 54 [.ptr 0 0, vint .u8 111] [.box 48 (PanEvent.L a0)] (.ptr 0 7) [.box 48 (PanEvent.L a0)] := by
  refine Con.of_Dz (T := T) tabOk Tryd.func54 rfl rfl rfl ?_
  refine Dz.seq ?_
  refine Dz.reg ?_
  refine Dz.seq ?_
  refine Dz.seq ?_
  refine Dz.reg ?_
  refine Dz.blk ?_
  refine Dz.seq ?_
  refine Dz.reg ?_
  refine Dz.ff (b := false) rfl rfl ?_
  refine Dz.seq ?_
  refine Dz.reg ?_
  refine Dz.tt (b := true) rfl rfl ?_
  refine Dz.seq ?_
  refine Dz.reg ?_
  refine Dz.ret ?_
  exact finG [] [0] rfl rfl (m_ptr rfl) ⟨⟨rfl, o_box rfl⟩, trivial⟩ rfl
theorem i_field_w112 {a0 : PanEvent} : Con Tryd.prog 54 [.ptr 0 0, vint .u8 112] [.box 48 (PanEvent.L a0)] (.ptr 0 8) [.box 48 (PanEvent.L a0)] := by
  refine Con.of_Dz (T := T) tabOk Tryd.func54 rfl rfl rfl ?_
  refine Dz.seq ?_
  refine Dz.reg ?_
  refine Dz.seq ?_
  refine Dz.seq ?_
  refine Dz.reg ?_
  refine Dz.blk ?_
  refine Dz.seq ?_
  refine Dz.reg ?_
  refine Dz.ff (b := false) rfl rfl ?_
  refine Dz.seq ?_
  refine Dz.reg ?_
  refine Dz.ff (b := false) rfl rfl ?_
  refine Dz.seq ?_
  refine Dz.reg ?_
  refine Dz.tt (b := true) rfl rfl ?_
  refine Dz.seq ?_
  refine Dz.reg ?_
  refine Dz.ret ?_
  exact finG [] [0] rfl rfl (m_ptr rfl) ⟨⟨rfl, o_box rfl⟩, trivial⟩ rfl
theorem i_field_w98 {a0 : PanEvent} : Con Tryd.prog 54 [.ptr 0 0, vint .u8 98] [.box 48 (PanEvent.L a0)] (.ptr 0 9) [.box 48 (PanEvent.L a0)] := by
  refine Con.of_Dz (T := T) tabOk Tryd.func54 rfl rfl rfl ?_
  refine Dz.seq ?_
  refine Dz.reg ?_
  refine Dz.seq ?_
  refine Dz.seq ?_
  refine Dz.reg ?_
  refine Dz.blk ?_
  refine Dz.seq ?_
  refine Dz.reg ?_
  refine Dz.ff (b := false) rfl rfl ?_
  refine Dz.seq ?_
  refine Dz.reg ?_
  refine Dz.ff (b := false) rfl rfl ?_
  refine Dz.seq ?_
  refine Dz.reg ?_
  refine Dz.ff (b := false) rfl rfl ?_
  refine Dz.seq ?_
  refine Dz.reg ?_
  refine Dz.tt (b := true) rfl rfl ?_
  refine Dz.seq ?_
  refine Dz.reg ?_
  refine Dz.ret ?_
  exact finG [] [0] rfl rfl (m_ptr rfl) ⟨⟨rfl, o_box rfl⟩, trivial⟩ rfl
theorem i_field_w101 {a0 : PanEvent} : Con Tryd.prog 54 [.ptr 0 0, vint .u8 101] [.box 48 (PanEvent.L a0)] (.ptr 0 10) [.box 48 (PanEvent.L a0)] := by
  refine Con.of_Dz (T := T) tabOk Tryd.func54 rfl rfl rfl ?_
  refine Dz.seq ?_
  refine Dz.reg ?_
  refine Dz.seq ?_
  refine Dz.seq ?_
  refine Dz.reg ?_
  refine Dz.blk ?_
  refine Dz.seq ?_
  refine Dz.reg ?_
  refine Dz.ff (b := false) rfl rfl ?_
  refine Dz.seq ?_
  refine Dz.reg ?_
  refine Dz.ff (b := false) rfl rfl ?_
  refine Dz.seq ?_
  refine Dz.reg ?_
  refine Dz.ff (b := false) rfl rfl ?_
  refine Dz.seq ?_
  refine Dz.reg ?_
  refine Dz.ff (b := false) rfl rfl ?_
  refine Dz.seq ?_
  refine Dz.reg ?_
  refine Dz.tt (b := true) rfl rfl ?_
  refine Dz.seq ?_
  refine Dz.reg ?_
  refine Dz.ret ?_
  exact finG [] [0] rfl rfl (m_ptr rfl) ⟨⟨rfl, o_box rfl⟩, trivial⟩ rfl
theorem i_field_w100 {a0 : PanEvent} : Con Tryd.prog 54 [.ptr 0 0, vint .u8 100] [.box 48 (PanEvent.L a0)] (.ptr 0 11) [.box 48 (PanEvent.L a0)] := by
  refine Con.of_Dz (T := T) tabOk Tryd.func54 rfl rfl rfl ?_
  refine Dz.seq ?_
  refine Dz.reg ?_
  refine Dz.seq ?_
  refine Dz.seq ?_
  refine Dz.reg ?_
  refine Dz.blk ?_
  refine Dz.seq ?_
  refine Dz.reg ?_
  refine Dz.ff (b := false) rfl rfl ?_
  refine Dz.seq ?_
  refine Dz.reg ?_
  refine Dz.ff (b := false) rfl rfl ?_
  refine Dz.seq ?_
  refine Dz.reg ?_
  refine Dz.ff (b := false) rfl rfl ?_
  refine Dz.seq ?_
  refine Dz.reg ?_
  refine Dz.ff (b := false) rfl rfl ?_
  refine Dz.seq ?_
  refine Dz.reg ?_
  refine Dz.ff (b := false) rfl rfl ?_
  refine Dz.seq ?_
  refine Dz.reg ?_
  refine Dz.tt (b := true) rfl rfl ?_
  refine Dz.seq ?_
  refine Dz.reg ?_
  refine Dz.ret ?_
  exact finG [] [0] rfl rfl (m_ptr rfl) ⟨⟨rfl, o_box rfl⟩, trivial⟩ rfl
theorem i_field_w115 {a0 : PanEvent} : Con Tryd.prog 54 [.ptr 0 0, vint .u8 115] [.box 48 (PanEvent.L a0)] (.ptr 0 1) [.box 48 (PanEvent.L a0)] := by
  refine Con.of_Dz (T := T) tabOk Tryd.func54 rfl rfl rfl ?_
  refine Dz.seq ?_
  refine Dz.reg ?_
  refine Dz.seq ?_
  refine Dz.seq ?_
  refine Dz.reg ?_
  refine Dz.blk ?_
  refine Dz.seq ?_
  refine Dz.reg ?_
  refine Dz.ff (b := false) rfl rfl ?_
  refine Dz.seq ?_
  refine Dz.reg ?_
  refine Dz.ff (b := false) rfl rfl ?_
  refine Dz.seq ?_
  refine Dz.reg ?_
  refine Dz.ff (b := false) rfl rfl ?_
  refine Dz.seq ?_
  refine Dz.reg ?_
  refine Dz.ff (b := false) rfl rfl ?_
  refine Dz.seq ?_
  refine Dz.reg ?_
  refine Dz.ff (b := false) rfl rfl ?_
  refine Dz.seq ?_
  refine Dz.reg ?_
  refine Dz.ff (b := false) rfl rfl ?_
  refine Dz.seq ?_
  refine Dz.reg ?_
  refine Dz.tt (b := true) rfl rfl ?_
  refine Dz.seq ?_
  refine Dz.reg ?_
  refine Dz.ret ?_
  exact finG [] [0] rfl rfl (m_ptr rfl) ⟨⟨rfl, o_box rfl⟩, trivial⟩ rfl
theorem i_field_w119 {a0 : PanEvent} : Con Tryd.prog 54 [.ptr 0 0, vint .u8 119] [.box 48 (PanEvent.L a0)] (.ptr 0 4) [.box 48 (PanEvent.L a0)] := by
  refine Con.of_Dz (T := T) tabOk Tryd.func54 rfl rfl rfl ?_
  refine Dz.seq ?_
  refine Dz.reg ?_
  refine Dz.seq ?_
  refine Dz.seq ?_
  refine Dz.reg ?_
  refine Dz.blk ?_
  refine Dz.seq ?_
  refine Dz.reg ?_
  refine Dz.ff (b := false) rfl rfl ?_
  refine Dz.seq ?_
  refine Dz.reg ?_
  refine Dz.ff (b := false) rfl rfl ?_
  refine Dz.seq ?_
  refine Dz.reg ?_
  refine Dz.ff (b := false) rfl rfl ?_
  refine Dz.seq ?_
  refine Dz.reg ?_
  refine Dz.ff (b := false) rfl rfl ?_
  refine Dz.seq ?_
  refine Dz.reg ?_
  refine Dz.ff (b := false) rfl rfl ?_
  refine Dz.seq ?_
  refine Dz.reg ?_
  refine Dz.ff (b := false) rfl rfl ?_
  refine Dz.seq ?_
  refine Dz.reg ?_
  refine Dz.ff (b := false) rfl rfl ?_
  refine Dz.seq ?_
  refine Dz.reg ?_
  refine Dz.tt (b := true) rfl rfl ?_
  refine Dz.seq ?_
  refine Dz.reg ?_
  refine Dz.ret ?_
  exact finG [] [0] rfl rfl (m_ptr rfl) ⟨⟨rfl, o_box rfl⟩, trivial⟩ rfl
theorem i_field_w114 {a0 : PanEvent} : Con Tryd.prog 54 [.ptr 0 0, vint .u8 114] [.box 48 (PanEvent.L a0)] (.ptr 0 6) [.box 48 (PanEvent.L a0)] := by
  refine Con.of_Dz (T := T) tabOk Tryd.func54 rfl rfl rfl ?_
  refine Dz.seq ?_
  refine Dz.reg ?_
  refine Dz.seq ?_
  refine Dz.seq ?_
  refine Dz.reg ?_
  refine Dz.blk ?_
  refine Dz.seq ?_
  refine Dz.reg ?_
  refine Dz.ff (b := false) rfl rfl ?_
  refine Dz.seq ?_
  refine Dz.reg ?_
  refine Dz.ff (b := false) rfl rfl ?_
  refine Dz.seq ?_
  refine Dz.reg ?_
  refine Dz.ff (b := false) rfl rfl ?_
  refine Dz.seq ?_
  refine Dz.reg ?_
  refine Dz.ff (b := false) rfl rfl ?_
  refine Dz.seq ?_
  refine Dz.reg ?_
  refine Dz.ff (b := false) rfl rfl ?_
  refine Dz.seq ?_
  refine Dz.reg ?_
  refine Dz.ff (b := false) rfl rfl ?_
  refine Dz.seq ?_
  refine Dz.reg ?_
  refine Dz.ff (b := false) rfl rfl ?_
  refine Dz.seq ?_
  refine Dz.reg ?_
  refine Dz.ff (b := false) rfl rfl ?_
  refine Dz.seq ?_
  refine Dz.reg ?_
  refine Dz.tt (b := true) rfl rfl ?_
  refine Dz.seq ?_
  refine Dz.reg ?_
  refine Dz.ret ?_
  exact finG [] [0] rfl rfl (m_ptr rfl) ⟨⟨rfl, o_box rfl⟩, trivial⟩ rfl
theorem i_field_wd {a0 : PanEvent} {a1 : Int} (h99 : ¬ a1 = 99) (h111 : ¬ a1 = 111) (h112 : ¬ a1 = 112) (h98 : ¬ a1 = 98) (h101 : ¬ a1 = 101) (h100 : ¬ a1 = 100) (h115 : ¬ a1 = 115) (h119 : ¬ a1 = 119) (h114 : ¬ a1 = 114) : Con Tryd.prog 54 [.ptr 0 0, vint .u8 a1] [.box 48 (PanEvent.L a0)] (.ptr 0 2) [.box 48 (PanEvent.L a0)] := by
  refine Con.of_Dz (T := T) tabOk Tryd.func54 rfl rfl rfl ?_
  refine Dz.seq ?_
  refine Dz.reg ?_
  refine Dz.seq ?_
  refine Dz.seq ?_
  refine Dz.reg ?_
  refine Dz.blk ?_
  refine Dz.seq ?_
  refine Dz.reg ?_
  refine Dz.ff (b := decide (a1 = 99)) rfl (decide_eq_false (by omega)) ?_
  refine Dz.seq ?_
  refine Dz.reg ?_
  refine Dz.ff (b := decide (a1 = 111)) rfl (decide_eq_false (by omega)) ?_
  refine Dz.seq ?_
  refine Dz.reg ?_
  refine Dz.ff (b := decide (a1 = 112)) rfl (decide_eq_false (by omega)) ?_
  refine Dz.seq ?_
  refine Dz.reg ?_
  refine Dz.ff (b := decide (a1 = 98)) rfl (decide_eq_false (by omega)) ?_
  refine Dz.seq ?_
  refine Dz.reg ?_
  refine Dz.ff (b := decide (a1 = 101)) rfl (decide_eq_false (by omega)) ?_
  refine Dz.seq ?_
  refine Dz.reg ?_
  refine Dz.ff (b := decide (a1 = 100)) rfl (decide_eq_false (by omega)) ?_
  refine Dz.seq ?_
  refine Dz.reg ?_
  refine Dz.ff (b := decide (a1 = 115)) rfl (decide_eq_false (by omega)) ?_
  refine Dz.seq ?_
  refine Dz.reg ?_
  refine Dz.ff (b := decide (a1 = 119)) rfl (decide_eq_false (by omega)) ?_
  refine Dz.seq ?_
  refine Dz.reg ?_
  refine Dz.ff (b := decide (a1 = 114)) rfl (decide_eq_false (by omega)) ?_
  refine Dz.skip ?_
  refine Dz.seq ?_
  refine Dz.reg ?_
  refine Dz.ret ?_
  exact finG [] [0] rfl rfl (m_ptr rfl) ⟨⟨rfl, o_box rfl⟩, trivial⟩ rfl
end Go.Proofs.PanL

/-! Printed by wip/tools/walk.py. -/
namespace Go.Proofs.PanL
open Go.Vs
set_option maxRecDepth 8000
def i_in (a0 : Int) (a1 : Int) (a2 : Int) : Option (Bool) :=
  cond (decide (a1 ≤ a0)) (some (decide (a0 ≤ a2))) (some false)
theorem i_in_c {a0 : Int} {a1 : Int} {a2 : Int} {r : Bool} (hF : i_in a0 a1 a2 = some r) : Con Tryd.prog 55 [vint .i64 a0, vint .i64 a1, vint .i64 a2] [] (vbool r) [] := by
  refine Con.of_Dz tabOk Tryd.func55 rfl rfl rfl ?_
  delta i_in at hF
  refine Dz.seq ?_
  refine Dz.reg ?_
  refine Dz.seq ?_
  refine Dz.reg ?_
  refine vif hF (fun _ hF => ?_) (fun _ hF => ?_)
  · refine Dz.ret ?_
    cases hF
    exact finG [] [] rfl rfl (m_val rfl) trivial rfl
  · refine Dz.ret ?_
    cases hF
    exact finG [] [] rfl rfl (m_val rfl) trivial rfl
end Go.Proofs.PanL

/-! strconv.AppendInt at base 10: the row that is handed over is turned, or a new row is made; every other block stays. -/
namespace Go.Vs
open Go.Shelf Go.RowKit Go.Sort Go.Lib Go.Proofs

/-- Whose block a value behind an append has: the one it had, or a new one. -/
def Heir (w : World) (v v' : Value) : Prop := ∀ b, v'.ownBlock = some b → v.ownBlock = some b ∨ w.heap.size ≤ b
/-- All blocks but the value's own stand. -/
def Kp (w : World) (v : Value) (w' : World) : Prop := w.heap.size ≤ w'.heap.size ∧ ∀ k, k < w.heap.size → v.ownBlock ≠ some k → w'.heap[k]? = w.heap[k]?

theorem Heir.trans {w w1 : World} {v v1 v2 : Value} (h : Heir w v v1) (hs : w.heap.size ≤ w1.heap.size) (k : Heir w1 v1 v2) : Heir w v v2 := fun b hb => by
  rcases k b hb with h1 | h1
  · exact h b h1
  · exact .inr (by omega)
theorem Kp.trans {w w1 w2 : World} {v v1 : Value} (h : Kp w v w1) (hh : Heir w v v1) (k : Kp w1 v1 w2) : Kp w v w2 := by
  have h1 := h.1; have h2 := k.1
  refine ⟨Nat.le_trans h1 h2, fun b hb hn => ?_⟩
  rw [k.2 b (by omega) (fun e => by
    rcases hh b e with h3 | h3
    · exact hn h3
    · omega)]
  exact h.2 b hb hn
theorem Kp.grown {w w' : World} {v : Value} (h : w.grownBy w' v.ownBlock) : Kp w v w' := ⟨h.size, fun k hk hn => h.block k hk fun e => hn e.symm⟩

section
variable {P : Program}
/-- A string's bytes appended: whose block comes back. -/
theorem app_str_heir (w : World) (t u ty e : TypeId) (i : TypeInfo) (ht : P.underlying t = some (.slice e)) (hu : P.underlying u = some .string) (hi : P.info? e = some i) (hz : i.zero = some (.int .u8 0))
    (hsize : i.size = 1) (hby : i.bytes = 1) (base : Nat) (v : Value) (n : Nat) (xs : List Value) (hown : w.ownsRow base e 1 v n xs) (s : ByteArray)
    (h63 : n + s.size ≤ maxLen) (hbytes : n + s.size ≤ 140737488355328) {v' : Value} {w' : World} (hr : (Builtin.append_ #[t, u] ty #[v, .string s]).run P w = .ok v' w') : Heir w v v' := by
  have hsmall : n + s.size ≤ 9223372036854775807 := by simp only [maxLen] at h63; omega
  have hxl : xs.length = n := by simpa using hown.1
  rcases hown.2 with ⟨rfl, rfl⟩ | ⟨g, cap, cur, rfl, hbg, hg, hnc, hcm, hcs, htake⟩
  · by_cases hm : s.size = 0
    · have hf := run_firstCells_string (P := P) w 1 s
      rw [hm] at hf
      have : (Builtin.append_ #[t, u] ty #[.slice none 0 0, .string s]).run P w = .ok (.slice none 0 0) w := by
        simp [Builtin.append_, run_underlying ht, run_underlying hu, sizeOf, typeInfo, hi, hsize, Builtin.lenOf, hm, hf]
      rw [this] at hr
      cases hr
      intro b hb; cases hb
    · have hr2 := run_append_nil_string (P := P) w t u ty e i (.int .u8 0) ht hu hi hz s (by omega) (by omega) (by rw [hby]; omega)
      rw [hr2] at hr
      cases hr
      intro b hb
      simp [Value.ownBlock] at hb
      exact .inr (by omega)
  · by_cases hroom : n + s.size ≤ cap
    · have hcs' : cur.size = cap := by simpa using hcs
      have hr2 := run_append_room_string (P := P) w t u ty e i ht hu hi hsize g n cap cur hg s hroom (by omega)
      rw [hr2] at hr
      cases hr
      intro b hb
      exact .inl hb
    · have holds : ∀ j u, xs[j]? = some u → w.cell? ((⟨g, 0, none⟩ : Addr).add j) = some u := hown.cells (g := g) rfl
      have hr2 := run_append_grow_string (P := P) w t u ty e i (.int .u8 0) ht hu hi hz ⟨g, 0, none⟩ n cap xs (by rw [hsize]; simpa using hxl) holds s (by omega) (by omega) (by rw [hby]; exact growslice_fits (by omega) (by omega))
      rw [hr2] at hr
      cases hr
      intro b hb
      simp [Value.ownBlock] at hb
      exact .inr (by omega)

theorem wpl_app_str {w : World} {ops : Array Oper} {rest : List Oper} {o : Oper} {a : Act} {Q : Exit → Act → World → Prop} (hgd : o.guard = none) (sl x : Operand) (t u : TypeId)
    (ho : o.op = .call { callee := .builtin .append, args := #[sl, x], argTypes := #[t, u] })
    (base : Nat) (e : TypeId) (i : TypeInfo) (ht : P.underlying t = some (.slice e)) (hu : P.underlying u = some .string) (hi : P.info? e = some i) (hz : i.zero = some (.int .u8 0))
    (hsize : i.size = 1) (hby : i.bytes = 1)
    (v : Value) (n : Nat) (xs : List Value) (hs : a.eval sl = v) (hown : w.ownsRow base e 1 v n xs) (s : ByteArray) (hx : a.eval x = .string s)
    (h63 : n + s.size ≤ maxLen) (hbytes : n + s.size ≤ 140737488355328) (hbase : base ≤ w.heap.size)
    (h : ∀ v' w', w'.ownsRow base e 1 v' (n + s.size) (xs ++ strCells s) → w.grownBy w' v.ownBlock → Heir w v v' → wpList P ops Q rest (a.put o.dst v') w') : wpList P ops Q (o :: rest) a w := by
  refine wpList_plain hgd fun K hK => ?_
  obtain ⟨v', w', hr, h2, h3, _⟩ := run_append_own_string (P := P) w base t u o.type e i ht hu hi hz hsize hby v n xs hown s h63 hbytes hbase
  have h4 := app_str_heir w t u o.type e i ht hu hi hz hsize hby base v n xs hown s h63 hbytes hr
  unfold Oper.wp execOp
  simp only [ho, resolve, invoke, builtin, Sem.run_bind, Sem.run_pure, Result.andThen_ok, List.map_toArray, List.map_cons, List.map_nil, hs, hx, hr]
  exact hK _ _ (h v' w' h2 h3 h4)

theorem wpl_app {w : World} {ops : Array Oper} {rest : List Oper} {o : Oper} {a : Act} {Q : Exit → Act → World → Prop} (hgd : o.guard = none) (s x : Operand) (t : TypeId)
    (ho : o.op = .call { callee := .builtin .append, args := #[s, x], argTypes := #[t, t] })
    (base : Nat) (e : TypeId) (i : TypeInfo) (z : Value) (size bytes : Nat) (ht : P.underlying t = some (.slice e)) (hi : P.info? e = some i) (hz : i.zero = some z)
    (hsize : i.size = size) (hby : i.bytes = bytes) (hzs : z.cells.size = size) (hsz : 0 < size)
    (v : Value) (n : Nat) (xs : List Value) (hs : a.eval s = v) (hown : w.ownsRow base e size v n xs)
    (ad : Addr) (m c : Nat) (news : List Value) (hx : a.eval x = .slice (some ad) m c) (hl : news.length = m * size) (hnews : ∀ j u, news[j]? = some u → w.cell? (ad.add j) = some u) (h1 : ∀ u ∈ news, u.oneCell' = true)
    (h63 : n + m ≤ maxLen) (hbytes : (n + m) * bytes ≤ 140737488355328) (hbase : base ≤ w.heap.size)
    (h : ∀ v' w', w'.ownsRow base e size v' (n + m) (xs ++ news) → w.grownBy w' v.ownBlock → Heir w v v' → wpList P ops Q rest (a.put o.dst v') w') : wpList P ops Q (o :: rest) a w := by
  refine wpList_plain hgd fun K hK => ?_
  obtain ⟨v', w', hr, h2, h3, _, h5⟩ := run_append_own_at (P := P) w base t o.type e i z size bytes ht hi hz hsize hby hzs hsz v n xs hown ad m c news hl hnews h1 h63 hbytes hbase
  have h4 : Heir w v v' := fun b hb => by
    rcases h5 with h5 | h5
    · exact .inl (h5 ▸ hb)
    · rw [h5] at hb
      cases hb
      exact .inr (Nat.le_refl _)
  unfold Oper.wp execOp
  simp only [ho, resolve, invoke, builtin, Sem.run_bind, Sem.run_pure, Result.andThen_ok, List.map_toArray, List.map_cons, List.map_nil, hs, hx, hr]
  exact hK _ _ (h v' w' h2 h3 h4)

variable {ρ : Ren}
/-- What comes back of a number appended. -/
def App (ρ : Ren) (B n : Nat) (sv : Value) (xs : List Value) (w : World) (l : List UInt8) (e : Ending) (w' : World) : Prop :=
  ∃ v', e = .returned v' ∧ w'.ownsRow B (ρ.t 5) 1 v' (n + l.length) (xs ++ byteCells l) ∧ Below B w w' ∧ Kp w sv w' ∧ Heir w sv v'

set_option maxHeartbeats 6400000 in
set_option maxRecDepth 100000 in
theorem appU_small (L : LaysM.n288 P ρ) (B n u : Nat) (hu : u < 100) (sv : Value) (xs : List Value) (w : World) (hown : w.ownsRow B (ρ.t 5) 1 sv n xs) (hBw : B ≤ w.heap.size) (hlim : n + 20 ≤ 140737488355328) :
    Calls P (ρ.f 288) #[sv, .int .u64 u, .int .i64 10] w (App ρ B n sv xs w (decDigits u)) := by
  have mixed := L.mixed
  have t5 := L.t5; have a5 := L.a5; have z5 := L.z5; have v5 := L.v5
  have t37 := L.t37; have u37 := run_underlying L.t37; have a37 := L.a37; have z37 := L.z37; have v37 := L.v37
  have t53 := L.t53; have a53 := L.a53; have z53 := L.z53; have v53 := L.v53
  have t3 := L.t3; have a3 := L.a3; have z3 := L.z3; have v3 := L.v3
  have t4 := L.t4; have a4 := L.a4; have z4 := L.z4; have v4 := L.v4
  have t9 := L.t9; have a9 := L.a9; have z9 := L.z9; have v9 := L.v9
  have t171 := L.t171; have a171 := L.a171; have z171 := L.z171; have v171 := L.v171
  have t0 := L.t0; have a0 := L.a0; have z0 := L.z0; have v0 := L.v0
  have t173 := L.t173; have a173 := L.a173; have z173 := L.z173; have v173 := L.v173
  have e283 : ∀ args w, (callFunc (ρ.f 283) args).run P w = .ok (.enter (ρ.f 283) args) w := enters_of L.f283 (by kernel_rfl) rfl
  obtain ⟨i0, hi, hz0, hz1, hz2⟩ := info_parts L.i5
  have hlen : (decDigits u).length ≤ 20 := by
    rw [decDigits_length]
    by_cases h10 : u < 10
    · rw [nDigits_small h10]; omega
    · rw [nDigits_big h10, nDigits_small (show u / 10 < 10 by omega)]; omega
  have hsz : (⟨(decDigits u).toArray⟩ : ByteArray).size = (decDigits u).length := by simp [ByteArray.size]
  go_enter L.f288, Body.n288_ntmps ρ
  go_wp2_with (first
    | (go_at_fn (ρ.f 283); refine (Any.internal_strconv_small { L with } u hu _).mono ?_; rintro e w' ⟨rfl, rfl⟩)
    | (at_builtin; refine wpl_app_str rfl _ _ (ρ.t 37) (ρ.t 9) rfl B (ρ.t 5) i0 L.t37 L.t9 hi hz0 hz1 hz2 _ _ _ rfl hown ⟨(decDigits u).toArray⟩ rfl (by rw [hsz]; unfold maxLen; omega) (by rw [hsz]; omega) hBw ?_))
  intro v' w1 hown' hgrow hheir
  go_wp2
  go_ret
  refine ⟨v', rfl, ?_, (Below.refl B _).grown hgrow hBw (fun k hk => (hown.lt k hk).1), Kp.grown hgrow, hheir⟩
  first | exact hown' | (rw [hsz] at hown'; exact hown')

set_option maxHeartbeats 12800000 in
set_option maxRecDepth 100000 in
theorem appU_big (L : LaysM.n288 P ρ) (B n u : Nat) (hu : 100 ≤ u) (hu64 : u < 18446744073709551616) (sv : Value) (xs : List Value) (w : World) (hown : w.ownsRow B (ρ.t 5) 1 sv n xs) (hBw : B ≤ w.heap.size) (hlim : n + 20 ≤ 140737488355328)
    (htab : TabIs P w "internal/strconv.uint64pow10" .u64 pow10Tab) :
    Calls P (ρ.f 288) #[sv, .int .u64 u, .int .i64 10] w (App ρ B n sv xs w (decDigits u)) := by
  have mixed := L.mixed
  have t5 := L.t5; have a5 := L.a5; have z5 := L.z5; have v5 := L.v5
  have t37 := L.t37; have u37 := run_underlying L.t37; have a37 := L.a37; have z37 := L.z37; have v37 := L.v37
  have t53 := L.t53; have a53 := L.a53; have z53 := L.z53; have v53 := L.v53
  have t3 := L.t3; have a3 := L.a3; have z3 := L.z3; have v3 := L.v3
  have t4 := L.t4; have a4 := L.a4; have z4 := L.z4; have v4 := L.v4
  have t9 := L.t9; have a9 := L.a9; have z9 := L.z9; have v9 := L.v9
  have t171 := L.t171; have a171 := L.a171; have z171 := L.z171; have v171 := L.v171
  have t0 := L.t0; have a0 := L.a0; have z0 := L.z0; have v0 := L.v0
  have t173 := L.t173; have a173 := L.a173; have z173 := L.z173; have v173 := L.v173
  have e284 : ∀ args w, (callFunc (ρ.f 284) args).run P w = .ok (.enter (ρ.f 284) args) w := enters_of L.f284 (by kernel_rfl) rfl
  have e285 : ∀ args w, (callFunc (ρ.f 285) args).run P w = .ok (.enter (ρ.f 285) args) w := enters_of L.f285 (by kernel_rfl) rfl
  obtain ⟨i0, hi, hz0, hz1, hz2⟩ := info_parts L.i5
  have hu1 : 1 ≤ u := by omega
  have hnd20 : nDigits u ≤ 20 := by have := numDigits_eq u hu1 hu64; split at this <;> omega
  have hal : P.arrayLen (ρ.t 171) = 24 := by simp [Program.arrayLen, L.t171]
  have hsl : ∀ W, (Instr.sliceAt (ρ.t 171) (.pointer (some ⟨w.heap.size, 0, none⟩)) none (some (.int .i64 (nDigits u : Int))) none).run P W = .ok (.slice (some ⟨w.heap.size, 0, none⟩) (nDigits u) 24) W := fun W => by
    rw [run_sliceAt_array_h W (ρ.t 171) ⟨w.heap.size, 0, none⟩ (by simp [Program.arrayLen, Program.elem, L.t171]) .i64 (nDigits u : Int) (by omega) (by rw [hal]; omega)]
    go_simp
  have hH0 := holds_zero0 w (ρ.t 171) (nDigits u) (by omega)
  have hfmt := Any.internal_strconv_formatBase10 { L with } w.heap.size 0 24 u (Array.replicate (nDigits u) 0) (w.alloc (.cells zeros24 (ρ.t 171))) hH0 (by rw [Array.size_replicate]; exact lt_pow_nDigits u) hu64 (by rw [Array.size_replicate]; omega)
  rw [Array.size_replicate] at hfmt
  have HH0 := Lib.hid hH0
  have iu : (100 : Int) ≤ (u : Int) := by omega
  clear hH0 hal
  go_enter L.f288, Body.n288_ntmps ρ
  go_wp2_with (first
    | (go_at_fn (ρ.f 284); refine (Any.internal_strconv_numDigits { L with } u hu1 hu64 _ (tabIs_alloc htab _)).mono ?_; rintro e w' ⟨rfl, rfl⟩))
  go_at_fn (ρ.f 285)
  refine hfmt.mono ?_
  rintro e w' ⟨rfl, k, v', dk, rfl, hF⟩
  have hcells : ∀ j u', (byteCells (decDigits u))[j]? = some u' → ((putRow (fun (b : UInt8) => Value.int .u8 (b.toNat : Int)) (w.alloc (.cells zeros24 (ρ.t 171))) w.heap.size 0 dk).drewN k).cell? ((⟨w.heap.size, 0, none⟩ : Addr).add j) = some u' := by
    intro j u' hj
    have hjl : j < (decDigits u).length := by
      have h5 := (List.getElem?_eq_some_iff.1 hj).1
      rwa [byteCells_length] at h5
    have e5 : (byteCells (decDigits u))[j]? = some (Value.int .u8 ((decDigits u)[j].toNat : Int)) := by simp [byteCells, hjl]
    rw [e5] at hj
    cases hj
    rw [row_is_numeral hF j hjl, Lib.add_plain, World.cell?_drewN]
    exact cell?_putRow (fun (b : UInt8) => Value.int .u8 (b.toNat : Int)) _ w.heap.size 0 _ dk HH0.out (by rw [hF.size, Array.size_replicate]) j (by rw [hF.size]; rw [decDigits_length] at hjl; exact hjl)
  obtain ⟨os, eo⟩ := fin_at w (.cells zeros24 (ρ.t 171)) dk k 0
  have hown2 : ((putRow (fun (b : UInt8) => Value.int .u8 (b.toNat : Int)) (w.alloc (.cells zeros24 (ρ.t 171))) w.heap.size 0 dk).drewN k).ownsRow B (ρ.t 5) 1 sv n xs := by rw [eo]; exact ownsRow_grow hown k os
  have hnx2 : Below B w ((putRow (fun (b : UInt8) => Value.int .u8 (b.toNat : Int)) (w.alloc (.cells zeros24 (ρ.t 171))) w.heap.size 0 dk).drewN k) := by rw [eo]; exact below_grow B w hBw k os
  have hok2 : Below w.heap.size w ((putRow (fun (b : UInt8) => Value.int .u8 (b.toNat : Int)) (w.alloc (.cells zeros24 (ρ.t 171))) w.heap.size 0 dk).drewN k) := by rw [eo]; exact below_grow w.heap.size w (Nat.le_refl _) k os
  generalize (putRow (fun (b : UInt8) => Value.int .u8 (b.toNat : Int)) (w.alloc (.cells zeros24 (ρ.t 171))) w.heap.size 0 dk).drewN k = W2 at hcells hown2 hnx2 hok2 ⊢
  have hsz2 := hok2.size
  clear eo HH0 hfmt
  go_wp2_with (at_builtin; refine wpl_app rfl _ _ (ρ.t 37) rfl B (ρ.t 5) i0 (.int .u8 0) 1 1 L.t37 hi hz0 hz1 hz2 rfl (by decide) _ _ _ rfl hown2 ⟨w.heap.size, 0, none⟩ (nDigits u) 24 (byteCells (decDigits u)) rfl ?c0 hcells ?c2 ?c3 ?c4 ?c5 ?_)
  case c0 => rw [byteCells_length, decDigits_length, Nat.mul_one]
  case c2 => intro u' hu'; simp only [byteCells, List.mem_map] at hu'; obtain ⟨b, _, rfl⟩ := hu'; rfl
  case c3 => unfold maxLen; omega
  case c4 => omega
  case c5 => omega
  intro v2 w3 hown' hgrow hheir
  go_wp2
  go_ret
  refine ⟨v2, rfl, ?_, hnx2.grown hgrow (by omega) (fun k hk => (hown2.lt k hk).1), ?_, ?_⟩
  · rw [decDigits_length]
    exact hown'
  · refine Kp.trans (v1 := sv) ⟨hsz2, fun k hk _ => hok2.block k hk⟩ (fun b hb => .inl hb) (Kp.grown hgrow)
  · exact Heir.trans (v1 := sv) (fun b hb => .inl hb) hsz2 hheir

theorem appU (L : LaysM.n288 P ρ) (B n u : Nat) (hu64 : u < 18446744073709551616) (sv : Value) (xs : List Value) (w : World) (hown : w.ownsRow B (ρ.t 5) 1 sv n xs) (hBw : B ≤ w.heap.size) (hlim : n + 20 ≤ 140737488355328)
    (htab : TabIs P w "internal/strconv.uint64pow10" .u64 pow10Tab) :
    Calls P (ρ.f 288) #[sv, .int .u64 u, .int .i64 10] w (App ρ B n sv xs w (decDigits u)) := by
  by_cases h : u < 100
  · exact appU_small { L with } B n u h sv xs w hown hBw hlim
  · exact appU_big { L with } B n u (by omega) hu64 sv xs w hown hBw hlim htab

set_option maxHeartbeats 6400000 in
set_option maxRecDepth 100000 in
theorem appI_inner (L : LaysM.n249 P ρ) (B n : Nat) (i : Int) (h0 : -9223372036854775808 ≤ i) (h1 : i ≤ 9223372036854775807) (sv : Value) (xs : List Value) (w : World) (hown : w.ownsRow B (ρ.t 5) 1 sv n xs) (hBw : B ≤ w.heap.size) (hlim : n + 21 ≤ 140737488355328)
    (htab : TabBelow P B w "internal/strconv.uint64pow10" .u64 pow10Tab) :
    Calls P (ρ.f 249) #[sv, .int .i64 i, .int .i64 10] w (App ρ B n sv xs w (itoa i)) := by
  have mixed := L.mixed
  have t5 := L.t5; have a5 := L.a5; have z5 := L.z5; have v5 := L.v5
  have t37 := L.t37; have u37 := run_underlying L.t37; have a37 := L.a37; have z37 := L.z37; have v37 := L.v37
  have t2 := L.t2; have a2 := L.a2; have z2 := L.z2; have v2 := L.v2
  have t3 := L.t3; have a3 := L.a3; have z3 := L.z3; have v3 := L.v3
  have t53 := L.t53; have a53 := L.a53; have z53 := L.z53; have v53 := L.v53
  have t4 := L.t4; have a4 := L.a4; have z4 := L.z4; have v4 := L.v4
  have e288 : ∀ args w, (callFunc (ρ.f 288) args).run P w = .ok (.enter (ρ.f 288) args) w := enters_of L.f288 (by kernel_rfl) rfl
  obtain ⟨i0, hi, hz0, hz1, hz2⟩ := info_parts L.i5
  by_cases hneg : i < 0
  · obtain ⟨u, rfl⟩ : ∃ u : Nat, i = -(u : Int) := ⟨i.natAbs, by omega⟩
    have hu1 : 1 ≤ u := by omega
    have hu64 : u < 18446744073709551616 := by omega
    have hwr : IntKind.u64.wrap (-IntKind.u64.wrap (-(u : Int))) = (u : Int) := by rw [IntKind.wrap_u64, IntKind.wrap_u64]; omega
    rw [itoa_neg u hu1]
    go_enter L.f249, Body.n249_ntmps ρ
    go_wp2_with (at_builtin; refine wpl_app rfl _ _ (ρ.t 37) rfl B (ρ.t 5) i0 (.int .u8 0) 1 1 L.t37 hi hz0 hz1 hz2 rfl (by decide) _ _ _ rfl (hown.alloc _) ⟨w.heap.size, 0, none⟩ 1 1 [Value.int .u8 45] rfl rfl (by intro j u' hj; match j, hj with | 0, hj => simp at hj; subst hj; simp [Addr.add]) (by intro u' hu'; simp at hu'; subst hu'; rfl) (by unfold maxLen; omega) (by omega) (by simp; omega) ?_)
    intro v1 w1 hown1 hgrow hheir
    have hnx1 : Below B w w1 := ((Below.refl B w).alloc hBw _).grown hgrow (by simp; omega) (fun k hk => (hown.lt k hk).1)
    have hal : Below w.heap.size w (w.alloc (.cells #[.int .u8 45] (ρ.t 5))) := (Below.refl _ w).alloc (Nat.le_refl _) _
    have hkp1 : Kp w sv w1 := Kp.trans (v1 := sv) ⟨hal.size, fun k hk _ => hal.block k hk⟩ (fun b hb => .inl hb) (Kp.grown hgrow)
    have hh1 : Heir w sv v1 := Heir.trans (v1 := sv) (fun b hb => .inl hb) hal.size hheir
    have htab1 : TabIs P w1 "internal/strconv.uint64pow10" .u64 pow10Tab := htab w1 hnx1
    go_wp2_with (go_at_fn (ρ.f 288); refine (appU { L with } B (n + 1) u hu64 v1 _ w1 hown1 (by have := hnx1.size; omega) (by omega) htab1).mono ?_; rintro e w2 ⟨v2, rfl, hown2, hnx2, hkp2, hh2⟩)
    go_wp2
    go_ret
    refine ⟨v2, rfl, ?_, hnx1.trans hnx2, hkp1.trans hh1 hkp2, hh1.trans hkp1.1 hh2⟩
    have e1 : n + ((decDigits u).length + 1) = n + 1 + (decDigits u).length := by omega
    have e2 : xs ++ byteCells (45 :: decDigits u) = xs ++ [Value.int .u8 45] ++ byteCells (decDigits u) := by simp [byteCells]
    rw [List.length_cons, e1, e2]
    exact hown2
  · obtain ⟨u, rfl⟩ : ∃ u : Nat, i = u := ⟨i.toNat, by omega⟩
    have hu64 : u < 18446744073709551616 := by omega
    rw [itoa_nonneg]
    go_enter L.f249, Body.n249_ntmps ρ
    go_wp2_with (go_at_fn (ρ.f 288); refine (appU { L with } B n u hu64 sv xs w hown hBw (by omega) htab.here).mono ?_; rintro e w2 ⟨v2, rfl, hown2, hnx2, hok2⟩)
    go_wp2
    first | go_ret | go_ret2
    exact ⟨v2, rfl, hown2, hnx2, hok2⟩

set_option maxRecDepth 100000 in
theorem appI (L : LaysM.n176 P ρ) (B n : Nat) (i : Int) (h0 : -9223372036854775808 ≤ i) (h1 : i ≤ 9223372036854775807) (sv : Value) (xs : List Value) (w : World) (hown : w.ownsRow B (ρ.t 5) 1 sv n xs) (hBw : B ≤ w.heap.size) (hlim : n + 21 ≤ 140737488355328)
    (htab : TabBelow P B w "internal/strconv.uint64pow10" .u64 pow10Tab) :
    Calls P (ρ.f 176) #[sv, .int .i64 i, .int .i64 10] w (App ρ B n sv xs w (itoa i)) := by
  have mixed := L.mixed
  have t5 := L.t5; have a5 := L.a5; have z5 := L.z5; have v5 := L.v5
  have t37 := L.t37; have u37 := run_underlying L.t37; have a37 := L.a37; have z37 := L.z37; have v37 := L.v37
  have t2 := L.t2; have a2 := L.a2; have z2 := L.z2; have v2 := L.v2
  have t3 := L.t3; have a3 := L.a3; have z3 := L.z3; have v3 := L.v3
  have e249 : ∀ args w, (callFunc (ρ.f 249) args).run P w = .ok (.enter (ρ.f 249) args) w := enters_of L.f249 (by kernel_rfl) rfl
  go_enter L.f176, Body.n176_ntmps ρ
  go_wp2_with (go_at_fn (ρ.f 249); refine (appI_inner { L with } B n i h0 h1 sv xs w hown hBw hlim htab).mono ?_; rintro e w2 ⟨v2, rfl, hown2, hnx2, hok2⟩)
  go_wp2
  go_ret
  exact ⟨v2, rfl, hown2, hnx2, hok2⟩

/-- THE CONTRACT, where a table reads so below what the call owns. -/
def appNum (a0 : List Int) (a1 a2 : Int) : Option (List Int) :=
  ck (a2 = 10 ∧ (-9223372036854775808 ≤ a1 ∧ a1 ≤ 9223372036854775807) ∧ a0.length + 21 ≤ 140737488355328) (some (a0 ++ (itoa a1).map fun b => (b.toNat : Int)))

theorem appI_con [Glob P] (hgl : ∀ {B : Nat} {w : World}, Glob.ok P B w → TabBelow P B w "internal/strconv.uint64pow10" .u64 pow10Tab) (L : LaysM.n176 P ρ) {f e : Nat} (hf : ρ.f 176 = f) (he : ρ.t 5 = e)
    (hen : ∀ (vals : Array Value) (w : World), (callFunc f vals).run P w = .ok (.enter f vals) w) {a0 : List Int} {a1 a2 : Int} {r : List Int} (hF : appNum a0 a1 a2 = some r) :
    Con P f [.val false [.row 0], vint .i64 a1, vint .i64 a2] [.row e a0.length 1 (gl cInt_u8 a0)] (.val false [.row 1]) [.none, .row e r.length 1 (gl cInt_u8 r)] := by
  subst hf; subst he
  unfold appNum ck at hF
  split at hF
  case isFalse => cases hF
  rename_i hck
  obtain ⟨rfl, ⟨b1, b2⟩, b3⟩ := hck
  cases hF
  refine ⟨hen, fun w0 g0 vals hp hg => ?_⟩
  match vals, hp.args with
  | [], h => exact h.elim
  | [_], h => exact h.2.elim
  | [_, _], h => exact h.2.2.elim
  | _ :: _ :: _ :: _ :: _, h => exact h.2.2.2.elim
  | [v0, v1, v2], ⟨h1, h2, h3, _⟩ =>
    have k1 : RL w0 g0 (.row 0) v0 := RV.cell h1
    have k2 : v1 = .int .i64 a1 := RV.cell h2
    have k3 : v2 = .int .i64 10 := RV.cell h3
    subst k2; subst k3
    obtain ⟨hd, rfl, hone⟩ := k1
    obtain ⟨q1, q2, ⟨cs, hown, hcs⟩, hom⟩ := hp.objs 0 (by simp)
    obtain ⟨B, hB1, hB2, hB3⟩ := hg
    have hown' : w0.ownsRow B (ρ.t 5) 1 (g0.rv 0) a0.length cs := by
      refine ⟨hown.1, ?_⟩
      rcases hown.2 with hn | ⟨gb, cap, cur, e1, e2, rest⟩
      · exact .inl hn
      · exact .inr ⟨gb, cap, cur, e1, hB2 gb (by show g0.om gb ≠ none; rw [hom gb (by rw [e1]; rfl)]; exact fun e => by cases e), rest⟩
    refine (appI L B a0.length a1 b1 b2 (g0.rv 0) cs w0 hown' hB1 b3 (hgl hB3)).mono ?_
    rintro e w ⟨v', rfl, hown2, hbel, hkp, hheir⟩
    let g : Gh := { Fz := g0.Fz, Tz := g0.Tz, om := fun b => if v'.ownBlock = some b then some 1 else none, rv := fun r => if r = 0 then g0.rv 0 else v', df := fun r => r < 2 }
    have hnom : ∀ b, (∀ r, g0.om b ≠ some r) → b < w0.heap.size → v'.ownBlock ≠ some b := fun b hb hlt e => by
      rcases hheir b e with h4 | h4
      · exact hb 0 (hom b h4)
      · omega
    have hone' : v'.oneCell' = true := by
      rcases hown2.2 with ⟨e1, _⟩ | ⟨gb, cap, cur, e1, _⟩ <;> rw [e1] <;> rfl
    refine ⟨v', g, rfl, ?_⟩
    refine ⟨?_, ?_, fun r => ?_, by simp, fun b hb => ?_, rfl, fun b hb => ?_, fun b r hb => ?_, fun r hr => ?_, hbel.os, hbel.tape, hbel.output, hkp.1, fun k hk hn => ?_⟩
    · exact ⟨[v'], rfl, ⟨by show (1 : Nat) < 2; omega, rfl, hone'⟩, trivial⟩
    · intro r hr
      match r, hr with
      | 0, _ => exact trivial
      | 1, _ =>
        show RO w g 1 (.row (ρ.t 5) _ 1 _)
        have hlen : (a0 ++ (itoa a1).map fun b => (b.toNat : Int)).length = a0.length + (itoa a1).length := by simp
        refine ⟨by omega, ?_, ⟨cs ++ byteCells (itoa a1), ?_, fun i hi j hj => ?_⟩, fun b hb => ?_⟩
        · have : (itoa a1).length ≤ 21 := itoa_length_le a1 b1 b2
          rw [hlen]; unfold bound; omega
        · have h5 := hown2
          rw [hlen]
          refine ⟨h5.1, ?_⟩
          rcases h5.2 with hn | ⟨gb, cap, cur, e1, e2, rest⟩
          · exact .inl hn
          · exact .inr ⟨gb, cap, cur, e1, Nat.zero_le _, rest⟩
        · obtain rfl : j = 0 := by omega
          have hcl : cs.length = a0.length := by simpa using hown.1
          rw [Nat.mul_one, Nat.add_zero]
          show ∃ x, (cs ++ byteCells (itoa a1))[i]? = some x ∧ x = Value.int .u8 ((a0 ++ (itoa a1).map fun b => (b.toNat : Int)).getD i default)
          by_cases hlt : i < a0.length
          · obtain ⟨x, hx, hu⟩ := hcs i hlt 0 (by omega)
            rw [Nat.mul_one, Nat.add_zero] at hx
            refine ⟨x, by rw [List.getElem?_append_left (by omega)]; exact hx, ?_⟩
            have hu' : x = .int .u8 (a0.getD i default) := hu
            rw [hu', List.getD_eq_getElem?_getD, List.getD_eq_getElem?_getD, List.getElem?_append_left hlt]
          · rw [hlen] at hi
            have hi2 : i - a0.length < (itoa a1).length := by omega
            refine ⟨.int .u8 (((itoa a1)[i - a0.length]).toNat : Int), ?_, ?_⟩
            · rw [List.getElem?_append_right (by omega), hcl]
              simp [byteCells, hi2]
            · rw [List.getD_eq_getElem?_getD, List.getElem?_append_right (by omega)]
              simp [hi2]
        · show (if v'.ownBlock = some b then some 1 else none) = some 1
          have hb2 : v'.ownBlock = some b := hb
          rw [if_pos hb2]
    · show r < 2 ↔ r < 2
      exact Iff.rfl
    · have h4 := hp.fz b hb
      refine ⟨.inr (.inl hb), Nat.lt_of_lt_of_le h4.1 hkp.1, ?_⟩
      show (if v'.ownBlock = some b then some 1 else none) = none
      rw [if_neg (hnom b (fun r => by rw [h4.2]; exact fun e => by cases e) h4.1)]
    · have h4 := hp.tz b hb
      show (if v'.ownBlock = some b then some 1 else none) = none
      rw [if_neg (hnom b (fun r => by rw [h4.2]; exact fun e => by cases e) h4.1)]
    · have hb2 : v'.ownBlock = some b := by
        have h5 : (if v'.ownBlock = some b then some 1 else none) = some r := hb
        split at h5
        · assumption
        · cases h5
      refine ⟨?_, (hown2.lt b hb2).2⟩
      rcases hheir b hb2 with h4 | h4
      · exact .inr (by rw [hom b h4]; exact fun e => by cases e)
      · exact .inl h4
    · have hr0 : r = 0 := by simp at hr; omega
      subst hr0
      rfl
    · exact hkp.2 k hk fun e => by
        have := hom k e
        rw [hn] at this
        cases this
end
end Go.Vs

/-! strings.Builder: Len, WriteString, String: every block but the builder's own stays. -/
namespace Go.Vs
open Go.Shelf Go.RowKit Go.Sort Go.Lib Go.Proofs
section
variable {P : Program} {ρ : Ren}

/-- All blocks but the builder's and its row's stand. -/
def Kp2 (w : World) (b : Nat) (v : Value) (w' : World) : Prop := w.heap.size ≤ w'.heap.size ∧ ∀ k, k < w.heap.size → k ≠ b → v.ownBlock ≠ some k → w'.heap[k]? = w.heap[k]?

set_option maxHeartbeats 2000000 in
set_option maxRecDepth 100000 in
theorem bldCheck (L : Lays.n240 P ρ) (X : Builder.X72 P ρ) (B b : Nat) (p v : Value) (bs : List Value) (w : World) (hB : B ≤ b) (hp : p = .pointer none ∨ p = .pointer (some ⟨b, 0, none⟩)) (hbk : w.heap[b]? = some (.cells #[p, v] (ρ.t 72) (0, 0))) :
    Calls P (ρ.f 240) #[.pointer (some ⟨b, 0, none⟩)] w fun e w' => e = .returned (.tuple #[]) ∧ w'.heap[b]? = some (.cells #[.pointer (some ⟨b, 0, none⟩), v] (ρ.t 72) (0, 0)) ∧ Below B w w' ∧ w'.heap.size = w.heap.size ∧ ∀ k, k ≠ b → w'.heap[k]? = w.heap[k]? := by
  have c0 : w.cell? ⟨b, 0, none⟩ = some p := by rw [Lib.cell_of_heap hbk]; rfl
  rcases hp with rfl | rfl
  · refine (Any.Builder_copyCheck_fresh L X b w c0 (by simp [World.shape?, hbk]) (Lib.frozen_of_heap hbk 0)).mono ?_
    rintro e w' ⟨rfl, rfl⟩
    have hlt : b < w.heap.size := by
      rcases Nat.lt_or_ge b w.heap.size with h' | h'
      · exact h'
      · rw [Array.getElem?_eq_none h'] at hbk; cases hbk
    refine ⟨rfl, ?_, (Below.refl B w).setCell (p := ⟨b, 0, none⟩) hB _, ?_, fun k hk => Below.heap_setCell _ _ _ _ (fun e => hk (by rw [e]))⟩
    · simp only [World.setCell, Array.getElem?_modify, if_true, hbk, Option.map_some]
      rfl
    · simp [World.setCell]
  · refine (Any.Builder_copyCheck_used L X b w c0).mono ?_
    rintro e w' ⟨rfl, rfl⟩
    exact ⟨rfl, hbk, Below.refl B _, rfl, fun _ _ => rfl⟩

set_option maxHeartbeats 2000000 in
set_option maxRecDepth 100000 in
theorem bldWrite (L : Lays.n166 P ρ) (X : Builder.Extra P ρ) (B b n : Nat) (p v : Value) (bs : List Value) (s : ByteArray) (w : World) (hB : B ≤ b) (hp : p = .pointer none ∨ p = .pointer (some ⟨b, 0, none⟩)) (hbk : w.heap[b]? = some (.cells #[p, v] (ρ.t 72) (0, 0)))
    (hown0 : w.ownsRow B (ρ.t 5) 1 v n bs) (hne : v.ownBlock ≠ some b) (hlen : n + s.size ≤ 140737488355328) (hBw : B ≤ w.heap.size) :
    Calls P (ρ.f 166) #[.pointer (some ⟨b, 0, none⟩), .string s] w fun e w' => e = .returned (.tuple #[.int .i64 s.size, .nilIface]) ∧ ∃ v', w'.heap[b]? = some (.cells #[.pointer (some ⟨b, 0, none⟩), v'] (ρ.t 72) (0, 0)) ∧
      w'.ownsRow B (ρ.t 5) 1 v' (n + s.size) (bs ++ strCells s) ∧ v'.ownBlock ≠ some b ∧ Heir w v v' ∧ Below B w w' ∧ Kp2 w b v w' := by
  obtain ⟨i0, hi, hz0, hz1, hz2⟩ := info_parts X.infoByte
  have mixed := L.mixed
  have t72 := L.t72; have a72 := L.a72; have z72 := L.z72; have v72 := L.v72; have u72 := run_underlying L.t72
  have t70 := L.t70; have a70 := L.a70; have z70 := L.z70; have v70 := L.v70; have u70 := run_underlying L.t70
  have t37 := L.t37; have a37 := L.a37; have z37 := L.z37; have v37 := L.v37; have u37 := run_underlying L.t37
  have t3 := L.t3; have a3 := L.a3; have z3 := L.z3; have v3 := L.v3; have u3 := run_underlying L.t3
  have t9 := L.t9; have a9 := L.a9; have z9 := L.z9; have v9 := L.v9; have u9 := run_underlying L.t9
  have t4 := L.t4; have a4 := L.a4; have z4 := L.z4; have v4 := L.v4; have u4 := run_underlying L.t4
  have t164 := L.t164; have a164 := L.a164; have z164 := L.z164; have v164 := L.v164; have u164 := run_underlying L.t164
  have t5 := X.t5; have a5 := X.a5; have z5 := X.z5; have v5 := X.v5; have u5 := run_underlying X.t5
  have e240 : ∀ args w, (callFunc (ρ.f 240) args).run P w = .ok (.enter (ρ.f 240) args) w := enters_of L.f240 (by kernel_rfl) rfl
  go_enter L.f166, Body.n166_ntmps ρ
  go_wp2_with (go_at_fn (ρ.f 240); refine (bldCheck { L with } X.toX72 B b p v bs _ hB hp hbk).mono ?_)
  rintro e w1 ⟨rfl, hbk1, hb1, hsz1, hk1⟩
  have hown : w1.ownsRow B (ρ.t 5) 1 v n bs := by
    refine ⟨hown0.1, ?_⟩
    rcases hown0.2 with h0 | ⟨g, cap, cur, hv, hb, hh, r⟩
    · exact .inl h0
    · refine .inr ⟨g, cap, cur, hv, hb, ?_, r⟩
      rw [hk1 g (fun e => hne (by rw [hv, e]; rfl))]; exact hh
  have c0 : w1.cell? ⟨b, 0, none⟩ = some (.pointer (some ⟨b, 0, none⟩)) := by rw [Lib.cell_of_heap hbk1]; rfl
  have c1 : w1.cell? ⟨b, 1, none⟩ = some v := by rw [Lib.cell_of_heap hbk1]; rfl
  go_wp2_with (at_builtin; refine wpl_app_str rfl _ _ (ρ.t 37) (ρ.t 9) rfl B (ρ.t 5) i0 L.t37 L.t9 hi hz0 hz1 hz2 _ _ _ rfl hown s rfl ?c3 ?c4 ?c5 ?_)
  case c3 => unfold maxLen; omega
  case c4 => omega
  case c5 => omega
  intro v' w2 hown' hgrow hheir
  have hlt : b < w1.heap.size := by
    rcases Nat.lt_or_ge b w1.heap.size with h' | h'
    · exact h'
    · simp [Array.getElem?_eq_none h'] at hbk1
  have hb2 : w2.heap[b]? = some (.cells #[.pointer (some ⟨b, 0, none⟩), v] (ρ.t 72) (0, 0)) := by
    rw [hgrow.block b hlt (fun e => hne e.symm)]
    exact hbk1
  have d0 : w2.cell? ⟨b, 0, none⟩ = some (.pointer (some ⟨b, 0, none⟩)) := by rw [Lib.cell_of_heap hb2]; rfl
  have d1 : w2.cell? ⟨b, 1, none⟩ = some v := by rw [Lib.cell_of_heap hb2]; rfl
  have f1 : w2.frozen? ⟨b, 1, none⟩ = false := Lib.frozen_of_heap hb2 1
  have hne' : v'.ownBlock ≠ some b := fun e => by
    rcases hheir b e with h3 | h3
    · exact hne h3
    · omega
  obtain ⟨ao, n', cap, rfl⟩ : ∃ ao n' cap, v' = .slice ao n' cap := by
    rcases hown'.2 with ⟨hv, _⟩ | ⟨g, cap, cur, hv, _⟩
    · exact ⟨_, _, _, hv⟩
    · exact ⟨_, _, _, hv⟩
  go_wp2
  go_ret2
  refine ⟨rfl, _, ?_, ?_, hne', ?_, (hb1.grown hgrow (by omega) (fun k hk => (hown.lt k hk).1)).setCell (p := ⟨b, 1, none⟩) hB _, ?_, ?_⟩
  · simp only [World.setCell, Array.getElem?_modify, if_true, hb2, Option.map_some]
    rfl
  · refine ⟨hown'.1, ?_⟩
    rcases hown'.2 with h0 | ⟨g, cap, cur, hv, hb, hh, r⟩
    · exact .inl h0
    · refine .inr ⟨g, cap, cur, hv, hb, ?_, r⟩
      rw [Below.heap_setCell _ _ _ _ (fun e => hne' (by rw [hv]; simp [Value.ownBlock, e]))]; exact hh
  · intro k hk
    rcases hheir k hk with h3 | h3
    · exact .inl h3
    · exact .inr (by omega)
  · have := hgrow.size
    have h9 : (w2.setCell ⟨b, 1, none⟩ (.slice ao n' cap)).heap.size = w2.heap.size := by simp [World.setCell]
    rw [h9]; omega
  · intro k hk hkb hkv
    rw [Below.heap_setCell _ _ _ _ (fun e => hkb (by rw [e])), hgrow.block k (by omega) (fun e => hkv e.symm), hk1 k hkb]

set_option maxHeartbeats 1000000 in
set_option maxRecDepth 100000 in
theorem bldString1 (L : Lays.n169 P ρ) (X : Builder.Extra P ρ) (b g cap : Nat) (p : Value) (cur : Array Value) (l : List UInt8) (w : World) (hbk : w.heap[b]? = some (.cells #[p, .slice (some ⟨g, 0, none⟩) l.length cap] (ρ.t 72) (0, 0)))
    (hg : w.heap[g]? = some (.cells cur (ρ.t 5) (0, 0))) (hnc : l.length ≤ cap) (hcm : cap ≤ maxLen) (hcs : cur.size = cap * 1) (htake : cur.toList.take (l.length * 1) = byteCells l) (h0 : l ≠ []) :
    Calls P (ρ.f 169) #[.pointer (some ⟨b, 0, none⟩)] w fun e w' => e = .returned (.string ⟨l.toArray⟩) ∧ w' = w.drew.freeze ⟨g, 0, none⟩ l.length := by
  have hown : w.ownsRow 0 (ρ.t 5) 1 (.slice (some ⟨g, 0, none⟩) l.length cap) l.length (byteCells l) := ⟨by rw [byteCells_length, Nat.mul_one], .inr ⟨g, cap, cur, rfl, Nat.zero_le _, hg, hnc, hcm, hcs, htake⟩⟩
  have hl0 : l.length ≠ 0 := by simpa using h0
  have c1 : w.drew.cell? ⟨b, 1, none⟩ = some (.slice (some ⟨g, 0, none⟩) l.length cap) := by
    have : w.drew.heap[b]? = some (.cells #[p, .slice (some ⟨g, 0, none⟩) l.length cap] (ρ.t 72) (0, 0)) := hbk
    rw [Lib.cell_of_heap this]; rfl
  have hSD : (Builtin.unsafeSliceData_ #[(ρ.t 37)] (ρ.t 127) #[.slice (some ⟨g, 0, none⟩) l.length cap]).run P w.drew = .ok (.pointer (some ⟨g, 0, none⟩)) w.drew :=
    Lib.run_unsafeSliceData_row _ _ _ _ _ _ (by omega)
  have hUS : (Builtin.unsafeString_ #[(ρ.t 127), (ρ.t 3)] (ρ.t 9) #[.pointer (some ⟨g, 0, none⟩), .int .i64 l.length]).run P w.drew = .ok (.string ⟨l.toArray⟩) (w.drew.freeze ⟨g, 0, none⟩ l.length) := by
    refine Lib.run_unsafeString_row w.drew (ρ.t 127) (ρ.t 3) (ρ.t 9) (ρ.t 5) L.t127 X.cellsByte g cur.size (by have hg' : w.drew.heap[g]? = some (.cells cur (ρ.t 5) (0, 0)) := hg; simp [World.shape?, hg']) l h0 (by omega) (by unfold maxLen at hcm; omega) ?_
    intro j x hx
    have := hown.cells (g := g) rfl j (.int .u8 x.toNat) (by simp [Lib.byteCells, hx])
    exact this
  have mixed := L.mixed
  have t72 := L.t72; have a72 := L.a72; have z72 := L.z72; have v72 := L.v72; have u72 := run_underlying L.t72
  have t70 := L.t70; have a70 := L.a70; have z70 := L.z70; have v70 := L.v70; have u70 := run_underlying L.t70
  have t37 := L.t37; have a37 := L.a37; have z37 := L.z37; have v37 := L.v37; have u37 := run_underlying L.t37
  have t127 := L.t127; have a127 := L.a127; have z127 := L.z127; have v127 := L.v127; have u127 := run_underlying L.t127
  have t3 := L.t3; have a3 := L.a3; have z3 := L.z3; have v3 := L.v3; have u3 := run_underlying L.t3
  have t9 := L.t9; have a9 := L.a9; have z9 := L.z9; have v9 := L.v9; have u9 := run_underlying L.t9
  have t5 := X.t5; have a5 := X.a5; have z5 := X.z5; have v5 := X.v5; have u5 := run_underlying X.t5
  go_enter L.f169, Body.n169_ntmps ρ
  go_wp2
  go_region_o
  all_goals (go_wp2; go_ret; exact ⟨rfl, rfl⟩)

theorem freeze_heap (w : World) (g n k : Nat) (h : k ≠ g) : (w.freeze ⟨g, 0, none⟩ n).heap[k]? = w.heap[k]? := by
  unfold World.freeze
  split
  · rfl
  · simp only [Array.getElem?_modify]
    rw [if_neg (fun e => h e.symm)]
theorem freeze_size (w : World) (g n : Nat) : (w.freeze ⟨g, 0, none⟩ n).heap.size = w.heap.size := by
  unfold World.freeze
  split <;> simp

theorem bldString (L : Lays.n169 P ρ) (X : Builder.Extra P ρ) (b : Nat) (p v : Value) (l : List UInt8) (w : World) (hbk : w.heap[b]? = some (.cells #[p, v] (ρ.t 72) (0, 0))) (hp : p = .pointer none ∨ p = .pointer (some ⟨b, 0, none⟩))
    (hown : w.ownsRow 0 (ρ.t 5) 1 v l.length (byteCells l)) (hne : v.ownBlock ≠ some b) :
    Calls P (ρ.f 169) #[.pointer (some ⟨b, 0, none⟩)] w fun e w' => e = .returned (.string ⟨l.toArray⟩) ∧ w'.os = w.os ∧ w'.tape = w.tape ∧ w'.output = w.output ∧ Kp2 w b v w' := by
  have full : ∀ {w' : World}, Below w.heap.size w w' → w'.os = w.os ∧ w'.tape = w.tape ∧ w'.output = w.output ∧ Kp2 w b v w' := fun h => ⟨h.os, h.tape, h.output, h.size, fun k hk _ _ => h.block k hk⟩
  cases l with
  | nil =>
    rcases hown.2 with ⟨rfl, _⟩ | ⟨g, cap, cur, rfl, hbg, hg, _, _, _, _⟩
    · exact (Any.Builder_String_nil L X w.heap.size b p w hbk).mono fun e w' h => ⟨h.1, full h.2⟩
    · by_cases hc0 : cap = 0
      · subst hc0
        exact (Any.Builder_String_noroom L X w.heap.size b g p cur w (Nat.le_refl _) hbk hg).mono fun e w' h => ⟨h.1, full h.2⟩
      · exact (Any.Builder_String_room L X w.heap.size b g cap p w hc0 hbk).mono fun e w' h => ⟨h.1, full h.2⟩
  | cons x r =>
    rcases hown.2 with ⟨_, h0⟩ | ⟨g, cap, cur, rfl, hbg, hg, h1, h2, h3, h4⟩
    · simp at h0
    · refine (bldString1 L X b g cap p cur (x :: r) w hbk hg h1 h2 h3 h4 (fun e => by cases e)).mono ?_
      rintro e w' ⟨rfl, rfl⟩
      have hfr : ∀ (u : World) (n : Nat), (u.freeze ⟨g, 0, none⟩ n).os = u.os ∧ (u.freeze ⟨g, 0, none⟩ n).tape = u.tape ∧ (u.freeze ⟨g, 0, none⟩ n).output = u.output := fun u n => by
        unfold World.freeze
        split <;> exact ⟨rfl, rfl, rfl⟩
      obtain ⟨q1, q2, q3⟩ := hfr w.drew (x :: r).length
      have hd : w.drew.os = w.os ∧ w.drew.tape = w.tape ∧ w.drew.output = w.output := ⟨rfl, rfl, rfl⟩
      refine ⟨rfl, q1.trans hd.1, q2.trans hd.2.1, q3.trans hd.2.2, by rw [freeze_size]; exact Nat.le_refl _, fun k hk hkb hkv => ?_⟩
      rw [freeze_heap _ _ _ _ (fun e => hkv (by rw [e]; rfl))]
      rfl

/-! ### The contracts -/
theorem strCells_eq (s : ByteArray) : strCells s = s.data.toList.map fun x => Value.int .u8 (x.toNat : Int) := rfl
theorem app_cells (s x : ByteArray) : (s ++ x).data.toList = s.data.toList ++ x.data.toList := by rw [ByteArray.data_append, Array.toList_append]
theorem size_list (s : ByteArray) : s.size = s.data.toList.length := rfl

variable [Glob P]
theorem own_up {w : World} {B e n : Nat} {v : Value} {xs : List Value} (h : w.ownsRow 0 e 1 v n xs) (hB : ∀ k, v.ownBlock = some k → B ≤ k) : w.ownsRow B e 1 v n xs := by
  refine ⟨h.1, ?_⟩
  rcases h.2 with hn | ⟨gb, cap, cur, e1, e2, rest⟩
  · exact .inl hn
  · exact .inr ⟨gb, cap, cur, e1, hB gb (by rw [e1]; rfl), rest⟩
theorem own_dn {w : World} {B e n : Nat} {v : Value} {xs : List Value} (h : w.ownsRow B e 1 v n xs) : w.ownsRow 0 e 1 v n xs := by
  refine ⟨h.1, ?_⟩
  rcases h.2 with hn | ⟨gb, cap, cur, e1, e2, rest⟩
  · exact .inl hn
  · exact .inr ⟨gb, cap, cur, e1, Nat.zero_le _, rest⟩

theorem bldLen_con (L : Lays.n170 P ρ) {f t e : Nat} (hf : ρ.f 170 = f) (ht : ρ.t 72 = t) (he : ρ.t 5 = e) (hen : ∀ (vals : Array Value) (w : World), (callFunc f vals).run P w = .ok (.enter f vals) w) {s : ByteArray} :
    Con P f [.ptr 0 0] [.abs (bldQ t e s)] (vint .i64 (s.size : Int)) [.abs (bldQ t e s)] := by
  subst hf; subst ht; subst he
  refine ⟨hen, fun w0 g0 vals hp hg => ?_⟩
  match vals, hp.args with
  | [], h => exact h.elim
  | _ :: _ :: _, h => exact h.2.elim
  | [v0], ⟨⟨hd, b, e1, e2⟩, _⟩ =>
    have hob := hp.objs 0 (by simp)
    obtain ⟨own, o1, o2, o3⟩ := id hob
    obtain ⟨b', p, bv, h1, h2, h3, h4, h5, h6, h7⟩ := o3 w0 (fun _ _ => rfl)
    rw [e1] at h1
    cases h1
    subst e2
    have hat : IsBuilder (ρ.t 72) (ρ.t 5) 0 b (byteCells s.data.toList) w0 := by
      have : BuilderAt (ρ.t 72) (ρ.t 5) 0 b p (byteCells s.data.toList) w0 := ⟨Nat.zero_le _, bv, h3, by rw [byteCells_length]; exact h5, h6⟩
      rcases h4 with rfl | rfl
      · exact .inl this
      · exact .inr this
    refine (Any.Builder_Len L 0 b _ w0 hat).mono ?_
    rintro e w ⟨rfl, rfl⟩
    refine ⟨_, g0, rfl, ⟨[_], rfl, ?_, trivial⟩, fun r hr => hp.objs r hr, fun r => hp.df r, Nat.le_refl _, fun b hb => ⟨.inr (.inl hb), hp.fz b hb⟩, rfl, fun b hb => (hp.tz b hb).2, fun b r hb => ⟨.inr (by rw [hb]; exact fun e => by cases e), hp.om b r hb⟩, fun _ _ => rfl, rfl, rfl, rfl, Nat.le_refl _, fun _ _ _ => rfl⟩
    show Value.int .i64 ((byteCells s.data.toList).length : Int) = .int .i64 (s.size : Int)
    rw [byteCells_length, size_list]

theorem bldWrite_con (L : Lays.n166 P ρ) (X : Builder.Extra P ρ) {f t e : Nat} (hf : ρ.f 166 = f) (ht : ρ.t 72 = t) (he : ρ.t 5 = e) (hen : ∀ (vals : Array Value) (w : World), (callFunc f vals).run P w = .ok (.enter f vals) w)
    {s x : ByteArray} (hlen : s.size + x.size ≤ 140737488355328) :
    Con P f [.ptr 0 0, vstr x] [.abs (bldQ t e s)] (.tup [(false, [.u (cI (x.size : Int))]), (false, [.dead])]) [.abs (bldQ t e (s ++ x))] := by
  subst hf; subst ht; subst he
  refine ⟨hen, fun w0 g0 vals hp hg => ?_⟩
  match vals, hp.args with
  | [], h => exact h.elim
  | [_], h => exact h.2.elim
  | _ :: _ :: _ :: _, h => exact h.2.2.elim
  | [v0, v1], ⟨⟨hd, b, e1, e2⟩, hv1, _⟩ =>
    have k1 : v1 = .string x := RV.cell hv1
    subst k1
    obtain ⟨own, o1, o2, o3⟩ := hp.objs 0 (by simp)
    obtain ⟨b', p, bv, h1, h2, h3, h4, h5, h6, h7⟩ := o3 w0 (fun _ _ => rfl)
    rw [e1] at h1
    cases h1
    subst e2
    obtain ⟨B, hB1, hB2, hB3⟩ := hg
    have hB : ∀ k, own k → B ≤ k := fun k hk => hB2 k (by show g0.om k ≠ none; rw [o1 k hk]; exact fun e => by cases e)
    refine (bldWrite L X B b _ p bv _ x w0 (hB b h2) h4 h3 (own_up h5 fun k hk => hB k (h7 k hk)) h6 (by rw [← size_list]; exact hlen) hB1).mono ?_
    rintro e w ⟨rfl, v', q1, q2, q3, q4, q5, q6⟩
    let g : Gh := { Fz := g0.Fz, Tz := g0.Tz, om := fun k => if k = b ∨ v'.ownBlock = some k then some 0 else none, rv := g0.rv, df := g0.df }
    have hnom : ∀ k, g0.om k = none → k < w0.heap.size → ¬ (k = b ∨ v'.ownBlock = some k) := fun k hk hlt h => by
      rcases h with rfl | h
      · rw [o1 _ h2] at hk; cases hk
      · rcases q4 k h with h8 | h8
        · rw [o1 _ (h7 k h8)] at hk; cases hk
        · omega
    have hbsz : b < w0.heap.size := hp.om b 0 (o1 b h2)
    refine ⟨_, g, rfl, ⟨[.int .i64 x.size, .nilIface], rfl, ⟨[_], rfl, rfl, trivial⟩, ⟨[_], rfl, rfl, trivial⟩, trivial⟩, fun r hr => ?_, fun r => hp.df r, Nat.le_refl _, fun k hk => ?_, rfl, fun k hk => ?_, fun k r hk => ?_, fun _ _ => rfl, q5.os, q5.tape, q5.output, q5.size, fun k hk hn => ?_⟩
    · obtain rfl : r = 0 := by simp at hr; omega
      refine ⟨fun k => k = b ∨ v'.ownBlock = some k, fun k hk => if_pos hk, fun k hk => ?_, fun w' hw => ⟨b, .pointer (some ⟨b, 0, none⟩), v', e1, .inl rfl, ?_, .inr rfl, ?_, q3, fun k hk => .inr hk⟩⟩
      · have : blk (g0.rv 0) = some k := hk
        rw [e1] at this
        simp only [blk, Option.some.injEq] at this
        exact .inl this.symm
      · rw [hw b (.inl rfl)]; exact q1
      · have h8 := own_dn q2
        rw [size_list, strCells_eq] at h8
        rw [app_cells, List.length_append, List.map_append]
        refine ⟨h8.1, ?_⟩
        rcases h8.2 with hn | ⟨gb, cap, cur, e3, e4, e5, rest⟩
        · exact .inl hn
        · exact .inr ⟨gb, cap, cur, e3, e4, by rw [hw gb (.inr (by rw [e3]; rfl))]; exact e5, rest⟩
    · have h8 := hp.fz k hk
      exact ⟨.inr (.inl hk), Nat.lt_of_lt_of_le h8.1 q5.size, if_neg (hnom k h8.2 h8.1)⟩
    · have h8 := hp.tz k hk
      exact if_neg (hnom k h8.2 h8.1)
    · have h8 : (if k = b ∨ v'.ownBlock = some k then some 0 else none) = some r := hk
      split at h8
      · rename_i h9
        rcases h9 with rfl | h9
        · exact ⟨.inr (by rw [o1 _ h2]; exact fun e => by cases e), Nat.lt_of_lt_of_le hbsz q5.size⟩
        · refine ⟨?_, (q2.lt k h9).2⟩
          rcases q4 k h9 with h10 | h10
          · exact .inr (by rw [o1 _ (h7 k h10)]; exact fun e => by cases e)
          · exact .inl h10
      · cases h8
    · refine q6.2 k hk (fun e => by subst e; rw [o1 _ h2] at hn; cases hn) (fun e => by rw [o1 _ (h7 k e)] at hn; cases hn)

theorem bldString_con (L : Lays.n169 P ρ) (X : Builder.Extra P ρ) {f t e : Nat} (hf : ρ.f 169 = f) (ht : ρ.t 72 = t) (he : ρ.t 5 = e) (hen : ∀ (vals : Array Value) (w : World), (callFunc f vals).run P w = .ok (.enter f vals) w) {s : ByteArray} :
    Con P f [.ptr 0 0] [.abs (bldQ t e s)] (vstr s) [.none] := by
  subst hf; subst ht; subst he
  refine ⟨hen, fun w0 g0 vals hp hg => ?_⟩
  match vals, hp.args with
  | [], h => exact h.elim
  | _ :: _ :: _, h => exact h.2.elim
  | [v0], ⟨⟨hd, b, e1, e2⟩, _⟩ =>
    obtain ⟨own, o1, o2, o3⟩ := hp.objs 0 (by simp)
    obtain ⟨b', p, bv, h1, h2, h3, h4, h5, h6, h7⟩ := o3 w0 (fun _ _ => rfl)
    rw [e1] at h1
    cases h1
    subst e2
    refine (bldString L X b p bv s.data.toList w0 h3 h4 h5 h6).mono ?_
    rintro e w ⟨rfl, q1, q2, q3, q4⟩
    let g : Gh := { Fz := g0.Fz, Tz := g0.Tz, om := fun _ => none, rv := g0.rv, df := g0.df }
    refine ⟨_, g, rfl, ⟨[_], rfl, ?_, trivial⟩, fun r hr => ?_, fun r => hp.df r, Nat.le_refl _, fun k hk => ⟨.inr (.inl hk), Nat.lt_of_lt_of_le (hp.fz k hk).1 q4.1, rfl⟩, rfl, fun k hk => rfl, (fun k r hk => by cases hk), fun _ _ => rfl, q1, q2, q3, q4.1, fun k hk hn => ?_⟩
    · show Value.string _ = .string s
      rfl
    · obtain rfl : r = 0 := by simp at hr; omega
      exact trivial
    · exact q4.2 k hk (fun e => by subst e; rw [o1 _ h2] at hn; cases hn) (fun e => by rw [o1 _ (h7 k e)] at hn; cases hn)

/-- A pure call: everything that was there stays. -/
theorem pure_con {f : FuncId} {ags : List S} {rs : S} {os1 : List Ob} (hen : ∀ (vals : Array Value) (w : World), (callFunc f vals).run P w = .ok (.enter f vals) w)
    (h : ∀ (w0 : World) (g0 : Gh) (vals : List Value), RSs w0 g0 ags vals → GOk P w0 (fun _ => False) → Calls P f vals.toArray w0 fun e w => Below w0.heap.size w0 w ∧ ∃ v g, e = .returned v ∧ RS w g rs v ∧ (∀ r, r < os1.length → RO w g r (os1.getD r .none)) ∧
      (∀ r, g.df r ↔ r < os1.length) ∧ g.Fz = g0.Fz ∧ g.Tz = g0.Tz ∧ ∀ b r, g.om b = some r → w0.heap.size ≤ b ∧ b < w.heap.size) : Con P f ags [] rs os1 := by
  refine ⟨hen, fun w0 g0 vals hp hg => ?_⟩
  obtain ⟨B, hB1, hB2, hB3⟩ := hg
  refine (h w0 g0 vals hp.args ⟨B, hB1, fun _ h => h.elim, hB3⟩).mono ?_
  rintro e w ⟨hb, v, g, rfl, h1, h2, h3, h4, h5, h6⟩
  have hno : ∀ b, b < w0.heap.size → g.om b = none := fun b hlt => by
    cases hb' : g.om b with
    | none => rfl
    | some r => have := (h6 b r hb').1; omega
  refine ⟨v, g, rfl, h1, h2, h3, Nat.zero_le _, fun b hb' => ?_, h5, fun b hb' => hno b (hp.tz b hb').1, fun b r hb' => ⟨.inl (h6 b r hb').1, (h6 b r hb').2⟩, fun r hr => absurd hr (Nat.not_lt_zero r), hb.os, hb.tape, hb.output, hb.size, fun k hk _ => hb.block k hk⟩
  rw [h4] at hb'
  exact ⟨.inr (.inl hb'), Nat.lt_of_lt_of_le (hp.fz b hb').1 hb.size, hno b (hp.fz b hb').1⟩

theorem itoa_con (hgl : ∀ {B : Nat} {w : World}, Glob.ok P B w → TabBelow P B w "internal/strconv.uint64pow10" .u64 pow10Tab) (L : LaysM.n171 P ρ) {f : Nat} (hf : ρ.f 171 = f)
    (hen : ∀ (vals : Array Value) (w : World), (callFunc f vals).run P w = .ok (.enter f vals) w) {n : Int} {r : ByteArray} (hn : -9223372036854775808 ≤ n ∧ n ≤ 9223372036854775807) (hr : some (⟨(itoa n).toArray⟩ : ByteArray) = some r) :
    Con P f [vint .i64 n] [] (vstr r) [] := by
  subst hf
  cases hr
  refine pure_con hen fun w0 g0 vals ha hg => ?_
  match vals, ha with
  | [], h => exact h.elim
  | _ :: _ :: _, h => exact h.2.elim
  | [v0], ⟨h1, _⟩ =>
    have k1 : v0 = .int .i64 n := RV.cell h1
    subst k1
    obtain ⟨B, hB1, _, hB3⟩ := hg
    refine (Any.strconv_Itoa L n hn.1 hn.2 w0 (hgl hB3).here).mono ?_
    rintro e w ⟨rfl, k, os, rfl⟩
    exact ⟨below_grow w0.heap.size w0 (Nat.le_refl _) k os, _, { Fz := g0.Fz, Tz := g0.Tz, om := fun _ => none, rv := g0.rv, df := fun _ => False }, rfl, ⟨[_], rfl, rfl, trivial⟩, fun r hr => absurd hr (Nat.not_lt_zero r), fun r => ⟨fun h => h.elim, fun h => absurd h (Nat.not_lt_zero r)⟩, rfl, rfl, fun b r h => by cases h⟩

theorem split_con (hgl : ∀ {B : Nat} {w : World}, Glob.ok P B w → ∀ w', Below B w w' → ∃ m, w'.cell? ⟨ρ.g 1, 0, none⟩ = some (.int .i64 m)) (L : LaysM.n146 P ρ) {f e9 : Nat} (hf : ρ.f 146 = f) (h9 : ρ.t 9 = e9) (hone : e9 = e9)
    (hen : ∀ (vals : Array Value) (w : World), (callFunc f vals).run P w = .ok (.enter f vals) w) {s p : ByteArray} {r : List ByteArray} (hn : s.size < 4294967281 ∧ 1 ≤ p.size) (hr : some (splitB p 0 (countB s p) s) = some r) :
    Con P f [vstr s, vstr p] [] (.val false [.row 0]) [.row e9 r.length 1 (gl cStr r)] := by
  subst hf; subst h9
  cases hr
  refine pure_con hen fun w0 g0 vals ha hg => ?_
  match vals, ha with
  | [], h => exact h.elim
  | [_], h => exact h.2.elim
  | _ :: _ :: _ :: _, h => exact h.2.2.elim
  | [v0, v1], ⟨h1, h2, _⟩ =>
    have k1 : v0 = .string s := RV.cell h1
    have k2 : v1 = .string p := RV.cell h2
    subst k1; subst k2
    obtain ⟨B, hB1, _, hB3⟩ := hg
    obtain ⟨m, hm⟩ := hgl hB3 w0 (Below.refl _ _)
    have hlen : (splitB p 0 (countB s p) s).length = countB s p + 1 := splitB_all p hn.2 0 _ s rfl
    have hle := countB_le p hn.2 s.size s (Nat.le_refl _)
    refine (Any.strings_Split { L with } L.i9 s p m w0 hn.1 hm hn.2).mono ?_
    rintro e w ⟨rfl, rfl⟩
    refine ⟨(Below.refl _ w0).alloc (Nat.le_refl _) _, _, { Fz := g0.Fz, Tz := g0.Tz, om := fun b => if b = w0.heap.size then some 0 else none, rv := fun _ => .slice (some ⟨w0.heap.size, 0, none⟩) (countB s p + 1) (countB s p + 1), df := fun r => r < 1 }, rfl,
      ⟨[_], rfl, ⟨by show (0 : Nat) < 1; omega, rfl, rfl⟩, trivial⟩, fun r hr => ?_, fun r => Iff.rfl, rfl, rfl, fun b r h => ?_⟩
    · obtain rfl : r = 0 := by simp at hr; omega
      refine ⟨by omega, by unfold bound; omega, ⟨(splitB p 0 (countB s p) s).map Value.string, ⟨by rw [List.length_map, Nat.mul_one], .inr ⟨w0.heap.size, _, ((splitB p 0 (countB s p) s).map Value.string).toArray, by rw [hlen], Nat.zero_le _, heap_alloc_new w0 _, by omega, by unfold maxLen; omega, by simp [hlen], by rw [Nat.mul_one]; exact List.take_of_length_le (by simp)⟩⟩, fun i hi j hj => ?_⟩, fun b hb => ?_⟩
      · obtain rfl : j = 0 := by omega
        rw [Nat.mul_one, Nat.add_zero]
        refine ⟨.string ((splitB p 0 (countB s p) s).getD i default), ?_, rfl⟩
        rw [List.getElem?_map, List.getElem?_eq_getElem hi, List.getD_eq_getElem?_getD, List.getElem?_eq_getElem hi]
        rfl
      · simp only [Value.ownBlock, Option.some.injEq] at hb
        show (if b = w0.heap.size then some 0 else none) = some 0
        rw [if_pos hb.symm]
    · have h8 : (if b = w0.heap.size then some 0 else none) = some r := h
      split at h8
      · rename_i h9
        subst h9
        exact ⟨Nat.le_refl _, by simp⟩
      · cases h8
end
end Go.Vs

/-! strings.Builder, strings.Split, strconv.Itoa at this program: the layings are printed by the kit's tool. -/
namespace Go.Proofs
open Go.Shelf
def Tryd.lays169_ren : Go.Shelf.Ren := ⟨fun | 169 => 36 | n => n, fun | 70 => 54 | 9 => 9 | 0 => 0 | 72 => 57 | 37 => 55 | 127 => 101 | 3 => 3 | 5 => 5 | n => n, fun | n => n⟩
theorem Tryd.lays169 : Go.Proofs.Lays.n169 Tryd.prog Tryd.lays169_ren := {
  mixed := by kernel_rfl
  f169 := Tryd.func36.trans (congrArg some (by kernel_rfl))
  t0 := Tryd.underlying0
  a0 := Tryd.isAgg0
  z0 := Tryd.sizeOf0
  v0 := Tryd.zeroValue0
  t3 := Tryd.underlying3
  a3 := Tryd.isAgg3
  z3 := Tryd.sizeOf3
  v3 := Tryd.zeroValue3
  t9 := Tryd.underlying9
  a9 := Tryd.isAgg9
  z9 := Tryd.sizeOf9
  v9 := Tryd.zeroValue9
  t37 := Tryd.underlying55
  a37 := Tryd.isAgg55
  z37 := Tryd.sizeOf55
  v37 := Tryd.zeroValue55
  t70 := Tryd.underlying54
  a70 := Tryd.isAgg54
  z70 := Tryd.sizeOf54
  v70 := Tryd.zeroValue54
  t72 := Tryd.underlying57
  a72 := Tryd.isAgg57
  z72 := Tryd.sizeOf57
  v72 := Tryd.zeroValue57
  t127 := Tryd.underlying101
  a127 := Tryd.isAgg101
  z127 := Tryd.sizeOf101
  v127 := Tryd.zeroValue101 }
def Tryd.lays170_ren : Go.Shelf.Ren := ⟨fun | 170 => 34 | n => n, fun | 70 => 54 | 3 => 3 | 0 => 0 | 72 => 57 | 37 => 55 | 5 => 5 | n => n, fun | n => n⟩
theorem Tryd.lays170 : Go.Proofs.Lays.n170 Tryd.prog Tryd.lays170_ren := {
  mixed := by kernel_rfl
  f170 := Tryd.func34.trans (congrArg some (by kernel_rfl))
  t0 := Tryd.underlying0
  a0 := Tryd.isAgg0
  z0 := Tryd.sizeOf0
  v0 := Tryd.zeroValue0
  t3 := Tryd.underlying3
  a3 := Tryd.isAgg3
  z3 := Tryd.sizeOf3
  v3 := Tryd.zeroValue3
  t37 := Tryd.underlying55
  a37 := Tryd.isAgg55
  z37 := Tryd.sizeOf55
  v37 := Tryd.zeroValue55
  t70 := Tryd.underlying54
  a70 := Tryd.isAgg54
  z70 := Tryd.sizeOf54
  v70 := Tryd.zeroValue54
  t72 := Tryd.underlying57
  a72 := Tryd.isAgg57
  z72 := Tryd.sizeOf57
  v72 := Tryd.zeroValue57 }
def Tryd.laysM171_ren : Go.Shelf.Ren := ⟨fun | 171 => 56 | 243 => 68 | 246 => 78 | 283 => 95 | 284 => 96 | 285 => 97 | 286 => 98 | 129 => 114 | 317 => 113 | 318 => 115 | 319 => 116 | 320 => 117 | 337 => 123 | 338 => 124 | n => n, fun | 3 => 3 | 9 => 9 | 2 => 2 | 4 => 4 | 171 => 139 | 0 => 0 | 53 => 140 | 37 => 55 | 5 => 5 | 173 => 143 | 212 => 158 | 51 => 159 | 20 => 20 | 213 => 160 | 46 => 146 | 232 => 173 | 233 => 174 | n => n, fun | 17 => 1 | 18 => 4 | 19 => 5 | n => n⟩
theorem Tryd.laysM171 : Go.Proofs.LaysM.n171 Tryd.prog Tryd.laysM171_ren := {
  mixed := by kernel_rfl
  f129 := Tryd.func114.trans (congrArg some (by kernel_rfl))
  f171 := Tryd.func56.trans (congrArg some (by kernel_rfl))
  f243 := Tryd.func68.trans (congrArg some (by kernel_rfl))
  f246 := Tryd.func78.trans (congrArg some (by kernel_rfl))
  f283 := Tryd.func95.trans (congrArg some (by kernel_rfl))
  f284 := Tryd.func96.trans (congrArg some (by kernel_rfl))
  f285 := Tryd.func97.trans (congrArg some (by kernel_rfl))
  f286 := Tryd.func98.trans (congrArg some (by kernel_rfl))
  f317 := Tryd.func113.trans (congrArg some (by kernel_rfl))
  f318 := Tryd.func115.trans (congrArg some (by kernel_rfl))
  f319 := Tryd.func116.trans (congrArg some (by kernel_rfl))
  f320 := Tryd.func117.trans (congrArg some (by kernel_rfl))
  f337 := Tryd.func123.trans (congrArg some (by kernel_rfl))
  f338 := Tryd.func124.trans (congrArg some (by kernel_rfl))
  t0 := Tryd.underlying0
  a0 := Tryd.isAgg0
  z0 := Tryd.sizeOf0
  v0 := Tryd.zeroValue0
  t2 := Tryd.underlying2
  a2 := Tryd.isAgg2
  z2 := Tryd.sizeOf2
  v2 := Tryd.zeroValue2
  t3 := Tryd.underlying3
  a3 := Tryd.isAgg3
  z3 := Tryd.sizeOf3
  v3 := Tryd.zeroValue3
  t4 := Tryd.underlying4
  a4 := Tryd.isAgg4
  z4 := Tryd.sizeOf4
  v4 := Tryd.zeroValue4
  t5 := Tryd.underlying5
  a5 := Tryd.isAgg5
  z5 := Tryd.sizeOf5
  v5 := Tryd.zeroValue5
  t9 := Tryd.underlying9
  a9 := Tryd.isAgg9
  z9 := Tryd.sizeOf9
  v9 := Tryd.zeroValue9
  t20 := Tryd.underlying20
  a20 := Tryd.isAgg20
  z20 := Tryd.sizeOf20
  v20 := Tryd.zeroValue20
  t37 := Tryd.underlying55
  a37 := Tryd.isAgg55
  z37 := Tryd.sizeOf55
  v37 := Tryd.zeroValue55
  t46 := Tryd.underlying146
  a46 := Tryd.isAgg146
  z46 := Tryd.sizeOf146
  v46 := Tryd.zeroValue146
  t51 := Tryd.underlying159
  a51 := Tryd.isAgg159
  z51 := Tryd.sizeOf159
  v51 := Tryd.zeroValue159
  t53 := Tryd.underlying140
  a53 := Tryd.isAgg140
  z53 := Tryd.sizeOf140
  v53 := Tryd.zeroValue140
  t171 := Tryd.underlying139
  a171 := Tryd.isAgg139
  z171 := Tryd.sizeOf139
  v171 := Tryd.zeroValue139
  t173 := Tryd.underlying143
  a173 := Tryd.isAgg143
  z173 := Tryd.sizeOf143
  v173 := Tryd.zeroValue143
  t212 := Tryd.underlying158
  a212 := Tryd.isAgg158
  z212 := Tryd.sizeOf158
  v212 := Tryd.zeroValue158
  t213 := Tryd.underlying160
  a213 := Tryd.isAgg160
  z213 := Tryd.sizeOf160
  t232 := Tryd.underlying173
  a232 := Tryd.isAgg173
  z232 := Tryd.sizeOf173
  v232 := Tryd.zeroValue173
  t233 := Tryd.underlying174
  a233 := Tryd.isAgg174
  z233 := Tryd.sizeOf174
  v233 := Tryd.zeroValue174
  g17 := by kernel_rfl
  g18 := by kernel_rfl
  g19 := by kernel_rfl
  i0 := by kernel_rfl
  i2 := by kernel_rfl
  i3 := by kernel_rfl
  i4 := by kernel_rfl
  i5 := by kernel_rfl
  i9 := by kernel_rfl
  i20 := by kernel_rfl
  i37 := by kernel_rfl
  i46 := by kernel_rfl
  i51 := by kernel_rfl
  i53 := by kernel_rfl
  i171 := by kernel_rfl
  i173 := by kernel_rfl
  i212 := by kernel_rfl
  i232 := by kernel_rfl
  i233 := by kernel_rfl
  m17 := by kernel_rfl
  m18 := by kernel_rfl
  m19 := by kernel_rfl }
def Tryd.lays166_ren : Go.Shelf.Ren := ⟨fun | 166 => 35 | 240 => 57 | 276 => 69 | n => n, fun | 37 => 55 | 70 => 54 | 72 => 57 | 75 => 66 | 80 => 69 | 164 => 113 | n => n, fun | n => n⟩
theorem Tryd.lays166 : Go.Proofs.Lays.n166 Tryd.prog Tryd.lays166_ren := {
  mixed := by kernel_rfl
  f166 := Tryd.func35.trans (congrArg some (by kernel_rfl))
  f240 := Tryd.func57.trans (congrArg some (by kernel_rfl))
  f276 := Tryd.func69.trans (congrArg some (by kernel_rfl))
  t0 := Tryd.underlying0
  a0 := Tryd.isAgg0
  z0 := Tryd.sizeOf0
  v0 := Tryd.zeroValue0
  t3 := Tryd.underlying3
  a3 := Tryd.isAgg3
  z3 := Tryd.sizeOf3
  v3 := Tryd.zeroValue3
  t4 := Tryd.underlying4
  a4 := Tryd.isAgg4
  z4 := Tryd.sizeOf4
  v4 := Tryd.zeroValue4
  t9 := Tryd.underlying9
  a9 := Tryd.isAgg9
  z9 := Tryd.sizeOf9
  v9 := Tryd.zeroValue9
  t20 := Tryd.underlying20
  a20 := Tryd.isAgg20
  z20 := Tryd.sizeOf20
  v20 := Tryd.zeroValue20
  t37 := Tryd.underlying55
  a37 := Tryd.isAgg55
  z37 := Tryd.sizeOf55
  v37 := Tryd.zeroValue55
  t70 := Tryd.underlying54
  a70 := Tryd.isAgg54
  z70 := Tryd.sizeOf54
  v70 := Tryd.zeroValue54
  t72 := Tryd.underlying57
  a72 := Tryd.isAgg57
  z72 := Tryd.sizeOf57
  v72 := Tryd.zeroValue57
  t75 := Tryd.underlying66
  a75 := Tryd.isAgg66
  z75 := Tryd.sizeOf66
  v75 := Tryd.zeroValue66
  t164 := Tryd.underlying113
  a164 := Tryd.isAgg113
  z164 := Tryd.sizeOf113
  v164 := Tryd.zeroValue113 }
theorem Tryd.extra166 : Builder.Extra Tryd.prog Tryd.lays166_ren := {
  sizeBuilder := by kernel_rfl
  liesBuilder := by kernel_rfl
  t5 := Tryd.underlying5
  a5 := Tryd.isAgg5
  z5 := Tryd.sizeOf5
  v5 := Tryd.zeroValue5
  infoByte := by kernel_rfl
  cellsByte := by kernel_rfl
  sizeByte := by kernel_rfl
  neB5 := by decide }
theorem Tryd.extra169 : Builder.Extra Tryd.prog Tryd.lays169_ren := {
  sizeBuilder := by kernel_rfl
  liesBuilder := by kernel_rfl
  t5 := Tryd.underlying5
  a5 := Tryd.isAgg5
  z5 := Tryd.sizeOf5
  v5 := Tryd.zeroValue5
  infoByte := by kernel_rfl
  cellsByte := by kernel_rfl
  sizeByte := by kernel_rfl
  neB5 := by decide }
end Go.Proofs
namespace Go.Proofs.PanL
open Go.Vs
open Go.Lib (itoa)
theorem g_bldLen_c {s : ByteArray} : Con Tryd.prog 34 [.ptr 0 0] [.abs (bldQ 57 5 s)] (vint .i64 (s.size : Int)) [.abs (bldQ 57 5 s)] :=
  bldLen_con Tryd.lays170 rfl rfl rfl (enters_of Tryd.func34 (by kernel_rfl) rfl)
theorem g_bldWrite_c {s x : ByteArray} (h : s.size + x.size ≤ 140737488355328) : Con Tryd.prog 35 [.ptr 0 0, vstr x] [.abs (bldQ 57 5 s)] (.tup [(false, [.u (cI (x.size : Int))]), (false, [.dead])]) [.abs (bldQ 57 5 (s ++ x))] :=
  bldWrite_con Tryd.lays166 Tryd.extra166 rfl rfl rfl (enters_of Tryd.func35 (by kernel_rfl) rfl) h
theorem g_bldString_c {s : ByteArray} : Con Tryd.prog 36 [.ptr 0 0] [.abs (bldQ 57 5 s)] (vstr s) [.none] :=
  bldString_con Tryd.lays169 Tryd.extra169 rfl rfl rfl (enters_of Tryd.func36 (by kernel_rfl) rfl)
def g_itoa (n : Int) : Option ByteArray := ck (-9223372036854775808 ≤ n ∧ n ≤ 9223372036854775807) (some ⟨(itoa n).toArray⟩)
theorem g_itoa_c {a0 : Int} {r : ByteArray} (hF : g_itoa a0 = some r) : Con Tryd.prog 56 [vint .i64 a0] [] (vstr r) [] :=
  itoa_con (P := Tryd.prog) (fun {B w} (h : Glob.ok Tryd.prog B w) => h) Tryd.laysM171 rfl (enters_of Tryd.func56 (by kernel_rfl) rfl) (ckE hF).1 (ckE hF).2
end Go.Proofs.PanL

/-! Printed by wip/tools/walk.py. -/
namespace Go.Proofs.PanL
open Go.Vs
set_option maxRecDepth 8000
def i_lineOf (a0 : PanEvent) (a1 : lineKind) : Option (ByteArray × Bool) :=
  ck ((a1.fields.size : Int) ≤ 4611686018427387904) (loopN (fun i1 (v54 : ByteArray × PanEvent) κ55 => jn (fun (v57 : Int) => (i_in v57 0 99999).bind (fun y58 => cond (!y58) (some ((⟨#[]⟩ : ByteArray), false)) (jn (fun (v60 : PanEvent) => (g_itoa v57).bind (fun y61 => ck ((⟨#[32]⟩ : ByteArray).size + y61.size ≤ 9223372036854775807) (ck (v54.1.size + ((⟨#[32]⟩ : ByteArray) ++ y61).size ≤ 9223372036854775807) (κ55 ((v54.1 ++ ((⟨#[32]⟩ : ByteArray) ++ y61)), v60))))) (fun j62 => ixs a1.fields ((i1 : Nat) : Int) (fun y63 => cond (decide (y63 = 99)) (j62 ({ Kind := v54.2.Kind, Server := v54.2.Server, Other := v54.2.Other, Client := v57, Word := v54.2.Word, Keep := v54.2.Keep, Range := v54.2.Range, Op := v54.2.Op, Disk := v54.2.Disk, Block := v54.2.Block, Epoch := v54.2.Epoch, Data := v54.2.Data } : PanEvent)) (cond (decide (y63 = 111)) (j62 ({ Kind := v54.2.Kind, Server := v54.2.Server, Other := v54.2.Other, Client := v54.2.Client, Word := v54.2.Word, Keep := v54.2.Keep, Range := v54.2.Range, Op := v57, Disk := v54.2.Disk, Block := v54.2.Block, Epoch := v54.2.Epoch, Data := v54.2.Data } : PanEvent)) (cond (decide (y63 = 112)) (j62 ({ Kind := v54.2.Kind, Server := v54.2.Server, Other := v54.2.Other, Client := v54.2.Client, Word := v54.2.Word, Keep := v54.2.Keep, Range := v54.2.Range, Op := v54.2.Op, Disk := v57, Block := v54.2.Block, Epoch := v54.2.Epoch, Data := v54.2.Data } : PanEvent)) (cond (decide (y63 = 98)) (j62 ({ Kind := v54.2.Kind, Server := v54.2.Server, Other := v54.2.Other, Client := v54.2.Client, Word := v54.2.Word, Keep := v54.2.Keep, Range := v54.2.Range, Op := v54.2.Op, Disk := v54.2.Disk, Block := v57, Epoch := v54.2.Epoch, Data := v54.2.Data } : PanEvent)) (cond (decide (y63 = 101)) (j62 ({ Kind := v54.2.Kind, Server := v54.2.Server, Other := v54.2.Other, Client := v54.2.Client, Word := v54.2.Word, Keep := v54.2.Keep, Range := v54.2.Range, Op := v54.2.Op, Disk := v54.2.Disk, Block := v54.2.Block, Epoch := v57, Data := v54.2.Data } : PanEvent)) (cond (decide (y63 = 100)) (j62 ({ Kind := v54.2.Kind, Server := v54.2.Server, Other := v54.2.Other, Client := v54.2.Client, Word := v54.2.Word, Keep := v54.2.Keep, Range := v54.2.Range, Op := v54.2.Op, Disk := v54.2.Disk, Block := v54.2.Block, Epoch := v54.2.Epoch, Data := v57 } : PanEvent)) (cond (decide (y63 = 115)) (j62 ({ Kind := v54.2.Kind, Server := v57, Other := v54.2.Other, Client := v54.2.Client, Word := v54.2.Word, Keep := v54.2.Keep, Range := v54.2.Range, Op := v54.2.Op, Disk := v54.2.Disk, Block := v54.2.Block, Epoch := v54.2.Epoch, Data := v54.2.Data } : PanEvent)) (cond (decide (y63 = 119)) (j62 ({ Kind := v54.2.Kind, Server := v54.2.Server, Other := v54.2.Other, Client := v54.2.Client, Word := v57, Keep := v54.2.Keep, Range := v54.2.Range, Op := v54.2.Op, Disk := v54.2.Disk, Block := v54.2.Block, Epoch := v54.2.Epoch, Data := v54.2.Data } : PanEvent)) (cond (decide (y63 = 114)) (j62 ({ Kind := v54.2.Kind, Server := v54.2.Server, Other := v54.2.Other, Client := v54.2.Client, Word := v54.2.Word, Keep := v54.2.Keep, Range := v57, Op := v54.2.Op, Disk := v54.2.Disk, Block := v54.2.Block, Epoch := v54.2.Epoch, Data := v54.2.Data } : PanEvent)) (j62 ({ Kind := v54.2.Kind, Server := v54.2.Server, Other := v57, Client := v54.2.Client, Word := v54.2.Word, Keep := v54.2.Keep, Range := v54.2.Range, Op := v54.2.Op, Disk := v54.2.Disk, Block := v54.2.Block, Epoch := v54.2.Epoch, Data := v54.2.Data } : PanEvent))))))))))))))) (fun j73 => ixs a1.fields ((i1 : Nat) : Int) (fun y74 => cond (decide (y74 = 99)) (j73 a0.Client) (cond (decide (y74 = 111)) (j73 a0.Op) (cond (decide (y74 = 112)) (j73 a0.Disk) (cond (decide (y74 = 98)) (j73 a0.Block) (cond (decide (y74 = 101)) (j73 a0.Epoch) (cond (decide (y74 = 100)) (j73 a0.Data) (cond (decide (y74 = 115)) (j73 a0.Server) (cond (decide (y74 = 119)) (j73 a0.Word) (cond (decide (y74 = 114)) (j73 a0.Range) (j73 a0.Other)))))))))))) (fun (v54 : ByteArray × PanEvent) => some (v54.1, decide (v54.2 = a0))) ((a1.fields.size : Int).toNat) 0 (a1.word, ({ Kind := a1.kind, Server := 0, Other := 0, Client := 0, Word := 0, Keep := a1.keep, Range := 0, Op := 0, Disk := 0, Block := 0, Epoch := 0, Data := 0 } : PanEvent)))
theorem i_lineOf_c {a0 : PanEvent} {a1 : lineKind} {r : ByteArray × Bool} (hF : i_lineOf a0 a1 = some r) : Con Tryd.prog 33 [.val true (PanEvent.L a0), .val true (lineKind.L a1)] [] (.tup [(false, [.u (.str r.1)]), (false, [.u (.bool r.2)])]) [] := by
  refine Con.of_Dz tabOk Tryd.func33 rfl rfl rfl ?_
  delta i_lineOf at hF
  refine Dz.seq ?_
  refine Dz.reg ?_
  refine Dz.seq ?_
  refine Dz.reg ?_
  refine Dz.seq ?_
  refine Dz.reg ?_
  refine Dz.seq ?_
  refine Dz.seq ?_
  refine Dz.reg ?_
  refine Dz.blk ?_
  obtain ⟨hNi1, hF⟩ := ckE hF
  refine Dz.cnt hF (fun i1 v54 => ([(2, .ptr 0 0), (3, .ptr 1 0), (6, .ptr 2 0), (7, vstr v54.1), (8, vint .i64 ((i1 : Nat) : Int))], [.box 48 (PanEvent.L a0), .box 61 (lineKind.L a1), .box 48 (PanEvent.L v54.2)])) (entG [0, 1, 2] ⟨m_ptr rfl, m_ptr rfl, m_ptr rfl, m_val rfl, m_val rfl, trivial⟩ ⟨⟨rfl, o_box rfl⟩, ⟨rfl, o_box rfl⟩, ⟨rfl, o_box rfl⟩, trivial⟩ rfl) (fun v54 hF => ?_) (fun i1 v54 κ55 hi0i1 hi1i1 hF => ?_)
  · refine Dz.seq ?_
    refine Dz.seq ?_
    refine Dz.reg ?_
    refine Dz.ff (b := decide (((0 + (a1.fields.size : Int).toNat : Nat) : Int) < (a1.fields.size : Int))) rfl (decide_eq_false (by omega)) ?_
    refine Dz.exit ?_
    refine Dz.seq ?_
    refine Dz.drw 3 [⟨[47,48,49], [], 3, 3⟩, ⟨[46,48,4], [2], 3, 3⟩, ⟨[46,47,4], [0], 3, 3⟩, ⟨[46,4], [], 3, 3⟩, ⟨[47,48,49], [], 3, 3⟩, ⟨[], [], 3, 3⟩] ⟨by kernel_rfl, by kernel_rfl, rfl⟩ ?_
    refine ⟨decide (v54.2 = a0), PanEvent.eqd _ _, ?_⟩
    refine Dz.ret ?_
    cases hF
    exact finG [] [] rfl rfl ⟨⟨rfl, mls_same rfl⟩, ⟨rfl, mls_same rfl⟩, trivial⟩ trivial rfl
  · refine Dz.seq ?_
    refine Dz.seq ?_
    refine Dz.reg ?_
    refine Dz.tt (b := decide (((i1 : Nat) : Int) < (a1.fields.size : Int))) rfl (decide_eq_true (by omega)) ?_
    refine Dz.skip ?_
    refine Dz.seq ?_
    refine Dz.blk ?_
    refine Dz.jn hF (fun v57 => ([(2, .ptr 0 0), (3, .ptr 1 0), (6, .ptr 2 0), (7, vstr v54.1), (8, vint .i64 ((i1 : Nat) : Int)), (9, vint .i64 v57)], [.box 48 (PanEvent.L a0), .box 61 (lineKind.L a1), .box 48 (PanEvent.L v54.2)])) (fun v57 hF => ?_) (fun hF => ?_)
    · refine Dz.seq ?_
      refine Dz.seq ?_
      refine Dz.reg ?_
      refine bdE hF (fun y58 hy58 hF => ?_)
      refine callG [] (i_in_c hy58) ⟨m_val rfl, m_val rfl, m_val rfl, trivial⟩ trivial rfl ?_
      refine Dz.ite rfl hF (fun _ hF => ?_) (fun _ hF => ?_)
      · refine Dz.seq ?_
        refine Dz.reg ?_
        refine Dz.ret ?_
        cases hF
        exact finG [] [] rfl rfl ⟨⟨rfl, mls_same rfl⟩, ⟨rfl, mls_same rfl⟩, trivial⟩ trivial rfl
      · refine Dz.skip ?_
        refine Dz.jn hF (fun v60 => ([(2, .ptr 0 0), (3, .ptr 1 0), (6, .ptr 2 0), (7, vstr v54.1), (8, vint .i64 ((i1 : Nat) : Int)), (9, vint .i64 v57)], [.box 48 (PanEvent.L a0), .box 61 (lineKind.L a1), .box 48 (PanEvent.L v60)])) (fun v60 hF => ?_) (fun hF => ?_)
        · refine Dz.reg ?_
          refine bdE hF (fun y61 hy61 hF => ?_)
          refine callG [] (g_itoa_c hy61) ⟨m_val rfl, trivial⟩ trivial rfl ?_
          refine vck hF id (fun _ hF => ?_)
          refine vck hF id (fun _ hF => ?_)
          refine Dz.reg ?_
          refine vsucc (by omega) ?_
          exact ⟨((v54.1 ++ ((⟨#[32]⟩ : ByteArray) ++ y61)), v60), entG [0, 1, 2] ⟨m_ptr rfl, m_ptr rfl, m_ptr rfl, m_val rfl, m_val rfl, trivial⟩ ⟨⟨rfl, o_box rfl⟩, ⟨rfl, o_box rfl⟩, ⟨rfl, o_box rfl⟩, trivial⟩ rfl, hF⟩
        · refine Dz.reg ?_
          refine vixs hF (fun _ _ hF => ?_)
          refine vcase hF (fun hw64 hF => ?_) (fun hw64 hF => ?_)
          · refine callG [2] (i_field_w99 (a0 := v54.2)) ⟨m_ptr rfl, ⟨rfl, ⟨_, rfl, of_decide_eq_true hw64⟩, trivial⟩, trivial⟩ ⟨⟨rfl, o_box rfl⟩, trivial⟩ rfl ?_
            exact ⟨({ Kind := v54.2.Kind, Server := v54.2.Server, Other := v54.2.Other, Client := v57, Word := v54.2.Word, Keep := v54.2.Keep, Range := v54.2.Range, Op := v54.2.Op, Disk := v54.2.Disk, Block := v54.2.Block, Epoch := v54.2.Epoch, Data := v54.2.Data } : PanEvent), entG [0, 1, 2] ⟨m_ptr rfl, m_ptr rfl, m_ptr rfl, m_val rfl, m_val rfl, m_val rfl, trivial⟩ ⟨⟨rfl, o_box rfl⟩, ⟨rfl, o_box rfl⟩, ⟨rfl, o_box rfl⟩, trivial⟩ rfl, hF⟩
          · refine vcase hF (fun hw65 hF => ?_) (fun hw65 hF => ?_)
            · refine callG [2] (i_field_w111 (a0 := v54.2)) ⟨m_ptr rfl, ⟨rfl, ⟨_, rfl, of_decide_eq_true hw65⟩, trivial⟩, trivial⟩ ⟨⟨rfl, o_box rfl⟩, trivial⟩ rfl ?_
              exact ⟨({ Kind := v54.2.Kind, Server := v54.2.Server, Other := v54.2.Other, Client := v54.2.Client, Word := v54.2.Word, Keep := v54.2.Keep, Range := v54.2.Range, Op := v57, Disk := v54.2.Disk, Block := v54.2.Block, Epoch := v54.2.Epoch, Data := v54.2.Data } : PanEvent), entG [0, 1, 2] ⟨m_ptr rfl, m_ptr rfl, m_ptr rfl, m_val rfl, m_val rfl, m_val rfl, trivial⟩ ⟨⟨rfl, o_box rfl⟩, ⟨rfl, o_box rfl⟩, ⟨rfl, o_box rfl⟩, trivial⟩ rfl, hF⟩
            · refine vcase hF (fun hw66 hF => ?_) (fun hw66 hF => ?_)
              · refine callG [2] (i_field_w112 (a0 := v54.2)) ⟨m_ptr rfl, ⟨rfl, ⟨_, rfl, of_decide_eq_true hw66⟩, trivial⟩, trivial⟩ ⟨⟨rfl, o_box rfl⟩, trivial⟩ rfl ?_
                exact ⟨({ Kind := v54.2.Kind, Server := v54.2.Server, Other := v54.2.Other, Client := v54.2.Client, Word := v54.2.Word, Keep := v54.2.Keep, Range := v54.2.Range, Op := v54.2.Op, Disk := v57, Block := v54.2.Block, Epoch := v54.2.Epoch, Data := v54.2.Data } : PanEvent), entG [0, 1, 2] ⟨m_ptr rfl, m_ptr rfl, m_ptr rfl, m_val rfl, m_val rfl, m_val rfl, trivial⟩ ⟨⟨rfl, o_box rfl⟩, ⟨rfl, o_box rfl⟩, ⟨rfl, o_box rfl⟩, trivial⟩ rfl, hF⟩
              · refine vcase hF (fun hw67 hF => ?_) (fun hw67 hF => ?_)
                · refine callG [2] (i_field_w98 (a0 := v54.2)) ⟨m_ptr rfl, ⟨rfl, ⟨_, rfl, of_decide_eq_true hw67⟩, trivial⟩, trivial⟩ ⟨⟨rfl, o_box rfl⟩, trivial⟩ rfl ?_
                  exact ⟨({ Kind := v54.2.Kind, Server := v54.2.Server, Other := v54.2.Other, Client := v54.2.Client, Word := v54.2.Word, Keep := v54.2.Keep, Range := v54.2.Range, Op := v54.2.Op, Disk := v54.2.Disk, Block := v57, Epoch := v54.2.Epoch, Data := v54.2.Data } : PanEvent), entG [0, 1, 2] ⟨m_ptr rfl, m_ptr rfl, m_ptr rfl, m_val rfl, m_val rfl, m_val rfl, trivial⟩ ⟨⟨rfl, o_box rfl⟩, ⟨rfl, o_box rfl⟩, ⟨rfl, o_box rfl⟩, trivial⟩ rfl, hF⟩
                · refine vcase hF (fun hw68 hF => ?_) (fun hw68 hF => ?_)
                  · refine callG [2] (i_field_w101 (a0 := v54.2)) ⟨m_ptr rfl, ⟨rfl, ⟨_, rfl, of_decide_eq_true hw68⟩, trivial⟩, trivial⟩ ⟨⟨rfl, o_box rfl⟩, trivial⟩ rfl ?_
                    exact ⟨({ Kind := v54.2.Kind, Server := v54.2.Server, Other := v54.2.Other, Client := v54.2.Client, Word := v54.2.Word, Keep := v54.2.Keep, Range := v54.2.Range, Op := v54.2.Op, Disk := v54.2.Disk, Block := v54.2.Block, Epoch := v57, Data := v54.2.Data } : PanEvent), entG [0, 1, 2] ⟨m_ptr rfl, m_ptr rfl, m_ptr rfl, m_val rfl, m_val rfl, m_val rfl, trivial⟩ ⟨⟨rfl, o_box rfl⟩, ⟨rfl, o_box rfl⟩, ⟨rfl, o_box rfl⟩, trivial⟩ rfl, hF⟩
                  · refine vcase hF (fun hw69 hF => ?_) (fun hw69 hF => ?_)
                    · refine callG [2] (i_field_w100 (a0 := v54.2)) ⟨m_ptr rfl, ⟨rfl, ⟨_, rfl, of_decide_eq_true hw69⟩, trivial⟩, trivial⟩ ⟨⟨rfl, o_box rfl⟩, trivial⟩ rfl ?_
                      exact ⟨({ Kind := v54.2.Kind, Server := v54.2.Server, Other := v54.2.Other, Client := v54.2.Client, Word := v54.2.Word, Keep := v54.2.Keep, Range := v54.2.Range, Op := v54.2.Op, Disk := v54.2.Disk, Block := v54.2.Block, Epoch := v54.2.Epoch, Data := v57 } : PanEvent), entG [0, 1, 2] ⟨m_ptr rfl, m_ptr rfl, m_ptr rfl, m_val rfl, m_val rfl, m_val rfl, trivial⟩ ⟨⟨rfl, o_box rfl⟩, ⟨rfl, o_box rfl⟩, ⟨rfl, o_box rfl⟩, trivial⟩ rfl, hF⟩
                    · refine vcase hF (fun hw70 hF => ?_) (fun hw70 hF => ?_)
                      · refine callG [2] (i_field_w115 (a0 := v54.2)) ⟨m_ptr rfl, ⟨rfl, ⟨_, rfl, of_decide_eq_true hw70⟩, trivial⟩, trivial⟩ ⟨⟨rfl, o_box rfl⟩, trivial⟩ rfl ?_
                        exact ⟨({ Kind := v54.2.Kind, Server := v57, Other := v54.2.Other, Client := v54.2.Client, Word := v54.2.Word, Keep := v54.2.Keep, Range := v54.2.Range, Op := v54.2.Op, Disk := v54.2.Disk, Block := v54.2.Block, Epoch := v54.2.Epoch, Data := v54.2.Data } : PanEvent), entG [0, 1, 2] ⟨m_ptr rfl, m_ptr rfl, m_ptr rfl, m_val rfl, m_val rfl, m_val rfl, trivial⟩ ⟨⟨rfl, o_box rfl⟩, ⟨rfl, o_box rfl⟩, ⟨rfl, o_box rfl⟩, trivial⟩ rfl, hF⟩
                      · refine vcase hF (fun hw71 hF => ?_) (fun hw71 hF => ?_)
                        · refine callG [2] (i_field_w119 (a0 := v54.2)) ⟨m_ptr rfl, ⟨rfl, ⟨_, rfl, of_decide_eq_true hw71⟩, trivial⟩, trivial⟩ ⟨⟨rfl, o_box rfl⟩, trivial⟩ rfl ?_
                          exact ⟨({ Kind := v54.2.Kind, Server := v54.2.Server, Other := v54.2.Other, Client := v54.2.Client, Word := v57, Keep := v54.2.Keep, Range := v54.2.Range, Op := v54.2.Op, Disk := v54.2.Disk, Block := v54.2.Block, Epoch := v54.2.Epoch, Data := v54.2.Data } : PanEvent), entG [0, 1, 2] ⟨m_ptr rfl, m_ptr rfl, m_ptr rfl, m_val rfl, m_val rfl, m_val rfl, trivial⟩ ⟨⟨rfl, o_box rfl⟩, ⟨rfl, o_box rfl⟩, ⟨rfl, o_box rfl⟩, trivial⟩ rfl, hF⟩
                        · refine vcase hF (fun hw72 hF => ?_) (fun hw72 hF => ?_)
                          · refine callG [2] (i_field_w114 (a0 := v54.2)) ⟨m_ptr rfl, ⟨rfl, ⟨_, rfl, of_decide_eq_true hw72⟩, trivial⟩, trivial⟩ ⟨⟨rfl, o_box rfl⟩, trivial⟩ rfl ?_
                            exact ⟨({ Kind := v54.2.Kind, Server := v54.2.Server, Other := v54.2.Other, Client := v54.2.Client, Word := v54.2.Word, Keep := v54.2.Keep, Range := v57, Op := v54.2.Op, Disk := v54.2.Disk, Block := v54.2.Block, Epoch := v54.2.Epoch, Data := v54.2.Data } : PanEvent), entG [0, 1, 2] ⟨m_ptr rfl, m_ptr rfl, m_ptr rfl, m_val rfl, m_val rfl, m_val rfl, trivial⟩ ⟨⟨rfl, o_box rfl⟩, ⟨rfl, o_box rfl⟩, ⟨rfl, o_box rfl⟩, trivial⟩ rfl, hF⟩
                          · refine callG [2] (i_field_wd (a0 := v54.2) (of_decide_eq_false hw64) (of_decide_eq_false hw65) (of_decide_eq_false hw66) (of_decide_eq_false hw67) (of_decide_eq_false hw68) (of_decide_eq_false hw69) (of_decide_eq_false hw70) (of_decide_eq_false hw71) (of_decide_eq_false hw72)) ⟨m_ptr rfl, m_val rfl, trivial⟩ ⟨⟨rfl, o_box rfl⟩, trivial⟩ rfl ?_
                            exact ⟨({ Kind := v54.2.Kind, Server := v54.2.Server, Other := v57, Client := v54.2.Client, Word := v54.2.Word, Keep := v54.2.Keep, Range := v54.2.Range, Op := v54.2.Op, Disk := v54.2.Disk, Block := v54.2.Block, Epoch := v54.2.Epoch, Data := v54.2.Data } : PanEvent), entG [0, 1, 2] ⟨m_ptr rfl, m_ptr rfl, m_ptr rfl, m_val rfl, m_val rfl, m_val rfl, trivial⟩ ⟨⟨rfl, o_box rfl⟩, ⟨rfl, o_box rfl⟩, ⟨rfl, o_box rfl⟩, trivial⟩ rfl, hF⟩
    · refine Dz.reg ?_
      refine vixs hF (fun _ _ hF => ?_)
      refine vcase hF (fun hw75 hF => ?_) (fun hw75 hF => ?_)
      · refine callG [0] (i_field_w99 (a0 := a0)) ⟨m_ptr rfl, ⟨rfl, ⟨_, rfl, of_decide_eq_true hw75⟩, trivial⟩, trivial⟩ ⟨⟨rfl, o_box rfl⟩, trivial⟩ rfl ?_
        exact ⟨a0.Client, entG [0, 1, 2] ⟨m_ptr rfl, m_ptr rfl, m_ptr rfl, m_val rfl, m_val rfl, m_val rfl, trivial⟩ ⟨⟨rfl, o_box rfl⟩, ⟨rfl, o_box rfl⟩, ⟨rfl, o_box rfl⟩, trivial⟩ rfl, hF⟩
      · refine vcase hF (fun hw76 hF => ?_) (fun hw76 hF => ?_)
        · refine callG [0] (i_field_w111 (a0 := a0)) ⟨m_ptr rfl, ⟨rfl, ⟨_, rfl, of_decide_eq_true hw76⟩, trivial⟩, trivial⟩ ⟨⟨rfl, o_box rfl⟩, trivial⟩ rfl ?_
          exact ⟨a0.Op, entG [0, 1, 2] ⟨m_ptr rfl, m_ptr rfl, m_ptr rfl, m_val rfl, m_val rfl, m_val rfl, trivial⟩ ⟨⟨rfl, o_box rfl⟩, ⟨rfl, o_box rfl⟩, ⟨rfl, o_box rfl⟩, trivial⟩ rfl, hF⟩
        · refine vcase hF (fun hw77 hF => ?_) (fun hw77 hF => ?_)
          · refine callG [0] (i_field_w112 (a0 := a0)) ⟨m_ptr rfl, ⟨rfl, ⟨_, rfl, of_decide_eq_true hw77⟩, trivial⟩, trivial⟩ ⟨⟨rfl, o_box rfl⟩, trivial⟩ rfl ?_
            exact ⟨a0.Disk, entG [0, 1, 2] ⟨m_ptr rfl, m_ptr rfl, m_ptr rfl, m_val rfl, m_val rfl, m_val rfl, trivial⟩ ⟨⟨rfl, o_box rfl⟩, ⟨rfl, o_box rfl⟩, ⟨rfl, o_box rfl⟩, trivial⟩ rfl, hF⟩
          · refine vcase hF (fun hw78 hF => ?_) (fun hw78 hF => ?_)
            · refine callG [0] (i_field_w98 (a0 := a0)) ⟨m_ptr rfl, ⟨rfl, ⟨_, rfl, of_decide_eq_true hw78⟩, trivial⟩, trivial⟩ ⟨⟨rfl, o_box rfl⟩, trivial⟩ rfl ?_
              exact ⟨a0.Block, entG [0, 1, 2] ⟨m_ptr rfl, m_ptr rfl, m_ptr rfl, m_val rfl, m_val rfl, m_val rfl, trivial⟩ ⟨⟨rfl, o_box rfl⟩, ⟨rfl, o_box rfl⟩, ⟨rfl, o_box rfl⟩, trivial⟩ rfl, hF⟩
            · refine vcase hF (fun hw79 hF => ?_) (fun hw79 hF => ?_)
              · refine callG [0] (i_field_w101 (a0 := a0)) ⟨m_ptr rfl, ⟨rfl, ⟨_, rfl, of_decide_eq_true hw79⟩, trivial⟩, trivial⟩ ⟨⟨rfl, o_box rfl⟩, trivial⟩ rfl ?_
                exact ⟨a0.Epoch, entG [0, 1, 2] ⟨m_ptr rfl, m_ptr rfl, m_ptr rfl, m_val rfl, m_val rfl, m_val rfl, trivial⟩ ⟨⟨rfl, o_box rfl⟩, ⟨rfl, o_box rfl⟩, ⟨rfl, o_box rfl⟩, trivial⟩ rfl, hF⟩
              · refine vcase hF (fun hw80 hF => ?_) (fun hw80 hF => ?_)
                · refine callG [0] (i_field_w100 (a0 := a0)) ⟨m_ptr rfl, ⟨rfl, ⟨_, rfl, of_decide_eq_true hw80⟩, trivial⟩, trivial⟩ ⟨⟨rfl, o_box rfl⟩, trivial⟩ rfl ?_
                  exact ⟨a0.Data, entG [0, 1, 2] ⟨m_ptr rfl, m_ptr rfl, m_ptr rfl, m_val rfl, m_val rfl, m_val rfl, trivial⟩ ⟨⟨rfl, o_box rfl⟩, ⟨rfl, o_box rfl⟩, ⟨rfl, o_box rfl⟩, trivial⟩ rfl, hF⟩
                · refine vcase hF (fun hw81 hF => ?_) (fun hw81 hF => ?_)
                  · refine callG [0] (i_field_w115 (a0 := a0)) ⟨m_ptr rfl, ⟨rfl, ⟨_, rfl, of_decide_eq_true hw81⟩, trivial⟩, trivial⟩ ⟨⟨rfl, o_box rfl⟩, trivial⟩ rfl ?_
                    exact ⟨a0.Server, entG [0, 1, 2] ⟨m_ptr rfl, m_ptr rfl, m_ptr rfl, m_val rfl, m_val rfl, m_val rfl, trivial⟩ ⟨⟨rfl, o_box rfl⟩, ⟨rfl, o_box rfl⟩, ⟨rfl, o_box rfl⟩, trivial⟩ rfl, hF⟩
                  · refine vcase hF (fun hw82 hF => ?_) (fun hw82 hF => ?_)
                    · refine callG [0] (i_field_w119 (a0 := a0)) ⟨m_ptr rfl, ⟨rfl, ⟨_, rfl, of_decide_eq_true hw82⟩, trivial⟩, trivial⟩ ⟨⟨rfl, o_box rfl⟩, trivial⟩ rfl ?_
                      exact ⟨a0.Word, entG [0, 1, 2] ⟨m_ptr rfl, m_ptr rfl, m_ptr rfl, m_val rfl, m_val rfl, m_val rfl, trivial⟩ ⟨⟨rfl, o_box rfl⟩, ⟨rfl, o_box rfl⟩, ⟨rfl, o_box rfl⟩, trivial⟩ rfl, hF⟩
                    · refine vcase hF (fun hw83 hF => ?_) (fun hw83 hF => ?_)
                      · refine callG [0] (i_field_w114 (a0 := a0)) ⟨m_ptr rfl, ⟨rfl, ⟨_, rfl, of_decide_eq_true hw83⟩, trivial⟩, trivial⟩ ⟨⟨rfl, o_box rfl⟩, trivial⟩ rfl ?_
                        exact ⟨a0.Range, entG [0, 1, 2] ⟨m_ptr rfl, m_ptr rfl, m_ptr rfl, m_val rfl, m_val rfl, m_val rfl, trivial⟩ ⟨⟨rfl, o_box rfl⟩, ⟨rfl, o_box rfl⟩, ⟨rfl, o_box rfl⟩, trivial⟩ rfl, hF⟩
                      · refine callG [0] (i_field_wd (a0 := a0) (of_decide_eq_false hw75) (of_decide_eq_false hw76) (of_decide_eq_false hw77) (of_decide_eq_false hw78) (of_decide_eq_false hw79) (of_decide_eq_false hw80) (of_decide_eq_false hw81) (of_decide_eq_false hw82) (of_decide_eq_false hw83)) ⟨m_ptr rfl, m_val rfl, trivial⟩ ⟨⟨rfl, o_box rfl⟩, trivial⟩ rfl ?_
                        exact ⟨a0.Other, entG [0, 1, 2] ⟨m_ptr rfl, m_ptr rfl, m_ptr rfl, m_val rfl, m_val rfl, m_val rfl, trivial⟩ ⟨⟨rfl, o_box rfl⟩, ⟨rfl, o_box rfl⟩, ⟨rfl, o_box rfl⟩, trivial⟩ rfl, hF⟩
end Go.Proofs.PanL

/-! Printed by wip/tools/walk.py. -/
namespace Go.Proofs.PanL
open Go.Vs
set_option maxRecDepth 8000
def i_PanWrite (a0 : (List PanEvent)) : Option (ByteArray) :=
  loopN (fun i2 (v35 : ByteArray) κ36 => lt (a0.getD i2 default) (fun x37 => (i_lineKinds).bind (fun y38 => loopN (fun i40 (v47 : ByteArray) κ48 => lt (y38.getD i40 default) (fun x49 => (i_lineOf x37 x49).bind (fun y50 => cond y50.2 (κ48 y50.1) (κ48 v47)))) (fun (v47 : ByteArray) => cond (v47.toList == (⟨#[]⟩ : ByteArray).toList) (some (⟨#[]⟩ : ByteArray)) (cond (decide ((40000 : Int) < (v35.size : Int))) (some (⟨#[]⟩ : ByteArray)) (ck (v47.size + (⟨#[10]⟩ : ByteArray).size ≤ 9223372036854775807) (ck (v35.size + (v47 ++ (⟨#[10]⟩ : ByteArray)).size ≤ 140737488355328) (κ36 (v35 ++ (v47 ++ (⟨#[10]⟩ : ByteArray)))))))) y38.length 0 (⟨#[]⟩ : ByteArray)))) (fun (v35 : ByteArray) => cond (decide ((40000 : Int) < (v35.size : Int))) (some (⟨#[]⟩ : ByteArray)) (some v35)) a0.length 0 ByteArray.empty
theorem i_PanWrite_c {t0_0 : Bool} {a0 : (List PanEvent)} {r : ByteArray} (hF : i_PanWrite a0 = some r) : Con Tryd.prog 10 [.val false [.u (ul PanEvent.c 12 t0_0 a0)]] [] (vstr r) [] := by
  refine Con.of_Dz tabOk Tryd.func10 rfl rfl rfl ?_
  delta i_PanWrite at hF
  refine Dz.seq ?_
  refine Dz.reg ?_
  refine Dz.seq ?_
  refine Dz.reg ?_
  refine ⟨rfl, ?_⟩
  refine Dz.seq ?_
  refine Dz.seq ?_
  refine Dz.reg ?_
  intro hb1; replace hb1 : a0.length ≤ 140737488355328 := hb1
  refine Dz.blk ?_
  refine Dz.cnt hF (fun i2 v35 => ([(3, .ptr 0 0), (11, .val false [.u (ul PanEvent.c 12 t0_0 a0)]), (12, vint .i64 ((a0.length : Nat) : Int)), (13, vint .i64 ((i2 : Nat) : Int))], [.abs (bldQ 57 5 v35)])) (entG [0] ⟨m_ptr rfl, m_val rfl, m_val rfl, m_val rfl, trivial⟩ ⟨⟨rfl, rfl⟩, trivial⟩ rfl) (fun v35 hF => ?_) (fun i2 v35 κ36 hi0i2 hi1i2 hF => ?_)
  · refine Dz.seq ?_
    refine Dz.reg ?_
    refine Dz.seq ?_
    refine Dz.ff (b := decide (((0 + a0.length : Nat) : Int) < ((a0.length : Nat) : Int))) rfl (decide_eq_false (by omega)) ?_
    refine Dz.exit ?_
    refine Dz.seq ?_
    refine Dz.seq ?_
    refine Dz.reg ?_
    refine callG [0] g_bldLen_c ⟨m_ptr rfl, trivial⟩ ⟨⟨rfl, rfl⟩, trivial⟩ rfl ?_
    refine Dz.ite rfl hF (fun _ hF => ?_) (fun _ hF => ?_)
    · refine Dz.seq ?_
      refine Dz.reg ?_
      refine Dz.ret ?_
      cases hF
      exact finG [] [] rfl rfl (m_val rfl) trivial rfl
    · refine Dz.skip ?_
      refine Dz.seq ?_
      refine Dz.reg ?_
      refine callG [0] g_bldString_c ⟨m_ptr rfl, trivial⟩ ⟨⟨rfl, rfl⟩, trivial⟩ rfl ?_
      refine Dz.ret ?_
      cases hF
      exact finG [] [] rfl rfl (m_val rfl) trivial rfl
  · refine Dz.seq ?_
    refine Dz.reg ?_
    refine Dz.seq ?_
    refine Dz.tt (b := decide (((i2 : Nat) : Int) < ((a0.length : Nat) : Int))) rfl (decide_eq_true (by omega)) ?_
    refine Dz.skip ?_
    refine Dz.seq ?_
    refine Dz.blk ?_
    refine Dz.seq ?_
    refine Dz.reg ?_
    refine vge (n := ((i2 : Nat) : Int)) (hi := (a0.length : Int)) (by omega) (by omega) ?_
    have hF := ltE hF
    refine Dz.seq ?_
    refine Dz.reg ?_
    refine Dz.seq ?_
    refine Dz.seq ?_
    refine Dz.reg ?_
    refine bdE hF (fun y38 hy38 hF => ?_)
    refine callG [] (i_lineKinds_c hy38) trivial trivial rfl ?_
    intro hb39; replace hb39 : y38.length ≤ 140737488355328 := hb39
    refine Dz.blk ?_
    refine Dz.cnt hF (fun i40 v47 => ([(3, .ptr 0 0), (5, .ptr 1 0), (6, vstr v47), (11, .val false [.u (ul PanEvent.c 12 t0_0 a0)]), (12, vint .i64 ((a0.length : Nat) : Int)), (13, vint .i64 ((i2 : Nat) : Int)), (17, .val false [.row 2]), (18, vint .i64 ((y38.length : Nat) : Int)), (19, vint .i64 ((i40 : Nat) : Int))], [.abs (bldQ 57 5 v35), .box 48 (PanEvent.L (a0.getD i2 default)), .row 61 y38.length 4 (gl lineKind.c y38)])) (entG [0, 1, 2] ⟨m_ptr rfl, m_ptr rfl, m_val rfl, m_val rfl, m_val rfl, m_val rfl, ⟨rfl, rfl, trivial⟩, m_val rfl, m_val rfl, trivial⟩ ⟨⟨rfl, rfl⟩, ⟨rfl, o_box rfl⟩, ⟨rfl, o_row⟩, trivial⟩ rfl) (fun v47 hF => ?_) (fun i40 v47 κ48 hi0i40 hi1i40 hF => ?_)
    · refine Dz.seq ?_
      refine Dz.reg ?_
      refine Dz.seq ?_
      refine Dz.ff (b := decide (((0 + y38.length : Nat) : Int) < ((y38.length : Nat) : Int))) rfl (decide_eq_false (by omega)) ?_
      refine Dz.exit ?_
      refine Dz.seq ?_
      refine Dz.seq ?_
      refine Dz.reg ?_
      refine vif hF (fun _ hF => ?_) (fun _ hF => ?_)
      · refine Dz.tt (b := true) rfl rfl ?_
        refine Dz.seq ?_
        refine Dz.reg ?_
        refine Dz.ret ?_
        cases hF
        exact finG [] [] rfl rfl (m_val rfl) trivial rfl
      · refine callG [0] g_bldLen_c ⟨m_ptr rfl, trivial⟩ ⟨⟨rfl, rfl⟩, trivial⟩ rfl ?_
        refine Dz.ite rfl hF (fun _ hF => ?_) (fun _ hF => ?_)
        · refine Dz.seq ?_
          refine Dz.reg ?_
          refine Dz.ret ?_
          cases hF
          exact finG [] [] rfl rfl (m_val rfl) trivial rfl
        · refine Dz.skip ?_
          refine Dz.reg ?_
          refine vck hF id (fun _ hF => ?_)
          obtain ⟨hk51, hF⟩ := ckE hF
          refine callG [0] (g_bldWrite_c hk51) ⟨m_ptr rfl, m_val rfl, trivial⟩ ⟨⟨rfl, rfl⟩, trivial⟩ rfl ?_
          refine Dz.reg ?_
          refine vsucc (by omega) ?_
          exact ⟨(v35 ++ (v47 ++ (⟨#[10]⟩ : ByteArray))), entG [0] ⟨m_ptr rfl, m_val rfl, m_val rfl, m_val rfl, trivial⟩ ⟨⟨rfl, rfl⟩, trivial⟩ rfl, hF⟩
    · refine Dz.seq ?_
      refine Dz.reg ?_
      refine Dz.seq ?_
      refine Dz.tt (b := decide (((i40 : Nat) : Int) < ((y38.length : Nat) : Int))) rfl (decide_eq_true (by omega)) ?_
      refine Dz.skip ?_
      refine Dz.seq ?_
      refine Dz.blk ?_
      refine Dz.seq ?_
      refine Dz.reg ?_
      refine vge (n := ((i40 : Nat) : Int)) (hi := (y38.length : Int)) (by omega) (by omega) ?_
      have hF := ltE hF
      refine Dz.seq ?_
      refine Dz.reg ?_
      refine bdE hF (fun y50 hy50 hF => ?_)
      refine callG [] (i_lineOf_c hy50) ⟨m_val rfl, m_val rfl, trivial⟩ trivial rfl ?_
      refine Dz.seq ?_
      refine Dz.reg ?_
      refine Dz.ite rfl hF (fun _ hF => ?_) (fun _ hF => ?_)
      · refine Dz.reg ?_
        refine Dz.reg ?_
        refine vsucc (by omega) ?_
        exact ⟨y50.1, entG [0, 1, 2] ⟨m_ptr rfl, m_ptr rfl, m_val rfl, m_val rfl, m_val rfl, m_val rfl, ⟨rfl, rfl, trivial⟩, m_val rfl, m_val rfl, trivial⟩ ⟨⟨rfl, rfl⟩, ⟨rfl, o_box rfl⟩, ⟨rfl, o_row⟩, trivial⟩ rfl, hF⟩
      · refine Dz.skip ?_
        refine Dz.reg ?_
        refine vsucc (by omega) ?_
        exact ⟨v47, entG [0, 1, 2] ⟨m_ptr rfl, m_ptr rfl, m_val rfl, m_val rfl, m_val rfl, m_val rfl, ⟨rfl, rfl, trivial⟩, m_val rfl, m_val rfl, trivial⟩ ⟨⟨rfl, rfl⟩, ⟨rfl, o_box rfl⟩, ⟨rfl, o_row⟩, trivial⟩ rfl, hF⟩
end Go.Proofs.PanL

/-! Printed by wip/tools/walk.py. -/
namespace Go.Proofs.PanL
open Go.Vs
set_option maxRecDepth 8000
def l_eqPanEvent (a0 : PanEvent) (a1 : PanEvent) : Option (Bool) :=
  cond (!decide (a0.Kind = a1.Kind)) (some false) (cond (!decide (a0.Server = a1.Server)) (some false) (cond (!decide (a0.Other = a1.Other)) (some false) (cond (!decide (a0.Client = a1.Client)) (some false) (cond (!decide (a0.Word = a1.Word)) (some false) (cond (!(a0.Keep == a1.Keep)) (some false) (cond (!decide (a0.Range = a1.Range)) (some false) (cond (!decide (a0.Op = a1.Op)) (some false) (cond (!decide (a0.Disk = a1.Disk)) (some false) (cond (!decide (a0.Block = a1.Block)) (some false) (cond (!decide (a0.Epoch = a1.Epoch)) (some false) (cond (!decide (a0.Data = a1.Data)) (some false) (some true))))))))))))
theorem l_eqPanEvent_c {a0 : PanEvent} {a1 : PanEvent} {r : Bool} (hF : l_eqPanEvent a0 a1 = some r) : Con Tryd.prog 37 [.val true (PanEvent.L a0), .val true (PanEvent.L a1)] [] (vbool r) [] := by
  refine Con.of_Dz tabOk Tryd.func37 rfl rfl rfl ?_
  delta l_eqPanEvent at hF
  refine Dz.seq ?_
  refine Dz.reg ?_
  refine Dz.seq ?_
  refine Dz.seq ?_
  refine Dz.reg ?_
  refine Dz.ite rfl hF (fun _ hF => ?_) (fun _ hF => ?_)
  · refine Dz.seq ?_
    refine Dz.reg ?_
    refine Dz.ret ?_
    cases hF
    exact finG [] [] rfl rfl (m_val rfl) trivial rfl
  · refine Dz.skip ?_
    refine Dz.seq ?_
    refine Dz.seq ?_
    refine Dz.reg ?_
    refine Dz.ite rfl hF (fun _ hF => ?_) (fun _ hF => ?_)
    · refine Dz.seq ?_
      refine Dz.reg ?_
      refine Dz.ret ?_
      cases hF
      exact finG [] [] rfl rfl (m_val rfl) trivial rfl
    · refine Dz.skip ?_
      refine Dz.seq ?_
      refine Dz.seq ?_
      refine Dz.reg ?_
      refine Dz.ite rfl hF (fun _ hF => ?_) (fun _ hF => ?_)
      · refine Dz.seq ?_
        refine Dz.reg ?_
        refine Dz.ret ?_
        cases hF
        exact finG [] [] rfl rfl (m_val rfl) trivial rfl
      · refine Dz.skip ?_
        refine Dz.seq ?_
        refine Dz.seq ?_
        refine Dz.reg ?_
        refine Dz.ite rfl hF (fun _ hF => ?_) (fun _ hF => ?_)
        · refine Dz.seq ?_
          refine Dz.reg ?_
          refine Dz.ret ?_
          cases hF
          exact finG [] [] rfl rfl (m_val rfl) trivial rfl
        · refine Dz.skip ?_
          refine Dz.seq ?_
          refine Dz.seq ?_
          refine Dz.reg ?_
          refine Dz.ite rfl hF (fun _ hF => ?_) (fun _ hF => ?_)
          · refine Dz.seq ?_
            refine Dz.reg ?_
            refine Dz.ret ?_
            cases hF
            exact finG [] [] rfl rfl (m_val rfl) trivial rfl
          · refine Dz.skip ?_
            refine Dz.seq ?_
            refine Dz.seq ?_
            refine Dz.reg ?_
            refine Dz.ite rfl hF (fun _ hF => ?_) (fun _ hF => ?_)
            · refine Dz.seq ?_
              refine Dz.reg ?_
              refine Dz.ret ?_
              cases hF
              exact finG [] [] rfl rfl (m_val rfl) trivial rfl
            · refine Dz.skip ?_
              refine Dz.seq ?_
              refine Dz.seq ?_
              refine Dz.reg ?_
              refine Dz.ite rfl hF (fun _ hF => ?_) (fun _ hF => ?_)
              · refine Dz.seq ?_
                refine Dz.reg ?_
                refine Dz.ret ?_
                cases hF
                exact finG [] [] rfl rfl (m_val rfl) trivial rfl
              · refine Dz.skip ?_
                refine Dz.seq ?_
                refine Dz.seq ?_
                refine Dz.ent (x := ([(2, .ptr 0 0), (3, .ptr 1 0)], [.box 48 (PanEvent.L a0), .box 48 (PanEvent.L a1)])) (entG [0, 1] ⟨m_ptr rfl, m_ptr rfl, trivial⟩ ⟨⟨rfl, o_box rfl⟩, ⟨rfl, o_box rfl⟩, trivial⟩ rfl) ?_
                refine Dz.reg ?_
                refine Dz.ite rfl hF (fun _ hF => ?_) (fun _ hF => ?_)
                · refine Dz.seq ?_
                  refine Dz.reg ?_
                  refine Dz.ret ?_
                  cases hF
                  exact finG [] [] rfl rfl (m_val rfl) trivial rfl
                · refine Dz.skip ?_
                  refine Dz.seq ?_
                  refine Dz.seq ?_
                  refine Dz.reg ?_
                  refine Dz.ite rfl hF (fun _ hF => ?_) (fun _ hF => ?_)
                  · refine Dz.seq ?_
                    refine Dz.reg ?_
                    refine Dz.ret ?_
                    cases hF
                    exact finG [] [] rfl rfl (m_val rfl) trivial rfl
                  · refine Dz.skip ?_
                    refine Dz.seq ?_
                    refine Dz.seq ?_
                    refine Dz.reg ?_
                    refine Dz.ite rfl hF (fun _ hF => ?_) (fun _ hF => ?_)
                    · refine Dz.seq ?_
                      refine Dz.reg ?_
                      refine Dz.ret ?_
                      cases hF
                      exact finG [] [] rfl rfl (m_val rfl) trivial rfl
                    · refine Dz.skip ?_
                      refine Dz.seq ?_
                      refine Dz.seq ?_
                      refine Dz.reg ?_
                      refine Dz.ite rfl hF (fun _ hF => ?_) (fun _ hF => ?_)
                      · refine Dz.seq ?_
                        refine Dz.reg ?_
                        refine Dz.ret ?_
                        cases hF
                        exact finG [] [] rfl rfl (m_val rfl) trivial rfl
                      · refine Dz.skip ?_
                        refine Dz.seq ?_
                        refine Dz.seq ?_
                        refine Dz.reg ?_
                        refine Dz.ite rfl hF (fun _ hF => ?_) (fun _ hF => ?_)
                        · refine Dz.seq ?_
                          refine Dz.reg ?_
                          refine Dz.ret ?_
                          cases hF
                          exact finG [] [] rfl rfl (m_val rfl) trivial rfl
                        · refine Dz.skip ?_
                          refine Dz.seq ?_
                          refine Dz.reg ?_
                          refine Dz.ret ?_
                          cases hF
                          exact finG [] [] rfl rfl (m_val rfl) trivial rfl
end Go.Proofs.PanL

/-! Printed by wip/tools/walk.py. -/
namespace Go.Proofs.PanL
open Go.Vs
set_option maxRecDepth 8000
def l_eqPanEventS (a0 : (List PanEvent)) (a1 : (List PanEvent)) : Option (Bool) :=
  cond (!decide (((a0.length : Nat) : Int) = ((a1.length : Nat) : Int))) (some false) (loopN (fun i3 (v8 : Unit) κ9 => lt (a0.getD i3 default) (fun x11 => ix a1 ((i3 : Nat) : Int) (fun x12 => (l_eqPanEvent x11 x12).bind (fun y13 => cond (!y13) (some false) (κ9 ()))))) (fun (v8 : Unit) => some true) a0.length 0 ())
theorem l_eqPanEventS_c {t0_0 t1_0 : Bool} {a0 : (List PanEvent)} {a1 : (List PanEvent)} {r : Bool} (hF : l_eqPanEventS a0 a1 = some r) : Con Tryd.prog 11 [.val false [.u (ul PanEvent.c 12 t0_0 a0)], .val false [.u (ul PanEvent.c 12 t1_0 a1)]] [] (vbool r) [] := by
  refine Con.of_Dz tabOk Tryd.func11 rfl rfl rfl ?_
  delta l_eqPanEventS at hF
  refine Dz.seq ?_
  refine Dz.reg ?_
  refine Dz.seq ?_
  refine Dz.seq ?_
  refine Dz.reg ?_
  intro hb1; replace hb1 : a0.length ≤ 140737488355328 := hb1
  intro hb2; replace hb2 : a1.length ≤ 140737488355328 := hb2
  refine Dz.ite rfl hF (fun _ hF => ?_) (fun _ hF => ?_)
  · refine Dz.seq ?_
    refine Dz.reg ?_
    refine Dz.ret ?_
    cases hF
    exact finG [] [] rfl rfl (m_val rfl) trivial rfl
  · refine Dz.skip ?_
    refine Dz.seq ?_
    refine Dz.seq ?_
    refine Dz.reg ?_
    refine Dz.blk ?_
    refine Dz.cnt hF (fun i3 v8 => ([(0, .val false [.u (ul PanEvent.c 12 t0_0 a0)]), (1, .val false [.u (ul PanEvent.c 12 t1_0 a1)]), (5, vint .i64 ((i3 : Nat) : Int))], [])) (entG [] ⟨m_val rfl, m_val rfl, m_val rfl, trivial⟩ trivial rfl) (fun v8 hF => ?_) (fun i3 v8 κ9 hi0i3 hi1i3 hF => ?_)
    · refine Dz.seq ?_
      refine Dz.seq ?_
      refine Dz.reg ?_
      intro hb14; replace hb14 : a0.length ≤ 140737488355328 := hb14
      refine Dz.ff (b := decide (((0 + a0.length : Nat) : Int) < ((a0.length : Nat) : Int))) rfl (decide_eq_false (by omega)) ?_
      refine Dz.exit ?_
      refine Dz.seq ?_
      refine Dz.reg ?_
      refine Dz.ret ?_
      cases hF
      exact finG [] [] rfl rfl (m_val rfl) trivial rfl
    · refine Dz.seq ?_
      refine Dz.seq ?_
      refine Dz.reg ?_
      intro hb10; replace hb10 : a0.length ≤ 140737488355328 := hb10
      refine Dz.tt (b := decide (((i3 : Nat) : Int) < ((a0.length : Nat) : Int))) rfl (decide_eq_true (by omega)) ?_
      refine Dz.skip ?_
      refine Dz.seq ?_
      refine Dz.blk ?_
      refine Dz.seq ?_
      refine Dz.drw 0 [⟨[18,21,22,23,24], [], 0, 0⟩, ⟨[17,21,22,23,24], [], 0, 0⟩, ⟨[21,22,23,24], [], 0, 0⟩, ⟨[21,22,23,24], [], 0, 0⟩, ⟨[17,18,19,20,22], [], 0, 0⟩, ⟨[17,18,19,20,21], [], 0, 0⟩, ⟨[17,18,19,20], [], 0, 0⟩, ⟨[17,18,19,20], [], 0, 0⟩, ⟨[], [], 0, 0⟩, ⟨[], [], 0, 0⟩] ⟨by kernel_rfl, by kernel_rfl, rfl⟩ ?_
      refine vge (n := ((i3 : Nat) : Int)) (hi := (a0.length : Int)) (by omega) (by omega) ?_
      have hF := ltE hF
      refine vix hF (fun _ _ hF => ?_)
      refine bdE hF (fun y13 hy13 hF => ?_)
      refine callG [] (l_eqPanEvent_c hy13) ⟨m_val rfl, m_val rfl, trivial⟩ trivial rfl ?_
      refine Dz.ite rfl hF (fun _ hF => ?_) (fun _ hF => ?_)
      · refine Dz.seq ?_
        refine Dz.reg ?_
        refine Dz.ret ?_
        cases hF
        exact finG [] [] rfl rfl (m_val rfl) trivial rfl
      · refine Dz.skip ?_
        refine Dz.reg ?_
        refine vsucc (by omega) ?_
        exact ⟨(), entG [] ⟨m_val rfl, m_val rfl, m_val rfl, trivial⟩ trivial rfl, hF⟩
end Go.Proofs.PanL

/-! Printed by wip/tools/walk.py. -/
namespace Go.Proofs.PanL
open Go.Vs
set_option maxRecDepth 8000
def l_FnExactPanWrite (a0 : (List PanEvent)) : Option (Bool) :=
  (l_szPanEventS a0 1048576).bind (fun y1 => cond (decide (y1 < 0)) (some true) ((l_toPanEventS a0).bind (fun y2 => (s_PanWrite y2).bind (fun y3 => (l_toPanEventS a0).bind (fun y4 => (i_PanWrite y4).bind (fun y5 => cond (!(y5.toList == y3.toList)) (some false) ((l_toPanEventS a0).bind (fun y6 => (l_eqPanEventS y4 y6).bind (fun y7 => cond (!y7) (some false) (some true))))))))))
theorem l_FnExactPanWrite_c {t0_0 : Bool} {a0 : (List PanEvent)} {r : Bool} (hF : l_FnExactPanWrite a0 = some r) : Con Tryd.prog 3 [.val false [.u (ul PanEvent.c 12 t0_0 a0)]] [] (vbool r) [] := by
  refine Con.of_Dz tabOk Tryd.func3 rfl rfl rfl ?_
  delta l_FnExactPanWrite at hF
  refine Dz.seq ?_
  refine Dz.reg ?_
  refine Dz.seq ?_
  refine Dz.reg ?_
  refine Dz.seq ?_
  refine Dz.reg ?_
  refine bdE hF (fun y1 hy1 hF => ?_)
  refine callG [] (l_szPanEventS_c hy1) ⟨m_val rfl, m_val rfl, trivial⟩ trivial rfl ?_
  refine Dz.seq ?_
  refine Dz.seq ?_
  refine Dz.reg ?_
  refine Dz.ite rfl hF (fun _ hF => ?_) (fun _ hF => ?_)
  · refine Dz.seq ?_
    refine Dz.reg ?_
    refine Dz.ret ?_
    cases hF
    exact finG [] [] rfl rfl (m_val rfl) trivial rfl
  · refine Dz.skip ?_
    refine Dz.seq ?_
    refine Dz.reg ?_
    refine bdE hF (fun y2 hy2 hF => ?_)
    refine callG [] (l_toPanEventS_c hy2) ⟨m_val rfl, trivial⟩ trivial rfl ?_
    refine bdE hF (fun y3 hy3 hF => ?_)
    refine callL [] (s_PanWrite_c hy3) ⟨⟨rfl, ⟨rfl, rfl, LeU.refl _⟩, trivial⟩, trivial⟩ trivial rfl ⟨⟨trivial, trivial⟩, trivial⟩ ?_
    refine Dz.seq ?_
    refine Dz.reg ?_
    refine bdE hF (fun y4 hy4 hF => ?_)
    refine callG [] (l_toPanEventS_c hy4) ⟨m_val rfl, trivial⟩ trivial rfl ?_
    refine Dz.seq ?_
    refine Dz.reg ?_
    refine bdE hF (fun y5 hy5 hF => ?_)
    refine callL [] (i_PanWrite_c hy5) ⟨⟨rfl, ⟨rfl, rfl, LeU.refl _⟩, trivial⟩, trivial⟩ trivial rfl ⟨⟨trivial, trivial⟩, trivial⟩ ?_
    refine Dz.seq ?_
    refine Dz.seq ?_
    refine Dz.reg ?_
    refine Dz.ite rfl hF (fun _ hF => ?_) (fun _ hF => ?_)
    · refine Dz.seq ?_
      refine Dz.reg ?_
      refine Dz.ret ?_
      cases hF
      exact finG [] [] rfl rfl (m_val rfl) trivial rfl
    · refine Dz.skip ?_
      refine Dz.seq ?_
      refine Dz.seq ?_
      refine Dz.reg ?_
      refine bdE hF (fun y6 hy6 hF => ?_)
      refine callG [] (l_toPanEventS_c hy6) ⟨m_val rfl, trivial⟩ trivial rfl ?_
      refine bdE hF (fun y7 hy7 hF => ?_)
      refine callL [] (l_eqPanEventS_c hy7) ⟨⟨rfl, ⟨rfl, rfl, LeU.refl _⟩, trivial⟩, ⟨rfl, ⟨rfl, rfl, LeU.refl _⟩, trivial⟩, trivial⟩ trivial rfl ⟨⟨trivial, trivial⟩, trivial⟩ ?_
      refine Dz.ite rfl hF (fun _ hF => ?_) (fun _ hF => ?_)
      · refine Dz.seq ?_
        refine Dz.ent (x := ([], [])) (entG [] trivial trivial rfl) ?_
        refine Dz.reg ?_
        refine Dz.ret ?_
        cases hF
        exact finG [] [] rfl rfl (m_val rfl) trivial rfl
      · refine Dz.skip ?_
        refine Dz.seq ?_
        refine Dz.ent (x := ([], [])) (entG [] trivial trivial rfl) ?_
        refine Dz.reg ?_
        refine Dz.ret ?_
        cases hF
        exact finG [] [] rfl rfl (m_val rfl) trivial rfl
end Go.Proofs.PanL

/-! Plain laws: a line of a script. -/
namespace Go.Proofs.PanL
open Go.Vs
open Go.Lib (itoa decDigits)

theorem s_l6In_eq (a b c : Int) : s_l6In a b c = some (inB a b c) := inB_cond a b c
theorem i_in_eq (a b c : Int) : i_in a b c = some (inB a b c) := inB_cond a b c
def txt (n : Int) : ByteArray := ⟨(itoa n).toArray⟩

theorem s_l6Dec_nat (u : Nat) : u < 1000000 → ∀ k, u < k → s_l6Dec k (u : Int) = some ⟨(decDigits u).toArray⟩ := by
  induction u using Nat.strongRecOn with
  | _ u ih =>
    intro hu k hk
    obtain ⟨k, rfl⟩ : ∃ m, k = m + 1 := ⟨k - 1, by omega⟩
    show s_l6Dec_b (s_l6Dec k) (u : Int) = _
    unfold s_l6Dec_b
    rw [decide_eq_false (by omega), decide_eq_false (show ¬ ((u : Int) < 0) by omega)]
    simp only [cond_false]
    have hb : ∀ m : Nat, m < 10 → strOfNums ([(IntKind.wrap .u8 (w64 (48 + (m : Int))))] : List Int) = (⟨[UInt8.ofNat (48 + m)].toArray⟩ : ByteArray) := by
      intro m hm
      rw [w64_eq (by omega) (by omega), IntKind.wrap_u8]
      unfold strOfNums
      congr 2
      show [UInt8.ofNat _] = _
      congr 2
      omega
    rw [decDigits]
    by_cases h : u < 10
    · rw [decide_eq_true (by omega), dif_pos h, cond_true, hb u h]
    · rw [decide_eq_false (by omega), dif_neg h, cond_false]
      have hd : IntKind.wrap .i64 (Int.tdiv (u : Int) 10) = ((u / 10 : Nat) : Int) := by
        have h1 : Int.tdiv (u : Int) 10 = ((u / 10 : Nat) : Int) := rfl
        rw [h1]
        exact (wrap64 (by omega) (by omega)).symm
      have hm : Int.tmod (u : Int) 10 = ((u % 10 : Nat) : Int) := rfl
      rw [hd, hm, ih (u / 10) (by omega) (by omega) k (by omega), hb (u % 10) (by omega)]
      simp only [Option.bind_some]
      have hl : (decDigits (u / 10)).length ≤ 20 := by
        have h0 := Go.Lib.decDigits_length (u / 10)
        have h1 := Go.Lib.numDigits_eq
        rw [h0]
        rw [Go.Lib.nDigits]
        split
        · omega
        · rw [Go.Lib.nDigits]
          split
          · omega
          · rw [Go.Lib.nDigits]
            split
            · omega
            · rw [Go.Lib.nDigits]
              split
              · omega
              · rw [Go.Lib.nDigits]
                split
                · omega
                · omega
      rw [ck_pos (by
        show (decDigits (u / 10)).length + 1 ≤ _
        omega)]
      congr 1
theorem s_l6Dec_eq {n : Int} (h : 0 ≤ n ∧ n ≤ 99999) : s_l6Dec (n.natAbs + 2) n = some (txt n) := by
  obtain ⟨u, rfl⟩ : ∃ u : Nat, n = u := ⟨n.toNat, by omega⟩
  rw [s_l6Dec_nat u (by omega) _ (by omega)]
  unfold txt itoa
  rw [if_neg (by omega)]; rfl
theorem g_itoa_eq {n : Int} (h : 0 ≤ n ∧ n ≤ 99999) : g_itoa n = some (txt n) := by
  unfold g_itoa
  rw [ck_pos (by omega)]; rfl
theorem txt_size {n : Int} (h : 0 ≤ n ∧ n ≤ 99999) : 1 ≤ (txt n).size ∧ (txt n).size ≤ 21 := by
  have h1 := Go.Lib.itoa_length_le n (by omega) (by omega)
  have h2 : 0 < (itoa n).length := by
    unfold itoa
    rw [if_neg (by omega)]
    exact List.length_pos_iff.2 (dec_ne _)
  exact ⟨h2, h1⟩

/-! ### A line -/
def fieldG (e : PanEvent) (b : Int) : Int :=
  cond (decide (b = 99)) e.Client (cond (decide (b = 111)) e.Op (cond (decide (b = 112)) e.Disk (cond (decide (b = 98)) e.Block (cond (decide (b = 101)) e.Epoch (cond (decide (b = 100)) e.Data (cond (decide (b = 115)) e.Server (cond (decide (b = 119)) e.Word (cond (decide (b = 114)) e.Range e.Other))))))))
def fieldS (m : PanEvent) (b n : Int) : PanEvent :=
  cond (decide (b = 99)) { m with Client := n } (cond (decide (b = 111)) { m with Op := n } (cond (decide (b = 112)) { m with Disk := n } (cond (decide (b = 98)) { m with Block := n } (cond (decide (b = 101)) { m with Epoch := n } (cond (decide (b = 100)) { m with Data := n } (cond (decide (b = 115)) { m with Server := n } (cond (decide (b = 119)) { m with Word := n } (cond (decide (b = 114)) { m with Range := n } { m with Other := n }))))))))
theorem fieldS_keep (m : PanEvent) (b n : Int) : (fieldS m b n).Kind = m.Kind ∧ (fieldS m b n).Keep = m.Keep := by
  unfold fieldS
  cases decide (b = 99) <;> cases decide (b = 111) <;> cases decide (b = 112) <;> cases decide (b = 98) <;> cases decide (b = 101) <;> cases decide (b = 100) <;> cases decide (b = 115) <;> cases decide (b = 119) <;> cases decide (b = 114) <;> exact ⟨rfl, rfl⟩
def sp : ByteArray := ⟨#[32]⟩
def nl : ByteArray := ⟨#[10]⟩
def nums (e : PanEvent) (fs : List Int) : List Int := fs.map (fieldG e)
def inAll (ns : List Int) : Bool := ns.all fun n => inB n 0 99999
def addN (out : ByteArray) : List Int → ByteArray
  | [] => out
  | n :: r => addN (out ++ (sp ++ txt n)) r
def setN (m : PanEvent) : List Int → List Int → PanEvent
  | b :: bs, n :: ns => setN (fieldS m b n) bs ns
  | _, _ => m
theorem setN_keep : ∀ (bs ns : List Int) (m : PanEvent), (setN m bs ns).Kind = m.Kind ∧ (setN m bs ns).Keep = m.Keep
  | [], _, _ => by simp [setN]
  | _ :: _, [], _ => by simp [setN]
  | b :: bs, n :: ns, m => by
    have h1 := setN_keep bs ns (fieldS m b n)
    have h2 := fieldS_keep m b n
    simp only [setN]
    exact ⟨h1.1.trans h2.1, h1.2.trans h2.2⟩
def ev0 (k : Int) (b : Bool) : PanEvent := { Kind := k, Server := 0, Other := 0, Client := 0, Word := 0, Keep := b, Range := 0, Op := 0, Disk := 0, Block := 0, Epoch := 0, Data := 0 }
def bytesI (s : ByteArray) : List Int := (List.range s.size).map (byteAt s)

theorem ixs_pos {R : Type} {s : ByteArray} {i : Nat} {κ : Int → Option R} (h : i < s.size) : ixs s ((i : Nat) : Int) κ = κ (byteAt s i) := by
  unfold ixs
  rw [if_pos (by omega)]; rfl

theorem i_lineOf_eq (e : PanEvent) (x : lineKind) (hf : x.fields.size ≤ 6) (hw : x.word.size ≤ 20) :
    i_lineOf e x = some (cond (inAll (nums e (bytesI x.fields))) (addN x.word (nums e (bytesI x.fields)), decide (setN (ev0 x.kind x.keep) (bytesI x.fields) (nums e (bytesI x.fields)) = e)) (⟨#[]⟩, false)) := by
  unfold i_lineOf
  rw [ck_pos (by omega)]
  have key : ∀ (body : Nat → ByteArray × PanEvent → (ByteArray × PanEvent → Option (ByteArray × Bool)) → Option (ByteArray × Bool)) (after : ByteArray × PanEvent → Option (ByteArray × Bool)),
      (∀ i v κ, i < x.fields.size → v.1.size ≤ 20 + 22 * i → body i v κ = cond (inB (fieldG e (byteAt x.fields i)) 0 99999) (κ (v.1 ++ (sp ++ txt (fieldG e (byteAt x.fields i))), fieldS v.2 (byteAt x.fields i) (fieldG e (byteAt x.fields i)))) (some (⟨#[]⟩, false))) →
      (∀ v, after v = some (v.1, decide (v.2 = e))) → ∀ (d i : Nat) (v : ByteArray × PanEvent), i + d = x.fields.size → v.1.size ≤ 20 + 22 * i →
      loopN body after d i v = some (cond (inAll (nums e ((bytesI x.fields).drop i))) (addN v.1 (nums e ((bytesI x.fields).drop i)), decide (setN v.2 ((bytesI x.fields).drop i) (nums e ((bytesI x.fields).drop i)) = e)) (⟨#[]⟩, false)) := by
    intro body after hb ha d
    have hlen : (bytesI x.fields).length = x.fields.size := by simp [bytesI]
    induction d with
    | zero =>
      intro i v hi hv
      show after v = _
      rw [ha, List.drop_eq_nil_of_le (by omega)]
      simp [nums, inAll, addN, setN]
      exact decide_eq_decide.2 Iff.rfl
    | succ d ih =>
      intro i v hi hv
      show body i v (loopN body after d (i + 1)) = _
      rw [hb i v _ (by omega) hv]
      have hdrop : (bytesI x.fields).drop i = byteAt x.fields i :: (bytesI x.fields).drop (i + 1) := by
        rw [List.drop_eq_getElem_cons (by omega)]
        congr 1
        simp [bytesI]
      rw [hdrop]
      simp only [nums, List.map_cons, inAll, List.all_cons, addN, setN]
      cases hin : inB (fieldG e (byteAt x.fields i)) 0 99999 with
      | false => rfl
      | true =>
        simp only [cond_true, Bool.true_and]
        rw [ih (i + 1) _ (by omega) (by
          have := txt_size (inB_of hin)
          simp only [ByteArray.size_append]
          have : sp.size = 1 := rfl
          omega)]
        rfl
  refine (key _ _ ?_ ?_ x.fields.size 0 _ (by omega) (by simpa using hw)).trans ?_
  · intro i v κ hi hv
    simp only [jn_eq]
    rw [ixs_pos hi]
    have hn : ∀ n : Int, inB n 0 99999 = true → ∀ m, ((g_itoa n).bind fun y61 => ck ((⟨#[32]⟩ : ByteArray).size + y61.size ≤ 9223372036854775807) (ck (v.1.size + ((⟨#[32]⟩ : ByteArray) ++ y61).size ≤ 9223372036854775807) (κ ((v.1 ++ ((⟨#[32]⟩ : ByteArray) ++ y61)), m)))) = κ (v.1 ++ (sp ++ txt n), m) := by
      intro n hin m
      have h1 := txt_size (inB_of hin)
      rw [g_itoa_eq (inB_of hin)]
      simp only [Option.bind_some]
      have h2 : (⟨#[32]⟩ : ByteArray).size = 1 := rfl
      rw [ck_pos (by omega), ck_pos (by simp only [ByteArray.size_append]; omega)]
      rfl
    simp only [ixs_pos hi]
    unfold fieldG fieldS
    generalize byteAt x.fields i = b
    simp only [i_in_eq, Option.bind_some]
    have fin : ∀ (n : Int) (m : PanEvent), (cond (!inB n 0 99999) (some ((⟨#[]⟩ : ByteArray), false)) ((g_itoa n).bind fun y61 => ck ((⟨#[32]⟩ : ByteArray).size + y61.size ≤ 9223372036854775807) (ck (v.1.size + ((⟨#[32]⟩ : ByteArray) ++ y61).size ≤ 9223372036854775807) (κ ((v.1 ++ ((⟨#[32]⟩ : ByteArray) ++ y61)), m))))) =
        cond (inB n 0 99999) (κ (v.1 ++ (sp ++ txt n), m)) (some (⟨#[]⟩, false)) := by
      intro n m
      cases hin : inB n 0 99999 with
      | false => rfl
      | true => exact hn n hin m
    cases decide (b = 99)
    rotate_left
    · exact fin _ _
    cases decide (b = 111)
    rotate_left
    · exact fin _ _
    cases decide (b = 112)
    rotate_left
    · exact fin _ _
    cases decide (b = 98)
    rotate_left
    · exact fin _ _
    cases decide (b = 101)
    rotate_left
    · exact fin _ _
    cases decide (b = 100)
    rotate_left
    · exact fin _ _
    cases decide (b = 115)
    rotate_left
    · exact fin _ _
    cases decide (b = 119)
    rotate_left
    · exact fin _ _
    cases decide (b = 114)
    rotate_left
    · exact fin _ _
    exact fin _ _
  · intro v; rfl
  · rfl
end Go.Proofs.PanL

/-! Plain laws: PanWrite. -/
namespace Go.Proofs.PanL
open Go.Vs
open Go.Lib (itoa decDigits)

/-- The fields of a kind of line. -/
def fsK (k : Int) : List Int := cond (decide (k = 1)) [99, 111, 112, 98, 101, 100] (cond (decide (k = 2)) [99, 115] (cond (decide (k = 3)) [99] (cond (decide (k = 4) || decide (k = 5)) [119] (cond (decide (k = 9) || decide (k = 10)) [115, 114] (cond (decide (k = 12)) [115, 120] [115])))))
def kindB (e : PanEvent) : Bool := inB e.Kind 1 12 && (!e.Keep || (decide (e.Kind = 4) || decide (e.Kind = 10)))
def wordK (k : Int) (b : Bool) : ByteArray :=
  cond (b && decide (k = 4)) ⟨#[100, 111, 117, 98, 108, 101, 115]⟩ (cond (b && decide (k = 10)) ⟨#[106, 111, 105, 110, 115]⟩ (cond (decide (k = 1)) ⟨#[98, 101, 103, 105, 110, 115]⟩ (cond (decide (k = 2)) ⟨#[115, 101, 110, 100, 115]⟩ (cond (decide (k = 3)) ⟨#[103, 105, 118, 101, 115]⟩
    (cond (decide (k = 4)) ⟨#[98, 114, 105, 110, 103, 115]⟩ (cond (decide (k = 5)) ⟨#[108, 111, 115, 101, 115]⟩ (cond (decide (k = 6)) ⟨#[102, 97, 108, 108, 115]⟩ (cond (decide (k = 7)) ⟨#[114, 105, 115, 101, 115]⟩ (cond (decide (k = 8)) ⟨#[103, 111, 101, 115]⟩
    (cond (decide (k = 9)) ⟨#[115, 117, 115, 112, 101, 99, 116, 115]⟩ (cond (decide (k = 10)) ⟨#[116, 101, 110, 100, 115]⟩ (cond (decide (k = 11)) ⟨#[115, 101, 101, 107, 115]⟩ ⟨#[110, 101, 101, 100, 115]⟩))))))))))))
def madeE (e : PanEvent) : PanEvent := setN (ev0 e.Kind e.Keep) (fsK e.Kind) (nums e (fsK e.Kind))
def okE (e : PanEvent) : Bool := kindB e && (inAll (nums e (fsK e.Kind)) && decide (madeE e = e))
def lineE (e : PanEvent) : ByteArray := addN (wordK e.Kind e.Keep) (nums e (fsK e.Kind))

/-- The twelve kinds, and all others. -/
theorem kinds (k : Int) : k = 1 ∨ k = 2 ∨ k = 3 ∨ k = 4 ∨ k = 5 ∨ k = 6 ∨ k = 7 ∨ k = 8 ∨ k = 9 ∨ k = 10 ∨ k = 11 ∨ k = 12 ∨ ¬ (1 ≤ k ∧ k ≤ 12) := by omega

theorem fieldG_c (e : PanEvent) : fieldG e 99 = e.Client := rfl
theorem fieldG_o (e : PanEvent) : fieldG e 111 = e.Op := rfl
theorem fieldG_p (e : PanEvent) : fieldG e 112 = e.Disk := rfl
theorem fieldG_b (e : PanEvent) : fieldG e 98 = e.Block := rfl
theorem fieldG_e (e : PanEvent) : fieldG e 101 = e.Epoch := rfl
theorem fieldG_d (e : PanEvent) : fieldG e 100 = e.Data := rfl
theorem fieldG_s (e : PanEvent) : fieldG e 115 = e.Server := rfl
theorem fieldG_w (e : PanEvent) : fieldG e 119 = e.Word := rfl
theorem fieldG_r (e : PanEvent) : fieldG e 114 = e.Range := rfl
theorem fieldG_x (e : PanEvent) : fieldG e 120 = e.Other := rfl

theorem s_l65Nums_eq (e : PanEvent) : s_l65Nums e = some (nums e (fsK e.Kind)) := by
  unfold s_l65Nums
  simp only [jn_eq]
  obtain ⟨k, sv, ot, cl, wo, ke, ra, op, di, bl, ep, da⟩ := e
  simp only
  rcases kinds k with h | h | h | h | h | h | h | h | h | h | h | h | h
  all_goals first
    | (subst h; rfl)
    | skip
  rw [decide_eq_false (show ¬ k = 1 by omega), decide_eq_false (show ¬ k = 2 by omega), decide_eq_false (show ¬ k = 3 by omega), decide_eq_false (show ¬ k = 4 by omega), decide_eq_false (show ¬ k = 5 by omega), decide_eq_false (show ¬ k = 9 by omega), decide_eq_false (show ¬ k = 10 by omega), decide_eq_false (show ¬ k = 12 by omega)]
  simp only [cond_false]
  unfold fsK
  rw [decide_eq_false (show ¬ k = 1 by omega), decide_eq_false (show ¬ k = 2 by omega), decide_eq_false (show ¬ k = 3 by omega), decide_eq_false (show ¬ k = 4 by omega), decide_eq_false (show ¬ k = 5 by omega), decide_eq_false (show ¬ k = 9 by omega), decide_eq_false (show ¬ k = 10 by omega), decide_eq_false (show ¬ k = 12 by omega)]
  rfl

theorem s_l65Made_eq (e : PanEvent) (h : kindB e = true) : s_l65Made e.Kind e.Keep (nums e (fsK e.Kind)) = some (madeE e) := by
  obtain ⟨k, sv, ot, cl, wo, ke, ra, op, di, bl, ep, da⟩ := e
  unfold kindB at h
  simp only at h
  rw [Bool.and_eq_true] at h
  have hk := inB_of h.1
  rcases kinds k with h1 | h1 | h1 | h1 | h1 | h1 | h1 | h1 | h1 | h1 | h1 | h1 | h1
  all_goals first
    | exact absurd hk h1
    | (subst h1; cases ke <;> first | rfl | (exact (Bool.false_ne_true h.2).elim))

theorem s_l65Ok_eq (e : PanEvent) : s_l65Ok e = some (okE e) := by
  unfold s_l65Ok
  simp only [jn_eq, s_l6In_eq, Option.bind_some]
  have tail : kindB e = true → ((s_l65Nums e).bind fun y2 => loopN (fun i3 (v6 : Unit) κ7 => (some (inB (y2.getD i3 default) 0 99999)).bind (fun y9 => cond (!y9) (some false) (κ7 ()))) (fun (v6 : Unit) => (s_l65Made e.Kind e.Keep y2).bind (fun y11 => some (decide (y11 = e)))) y2.length 0 ()) = some (okE e) := by
    intro hk
    rw [s_l65Nums_eq]
    simp only [Option.bind_some, cond_not]
    refine (loopN_all (r0 := some false) (fun i => inB ((nums e (fsK e.Kind)).getD i default) 0 99999) _ 0 (fun i κ _ _ => rfl)).trans ?_
    rw [s_l65Made_eq e hk]
    have hall : allN (fun i => inB ((nums e (fsK e.Kind)).getD i default) 0 99999) (nums e (fsK e.Kind)).length 0 = inAll (nums e (fsK e.Kind)) := by
      rw [Bool.eq_iff_iff, allN_iff]
      unfold inAll
      rw [List.all_eq_true]
      constructor
      · intro h n hn
        obtain ⟨i, hi, rfl⟩ := mem_getD hn
        exact h i (Nat.zero_le _) (by omega)
      · intro h i _ hi
        refine h _ ?_
        rw [List.getD_eq_getElem?_getD, List.getElem?_eq_getElem (by omega)]
        exact List.getElem_mem _
    rw [hall]
    unfold okE
    rw [hk]
    simp only [Option.bind_some, Bool.true_and]
    cases inAll (nums e (fsK e.Kind)) <;> rfl
  cases hin : inB e.Kind 1 12 with
  | false =>
    have : okE e = false := by unfold okE kindB; rw [hin]; rfl
    rw [this]; rfl
  | true =>
    simp only [Bool.not_true, cond_false]
    cases hke : e.Keep with
    | false =>
      simp only [cond_false]
      have hk : kindB e = true := by unfold kindB; rw [hin, hke]; rfl
      have := tail hk
      rw [hke] at this
      exact this
    | true =>
      simp only [cond_true]
      cases h4 : decide (e.Kind = 4) with
      | true =>
        have hk : kindB e = true := by unfold kindB; rw [hin, h4]; simp
        have := tail hk
        rw [hke] at this
        exact this
      | false =>
        cases h10 : decide (e.Kind = 10) with
        | true =>
          have hk : kindB e = true := by unfold kindB; rw [hin, h10]; simp
          have := tail hk
          rw [hke] at this
          exact this
        | false =>
          have : okE e = false := by unfold okE kindB; rw [hin, hke, h4, h10]; rfl
          rw [this]; rfl

theorem s_l65Word_eq (e : PanEvent) (h : kindB e = true) : s_l65Word e.Kind e.Keep = some (wordK e.Kind e.Keep) := by
  obtain ⟨k, sv, ot, cl, wo, ke, ra, op, di, bl, ep, da⟩ := e
  unfold kindB at h
  simp only at h
  rw [Bool.and_eq_true] at h
  have hk := inB_of h.1
  rcases kinds k with h1 | h1 | h1 | h1 | h1 | h1 | h1 | h1 | h1 | h1 | h1 | h1 | h1
  all_goals first
    | exact absurd hk h1
    | (subst h1; cases ke <;> first | rfl | (exact (Bool.false_ne_true h.2).elim))

/-! ### The program's line -/
def kindL : List lineKind := [({ word := (⟨#[98, 101, 103, 105, 110, 115]⟩ : ByteArray), kind := 1, keep := false, fields := (⟨#[99, 111, 112, 98, 101, 100]⟩ : ByteArray) } : lineKind), ({ word := (⟨#[115, 101, 110, 100, 115]⟩ : ByteArray), kind := 2, keep := false, fields := (⟨#[99, 115]⟩ : ByteArray) } : lineKind), ({ word := (⟨#[103, 105, 118, 101, 115]⟩ : ByteArray), kind := 3, keep := false, fields := (⟨#[99]⟩ : ByteArray) } : lineKind), ({ word := (⟨#[98, 114, 105, 110, 103, 115]⟩ : ByteArray), kind := 4, keep := false, fields := (⟨#[119]⟩ : ByteArray) } : lineKind), ({ word := (⟨#[100, 111, 117, 98, 108, 101, 115]⟩ : ByteArray), kind := 4, keep := true, fields := (⟨#[119]⟩ : ByteArray) } : lineKind), ({ word := (⟨#[108, 111, 115, 101, 115]⟩ : ByteArray), kind := 5, keep := false, fields := (⟨#[119]⟩ : ByteArray) } : lineKind), ({ word := (⟨#[102, 97, 108, 108, 115]⟩ : ByteArray), kind := 6, keep := false, fields := (⟨#[115]⟩ : ByteArray) } : lineKind), ({ word := (⟨#[114, 105, 115, 101, 115]⟩ : ByteArray), kind := 7, keep := false, fields := (⟨#[115]⟩ : ByteArray) } : lineKind), ({ word := (⟨#[103, 111, 101, 115]⟩ : ByteArray), kind := 8, keep := false, fields := (⟨#[115]⟩ : ByteArray) } : lineKind), ({ word := (⟨#[115, 117, 115, 112, 101, 99, 116, 115]⟩ : ByteArray), kind := 9, keep := false, fields := (⟨#[115, 114]⟩ : ByteArray) } : lineKind), ({ word := (⟨#[116, 101, 110, 100, 115]⟩ : ByteArray), kind := 10, keep := false, fields := (⟨#[115, 114]⟩ : ByteArray) } : lineKind), ({ word := (⟨#[106, 111, 105, 110, 115]⟩ : ByteArray), kind := 10, keep := true, fields := (⟨#[115, 114]⟩ : ByteArray) } : lineKind), ({ word := (⟨#[115, 101, 101, 107, 115]⟩ : ByteArray), kind := 11, keep := false, fields := (⟨#[115]⟩ : ByteArray) } : lineKind), ({ word := (⟨#[110, 101, 101, 100, 115]⟩ : ByteArray), kind := 12, keep := false, fields := (⟨#[115, 120]⟩ : ByteArray) } : lineKind)]
theorem i_lineKinds_eq : i_lineKinds = some kindL := rfl
/-- What holds of each of the kinds. -/
theorem kindL_all : ∀ x ∈ kindL, x.fields.size ≤ 6 ∧ x.word.size ≤ 20 ∧ bytesI x.fields = fsK x.kind ∧ x.word = wordK x.kind x.keep ∧ 1 ≤ x.word.size := by
  intro x hx
  simp only [kindL, List.mem_cons, List.not_mem_nil, or_false] at hx
  rcases hx with h | h | h | h | h | h | h | h | h | h | h | h | h | h <;> subst h <;> exact ⟨by decide, by decide, by decide, rfl, by decide⟩
def okX (e : PanEvent) (x : lineKind) : Bool := decide (x.kind = e.Kind) && ((x.keep == e.Keep) && (inAll (nums e (fsK e.Kind)) && decide (madeE e = e)))
theorem lineOf_ok (e : PanEvent) (x : lineKind) (hx : x ∈ kindL) : ∃ s, i_lineOf e x = some (s, okX e x) ∧ (okX e x = true → s = lineE e) := by
  obtain ⟨h1, h2, h3, h4, _⟩ := kindL_all x hx
  rw [i_lineOf_eq e x h1 h2, h3, h4]
  by_cases hk : x.kind = e.Kind
  · by_cases hb : x.keep = e.Keep
    · unfold okX
      rw [hk, hb]
      simp only [decide_true, beq_self_eq_true, Bool.true_and]
      cases inAll (nums e (fsK e.Kind)) with
      | false => exact ⟨⟨#[]⟩, rfl, fun h => by cases h⟩
      | true => exact ⟨_, rfl, fun _ => rfl⟩
    · have hne : ∀ ns, setN (ev0 x.kind x.keep) (fsK x.kind) ns ≠ e := fun ns h => hb (by
        have := (setN_keep (fsK x.kind) ns (ev0 x.kind x.keep)).2
        rw [h] at this
        exact this.symm)
      have ho : okX e x = false := by
        unfold okX
        rw [beq_false_of_ne hb]; simp
      rw [ho, decide_eq_false (hne _)]
      cases inAll (nums e (fsK x.kind)) with
      | false => exact ⟨⟨#[]⟩, rfl, fun h => by cases h⟩
      | true => exact ⟨_, rfl, fun h => by cases h⟩
  · have hne : ∀ ns, setN (ev0 x.kind x.keep) (fsK x.kind) ns ≠ e := fun ns h => hk (by
      have := (setN_keep (fsK x.kind) ns (ev0 x.kind x.keep)).1
      rw [h] at this
      exact this.symm)
    have ho : okX e x = false := by
      unfold okX
      rw [decide_eq_false hk]; rfl
    rw [ho, decide_eq_false (hne _)]
    cases inAll (nums e (fsK x.kind)) with
    | false => exact ⟨⟨#[]⟩, rfl, fun h => by cases h⟩
    | true => exact ⟨_, rfl, fun h => by cases h⟩

theorem any_kind (e : PanEvent) : kindL.any (okX e) = okE e := by
  obtain ⟨k, sv, ot, cl, wo, ke, ra, op, di, bl, ep, da⟩ := e
  unfold okE kindB okX
  simp only
  generalize (inAll (nums _ (fsK _)) && decide (madeE _ = _)) = q
  simp only [kindL, List.any_cons, List.any_nil]
  rcases kinds k with h | h | h | h | h | h | h | h | h | h | h | h | h
  all_goals first
    | (subst h; cases ke <;> cases q <;> rfl)
    | skip
  rw [inB_f h]
  simp only [Bool.false_and]
  rw [decide_eq_false (show ¬ (1 : Int) = k by omega), decide_eq_false (show ¬ (2 : Int) = k by omega), decide_eq_false (show ¬ (3 : Int) = k by omega), decide_eq_false (show ¬ (4 : Int) = k by omega), decide_eq_false (show ¬ (5 : Int) = k by omega), decide_eq_false (show ¬ (6 : Int) = k by omega), decide_eq_false (show ¬ (7 : Int) = k by omega), decide_eq_false (show ¬ (8 : Int) = k by omega), decide_eq_false (show ¬ (9 : Int) = k by omega), decide_eq_false (show ¬ (10 : Int) = k by omega), decide_eq_false (show ¬ (11 : Int) = k by omega), decide_eq_false (show ¬ (12 : Int) = k by omega)]
  rfl

/-- The loop over the kinds. -/
theorem kinds_loop {R : Type} (e : PanEvent) (body : Nat → ByteArray → (ByteArray → Option R) → Option R) (after : ByteArray → Option R)
    (hb : ∀ i (v : ByteArray) κ, body i v κ = (i_lineOf e (kindL.getD i default)).bind fun y => cond y.2 (κ y.1) (κ v)) :
    loopN body after kindL.length 0 ⟨#[]⟩ = after (cond (okE e) (lineE e) ⟨#[]⟩) := by
  refine loopN_eq (fun i (v : ByteArray) => v = cond ((kindL.take i).any (okX e)) (lineE e) ⟨#[]⟩) rfl (fun i v κ _ hi hv => ?_) (fun v hv => ?_)
  · have hmem : kindL.getD i default ∈ kindL := by
      rw [List.getD_eq_getElem?_getD, List.getElem?_eq_getElem (by omega)]
      exact List.getElem_mem _
    obtain ⟨s, h1, h2⟩ := lineOf_ok e _ hmem
    refine ⟨_, rfl, ?_⟩
    rw [hb, h1, take_succ_getD (by omega), List.any_append, hv]
    simp only [Option.bind_some, List.any_cons, List.any_nil, Bool.or_false]
    cases hx : okX e (kindL.getD i default) with
    | true => rw [h2 hx]; cases (kindL.take i).any (okX e) <;> rfl
    | false => cases (kindL.take i).any (okX e) <;> rfl
  · rw [hv, Nat.zero_add, List.take_length, any_kind]

theorem addN_size : ∀ (ns : List Int) (s : ByteArray), inAll ns = true → s.size ≤ (addN s ns).size ∧ (addN s ns).size ≤ s.size + 22 * ns.length
  | [], s, _ => by simp [addN]
  | n :: ns, s, h => by
    simp only [inAll, List.all_cons, Bool.and_eq_true] at h
    have h1 := txt_size (inB_of h.1)
    have h2 := addN_size ns (s ++ (sp ++ txt n)) h.2
    simp only [ByteArray.size_append] at h2
    have : sp.size = 1 := rfl
    simp only [addN, List.length_cons]
    omega
theorem fsK_len (k : Int) : (fsK k).length ≤ 6 := by
  unfold fsK
  cases decide (k = 1) <;> cases decide (k = 2) <;> cases decide (k = 3) <;> cases (decide (k = 4) || decide (k = 5)) <;> cases (decide (k = 9) || decide (k = 10)) <;> cases decide (k = 12) <;> decide
theorem wordK_size (k : Int) (b : Bool) : 1 ≤ (wordK k b).size ∧ (wordK k b).size ≤ 8 := by
  unfold wordK
  cases (b && decide (k = 4))
  rotate_left
  · simp only [cond_true, cond_false]; decide
  cases (b && decide (k = 10))
  rotate_left
  · simp only [cond_true, cond_false]; decide
  cases decide (k = 1)
  rotate_left
  · simp only [cond_true, cond_false]; decide
  cases decide (k = 2)
  rotate_left
  · simp only [cond_true, cond_false]; decide
  cases decide (k = 3)
  rotate_left
  · simp only [cond_true, cond_false]; decide
  cases decide (k = 4)
  rotate_left
  · simp only [cond_true, cond_false]; decide
  cases decide (k = 5)
  rotate_left
  · simp only [cond_true, cond_false]; decide
  cases decide (k = 6)
  rotate_left
  · simp only [cond_true, cond_false]; decide
  cases decide (k = 7)
  rotate_left
  · simp only [cond_true, cond_false]; decide
  cases decide (k = 8)
  rotate_left
  · simp only [cond_true, cond_false]; decide
  cases decide (k = 9)
  rotate_left
  · simp only [cond_true, cond_false]; decide
  cases decide (k = 10)
  rotate_left
  · simp only [cond_true, cond_false]; decide
  cases decide (k = 11)
  rotate_left
  · simp only [cond_true, cond_false]; decide
  simp only [cond_false]; decide
theorem lineE_size (e : PanEvent) (h : okE e = true) : 1 ≤ (lineE e).size ∧ (lineE e).size ≤ 140 := by
  unfold okE at h
  simp only [Bool.and_eq_true] at h
  have h1 := addN_size (nums e (fsK e.Kind)) (wordK e.Kind e.Keep) h.2.1
  have h2 := wordK_size e.Kind e.Keep
  have h3 := fsK_len e.Kind
  have h4 : (nums e (fsK e.Kind)).length = (fsK e.Kind).length := by simp [nums]
  unfold lineE
  omega
theorem empty_eq (s : ByteArray) : (s.toList == (⟨#[]⟩ : ByteArray).toList) = decide (s.size = 0) := by
  rw [ByteArray.toList_eq, ByteArray.toList_eq, Bool.eq_iff_iff, beq_iff_eq, decide_eq_true_iff]
  exact ⟨fun h => congrArg List.length h, fun h => List.eq_nil_of_length_eq_zero h⟩

/-- The spec's numbers of a line. -/
theorem nums_loop {R : Type} (ns : List Int) (hn : inAll ns = true) (hl : ns.length ≤ 6) (after : ByteArray → Option R) (body : Nat → ByteArray → (ByteArray → Option R) → Option R)
    (hb : ∀ i (v : ByteArray) κ, body i v κ = ck (v.size + (⟨#[32]⟩ : ByteArray).size ≤ 9223372036854775807) ((s_l6Dec ((ns.getD i default).natAbs + 2) (ns.getD i default)).bind (fun y58 => ck ((v ++ (⟨#[32]⟩ : ByteArray)).size + y58.size ≤ 9223372036854775807) (κ ((v ++ (⟨#[32]⟩ : ByteArray)) ++ y58))))) :
    ∀ (d i : Nat) (v : ByteArray), i + d = ns.length → v.size ≤ 1000000 + 22 * i → loopN body after d i v = after (addN v (ns.drop i)) := by
  intro d
  induction d with
  | zero => intro i v hi hv; rw [List.drop_eq_nil_of_le (by omega)]; rfl
  | succ d ih =>
    intro i v hi hv
    show body i v (loopN body after d (i + 1)) = _
    have hdrop : ns.drop i = ns.getD i default :: ns.drop (i + 1) := by
      rw [List.drop_eq_getElem_cons (by omega), List.getD_eq_getElem?_getD, List.getElem?_eq_getElem (by omega)]; rfl
    have hin : inB (ns.getD i default) 0 99999 = true := by
      unfold inAll at hn
      rw [List.all_eq_true] at hn
      refine hn _ ?_
      rw [List.getD_eq_getElem?_getD, List.getElem?_eq_getElem (by omega)]
      exact List.getElem_mem _
    have h1 := txt_size (inB_of hin)
    have h2 : (⟨#[32]⟩ : ByteArray).size = 1 := rfl
    rw [hb, s_l6Dec_eq (inB_of hin), ck_pos (by omega)]
    simp only [Option.bind_some]
    rw [ck_pos (by simp only [ByteArray.size_append]; omega), ih (i + 1) _ (by omega) (by simp only [ByteArray.size_append]; omega), hdrop]
    show after (addN _ _) = after (addN (v ++ (sp ++ txt (ns.getD i default))) (ns.drop (i + 1)))
    rw [← ByteArray.append_assoc]
    rfl
theorem addN_app : ∀ (ns : List Int) (a b : ByteArray), addN (a ++ b) ns = a ++ addN b ns
  | [], _, _ => rfl
  | n :: ns, a, b => by
    simp only [addN]
    rw [ByteArray.append_assoc, addN_app ns a (b ++ (sp ++ txt n))]

theorem panWrite_eq (L : List PanEvent) : ∃ s, s_PanWrite L = some s ∧ i_PanWrite L = some s := by
  unfold s_PanWrite i_PanWrite
  have hnl : (⟨#[10]⟩ : ByteArray).size = 1 := rfl
  -- one step of each
  have S : ∀ (bs : Nat → ByteArray → (ByteArray → Option ByteArray) → Option ByteArray), (∀ i (v : ByteArray) κ, bs i v κ = lt (L.getD i default) (fun x43 => (s_l65Ok x43).bind (fun y44 => cond (!y44) (some (⟨#[]⟩ : ByteArray)) ((s_l65Word ((L.getD i default).Kind) ((L.getD i default).Keep)).bind (fun y45 => ck (v.size + y45.size ≤ 9223372036854775807) (lt (L.getD i default) (fun x46 => (s_l65Nums x46).bind (fun y47 => loopN (fun i48 (v55 : ByteArray) κ56 => ck (v55.size + (⟨#[32]⟩ : ByteArray).size ≤ 9223372036854775807) ((s_l6Dec ((y47.getD i48 default).natAbs + 2) (y47.getD i48 default)).bind (fun y58 => ck ((v55 ++ (⟨#[32]⟩ : ByteArray)).size + y58.size ≤ 9223372036854775807) (κ56 ((v55 ++ (⟨#[32]⟩ : ByteArray)) ++ y58))))) (fun (v55 : ByteArray) => ck (v55.size + (⟨#[10]⟩ : ByteArray).size ≤ 9223372036854775807) (cond (decide ((40000 : Int) < ((v55 ++ (⟨#[10]⟩ : ByteArray)).size : Int))) (some (⟨#[]⟩ : ByteArray)) (κ (v55 ++ (⟨#[10]⟩ : ByteArray))))) y47.length 0 (v ++ y45)))))))) ) →
      ∀ i (v : ByteArray) κ, v.size ≤ 40000 → bs i v κ = cond (okE (L.getD i default)) (cond (decide (40000 < (v ++ (lineE (L.getD i default) ++ nl)).size)) (some ⟨#[]⟩) (κ (v ++ (lineE (L.getD i default) ++ nl)))) (some ⟨#[]⟩) := by
    intro bs hbs i v κ hv
    rw [hbs]
    generalize L.getD i default = e
    simp only [lt_eq, s_l65Ok_eq, Option.bind_some]
    cases hok : okE e with
    | false => rfl
    | true =>
      have hk : kindB e = true := by unfold okE at hok; rw [Bool.and_eq_true] at hok; exact hok.1
      have hn : inAll (nums e (fsK e.Kind)) = true := by unfold okE at hok; simp only [Bool.and_eq_true] at hok; exact hok.2.1
      have hw := wordK_size e.Kind e.Keep
      have h3 := fsK_len e.Kind
      have h4 : (nums e (fsK e.Kind)).length = (fsK e.Kind).length := by simp [nums]
      have hsz := lineE_size e hok
      simp only [Bool.not_true, cond_false, cond_true]
      rw [s_l65Word_eq e hk, s_l65Nums_eq]
      simp only [Option.bind_some]
      rw [ck_pos (by omega), nums_loop (nums e (fsK e.Kind)) hn (by omega) _ _ (fun _ _ _ => rfl) _ 0 _ (by omega) (by simp only [ByteArray.size_append]; omega), List.drop_zero, addN_app]
      show ck ((v ++ lineE e).size + _ ≤ _) (cond (decide ((40000 : Int) < (((v ++ lineE e) ++ nl).size : Int))) _ (κ ((v ++ lineE e) ++ nl))) = _
      rw [ck_pos (by simp only [ByteArray.size_append]; omega), ByteArray.append_assoc]
      have : decide ((40000 : Int) < ((v ++ (lineE e ++ nl)).size : Int)) = decide (40000 < (v ++ (lineE e ++ nl)).size) := decide_eq_decide.2 (by omega)
      rw [this]
  have I : ∀ (bi : Nat → ByteArray → (ByteArray → Option ByteArray) → Option ByteArray), (∀ i (v : ByteArray) κ, bi i v κ = lt (L.getD i default) (fun x37 => (i_lineKinds).bind (fun y38 => loopN (fun i40 (v47 : ByteArray) κ48 => lt (y38.getD i40 default) (fun x49 => (i_lineOf x37 x49).bind (fun y50 => cond y50.2 (κ48 y50.1) (κ48 v47)))) (fun (v47 : ByteArray) => cond (v47.toList == (⟨#[]⟩ : ByteArray).toList) (some (⟨#[]⟩ : ByteArray)) (cond (decide ((40000 : Int) < (v.size : Int))) (some (⟨#[]⟩ : ByteArray)) (ck (v47.size + (⟨#[10]⟩ : ByteArray).size ≤ 9223372036854775807) (ck (v.size + (v47 ++ (⟨#[10]⟩ : ByteArray)).size ≤ 140737488355328) (κ (v ++ (v47 ++ (⟨#[10]⟩ : ByteArray)))))))) y38.length 0 (⟨#[]⟩ : ByteArray)))) →
      ∀ i (v : ByteArray) κ, v.size ≤ 50000 → bi i v κ = cond (okE (L.getD i default)) (cond (decide (40000 < v.size)) (some ⟨#[]⟩) (κ (v ++ (lineE (L.getD i default) ++ nl)))) (some ⟨#[]⟩) := by
    intro bi hbi i v κ hv
    rw [hbi]
    generalize L.getD i default = e
    simp only [lt_eq, i_lineKinds_eq, Option.bind_some]
    rw [kinds_loop e _ _ (fun _ _ _ => rfl), empty_eq]
    have : decide ((40000 : Int) < (v.size : Int)) = decide (40000 < v.size) := decide_eq_decide.2 (by omega)
    rw [this]
    cases hok : okE e with
    | false => rfl
    | true =>
      have hsz := lineE_size e hok
      simp only [cond_true]
      rw [decide_eq_false (by omega), ck_pos (by omega), ck_pos (by simp only [ByteArray.size_append]; omega)]
      rfl
  -- beyond the bound the program's answer is empty
  have big : ∀ (bi : Nat → ByteArray → (ByteArray → Option ByteArray) → Option ByteArray), (∀ i (v : ByteArray) κ, v.size ≤ 50000 → bi i v κ = cond (okE (L.getD i default)) (cond (decide (40000 < v.size)) (some ⟨#[]⟩) (κ (v ++ (lineE (L.getD i default) ++ nl)))) (some ⟨#[]⟩)) →
      ∀ d i (v : ByteArray), 40000 < v.size → v.size ≤ 50000 → loopN bi (fun (v35 : ByteArray) => cond (decide ((40000 : Int) < (v35.size : Int))) (some (⟨#[]⟩ : ByteArray)) (some v35)) d i v = some ⟨#[]⟩ := by
    intro bi hbi d i v h1 h2
    cases d with
    | zero =>
      show cond _ _ _ = _
      rw [decide_eq_true (by omega)]; rfl
    | succ d =>
      show bi i v _ = _
      rw [hbi i v _ h2, decide_eq_true h1]
      cases okE (L.getD i default) <;> rfl
  have both : ∀ (bs bi : Nat → ByteArray → (ByteArray → Option ByteArray) → Option ByteArray),
      (∀ i (v : ByteArray) κ, v.size ≤ 40000 → bs i v κ = cond (okE (L.getD i default)) (cond (decide (40000 < (v ++ (lineE (L.getD i default) ++ nl)).size)) (some ⟨#[]⟩) (κ (v ++ (lineE (L.getD i default) ++ nl)))) (some ⟨#[]⟩)) →
      (∀ i (v : ByteArray) κ, v.size ≤ 50000 → bi i v κ = cond (okE (L.getD i default)) (cond (decide (40000 < v.size)) (some ⟨#[]⟩) (κ (v ++ (lineE (L.getD i default) ++ nl)))) (some ⟨#[]⟩)) →
      ∀ d i (v : ByteArray), v.size ≤ 40000 → ∃ s, loopN bs (fun (v40 : ByteArray) => some v40) d i v = some s ∧ loopN bi (fun (v35 : ByteArray) => cond (decide ((40000 : Int) < (v35.size : Int))) (some (⟨#[]⟩ : ByteArray)) (some v35)) d i v = some s := by
    intro bs bi hs hi d
    induction d with
    | zero =>
      intro i v hv
      refine ⟨v, rfl, ?_⟩
      show cond _ _ _ = _
      rw [decide_eq_false (by omega)]; rfl
    | succ d ih =>
      intro i v hv
      show ∃ s, bs i v _ = some s ∧ bi i v _ = some s
      rw [hs i v _ hv, hi i v _ (by omega), decide_eq_false (show ¬ 40000 < v.size by omega)]
      cases hok : okE (L.getD i default) with
      | false => exact ⟨_, rfl, rfl⟩
      | true =>
        have hsz := lineE_size _ hok
        simp only [cond_true, cond_false]
        by_cases hb : 40000 < (v ++ (lineE (L.getD i default) ++ nl)).size
        · rw [decide_eq_true hb, big bi hi d (i + 1) _ hb (by
            simp only [ByteArray.size_append]
            have : nl.size = 1 := rfl
            omega)]
          exact ⟨_, rfl, rfl⟩
        · rw [decide_eq_false hb]
          exact ih (i + 1) _ (by omega)
  exact both _ _ (S _ (fun _ _ _ => rfl)) (I _ (fun _ _ _ => rfl)) L.length 0 _ (by decide)

/-! ### The law -/
theorem l_toPanEvent_eq (a : PanEvent) : l_toPanEvent a = some a := rfl
theorem l_toPanEventS_eq (L : List PanEvent) (h : L.length * 96 ≤ 140737488355328) : l_toPanEventS L = some L := by
  unfold l_toPanEventS
  rw [ck_pos (by omega)]
  refine loopN_eq (fun i (v : List PanEvent) => v.length = L.length ∧ v.take i = L.take i) ⟨List.length_replicate, rfl⟩ (fun i a κ _ hi ⟨h1, h2⟩ => ⟨a.set i (L.getD i default), ⟨by simpa using h1, set_take (by omega) h1 h2⟩, ?_⟩) (fun a ⟨h1, h2⟩ => ?_)
  · simp only [lt_eq, l_toPanEvent_eq, Option.bind_some]
    rw [ix_nat (by omega)]
  · rw [Nat.zero_add, List.take_of_length_le (by omega), List.take_of_length_le (by omega)] at h2
    rw [h2]
theorem l_eqPanEvent_eq (a : PanEvent) : l_eqPanEvent a a = some true := by simp [l_eqPanEvent]
theorem l_eqPanEventS_eq (L : List PanEvent) : l_eqPanEventS L L = some true := by
  unfold l_eqPanEventS
  simp only [decide_true, Bool.not_true, cond_false]
  rw [loopN_ok _ _ (fun i κ _ hi => by
    simp only [lt_eq]
    rw [ix_nat (by omega)]
    simp [l_eqPanEvent_eq])]
theorem law_PanWrite (L : List PanEvent) (hL : L.length ≤ 140737488355328) : l_FnExactPanWrite L = some true := by
  unfold l_FnExactPanWrite l_szPanEventS
  rw [w64_eq (by omega) (by omega)]
  by_cases h1 : L.length ≤ 1048576
  · rw [decide_eq_false (by omega), l_toPanEventS_eq L (by omega)]
    obtain ⟨s, hs, hi⟩ := panWrite_eq L
    simp only [cond_false, Option.bind_some, hs, hi, l_eqPanEventS_eq]
    rw [decide_eq_false (by omega)]
    simp
  · rw [decide_eq_true (by omega)]; rfl
end Go.Proofs.PanL

/-! Part U: what a row's arguments read as; a law's row out of its contract. -/
namespace Go.Vs
open Go.ChangeShapes Go.WideShapes Go.ChangeAt Go.RowKit Go.Deep

/-- All memory stays as it is. -/
def gAll (w : World) : Gh := { Fz := fun b => b < w.heap.size, Tz := fun _ => False, om := fun _ => none, rv := fun _ => undef, df := fun _ => False }

/-- What reads as of this type is a value of a Lean type. -/
def Rd (P : Program) (t : TypeId) {α : Type} (c : α → Nat → U) (sz : Nat) (ok : α → Prop) : Prop :=
  ∀ {H : Type} {enc : TypeId × Value → H} {w : World} {fuel : Nat} {cs : List Value} {x : DataW H × List MemPlace}, DataW.trod enc P w 0 (fun _ => true) true fuel t cs = some x → (∀ n ∈ DataW.weights P t x.1, n ≤ reachBytes) →
    ∃ a : α, ok a ∧ cs.length = sz ∧ ∀ j, j < sz → ∃ v, cs[j]? = some v ∧ RU w (gAll w) (c a j) v

section
variable {P : Program} [Glob P]
def okI (n : Int) : Prop := -9223372036854775808 ≤ n ∧ n < 9223372036854775808
def okT {α : Type} (_ : α) : Prop := True
def okS (s : ByteArray) : Prop := s.size ≤ reachBytes
def okL {α : Type} (by_ : Nat) (ok : α → Prop) (l : List α) : Prop := l.length * by_ ≤ reachBytes ∧ ∀ x ∈ l, ok x

theorem okL_len {α : Type} {b : Nat} {ok : α → Prop} {l : List α} (hb : 0 < b) (h : okL b ok l) : l.length ≤ 140737488355328 := by
  have h1 := h.1
  have h2 : l.length * 1 ≤ l.length * b := Nat.mul_le_mul_left _ hb
  have h3 : reachBytes ≤ 140737488355328 := by decide
  omega
theorem rd_int {t : TypeId} (hu : P.underlying t = some (.int .i64)) : Rd P t cInt 1 okI := by
  intro H enc w fuel cs x h hw0
  obtain ⟨n, rfl, _, hw⟩ := DataW.trod_int hu h
  refine ⟨n, ?_, rfl, fun j hj => ?_⟩
  rotate_left
  · obtain rfl : j = 0 := by omega
    exact ⟨_, rfl, rfl⟩
  simp [Lit.wf, IntKind.min, IntKind.max, IntKind.signed, IntKind.bits] at hw
  unfold okI; omega
theorem rd_bool {t : TypeId} (hu : P.underlying t = some .bool) : Rd P t cBool 1 okT := by
  intro H enc w fuel cs x h hw0
  obtain ⟨b, rfl, _⟩ := DataW.trod_bool hu h
  refine ⟨b, trivial, rfl, fun j hj => ?_⟩
  obtain rfl : j = 0 := by omega
  exact ⟨_, rfl, rfl⟩
theorem rd_str {t : TypeId} (hu : P.underlying t = some .string) : Rd P t cStr 1 okS := by
  intro H enc w fuel cs x h hw0
  obtain ⟨s, rfl, rfl, hs⟩ := DataW.trod_string hu h
  refine ⟨s, by have := hw0 s.data.toList.length (by simp [DataW.weights]); simpa [okS] using this, rfl, fun j hj => ?_⟩
  obtain rfl : j = 0 := by omega
  exact ⟨_, rfl, rfl⟩

theorem cells?_get {w : World} {base n : Nat} {a : Addr} {cs : List Value} (h : w.cells? base a n = some cs) : cs.length = n ∧ ∀ j v, cs[j]? = some v → w.cell? (a.add j) = some v := by
  unfold World.cells? at h
  split at h
  case isFalse => cases h
  case isTrue =>
    refine ⟨by simpa using mapM_some_length h, fun j v hv => ?_⟩
    have hj : j < cs.length := (List.getElem?_eq_some_iff.1 hv).1
    have hl : cs.length = n := by simpa using mapM_some_length h
    have h2 := mapM_some_get h j j (by rw [List.getElem?_range (by omega)])
    rw [h2, hv]
theorem cell_block {w : World} {a : Addr} {v : Value} (h : w.cell? a = some v) : a.block < w.heap.size ∧ a.spot = none := by
  unfold World.cell? at h
  split at h
  case h_2 => cases h
  case h_1 c _ _ he =>
    split at h
    · cases h
    · rename_i hs
      refine ⟨?_, by simpa using hs⟩
      rcases Nat.lt_or_ge a.block w.heap.size with h1 | h1
      · exact h1
      · rw [Array.getElem?_eq_none h1] at he; cases he

theorem rd_slice {t e : TypeId} {α : Type} [Inhabited α] {c : α → Nat → U} {sz : Nat} {ok : α → Prop} (hu : P.underlying t = some (.slice e)) (hz : P.cellsOf e = sz) (h0 : 0 < sz) {by_ : Nat} (hb : P.bytesOf e = by_) (hb0 : 0 < by_) (he : Rd P e c sz ok) :
    Rd P t (fun L _ => ul c sz false L) 1 (okL by_ ok) := by
  intro H enc w fuel cs x h hw0
  subst hz; subst hb
  rcases open_slice hu h with ⟨rfl, _⟩ | ⟨a, len, cap, m, n, D, Pl, rfl, _, hl, hm, hmm, rfl, hel⟩
  · refine ⟨[], ⟨by simp, fun x hx => absurd hx List.not_mem_nil⟩, rfl, fun j hj => ?_⟩
    obtain rfl : j = 0 := by omega
    refine ⟨_, rfl, ?_⟩
    exact ⟨none, 0, rfl, Nat.le_refl _, Nat.zero_le _, fun hp => absurd hp (Nat.lt_irrefl 0)⟩
  · simp only [if_true] at hmm
    subst hmm
    have hw1 : len * P.bytesOf e ≤ reachBytes := by
      have h1 := hw0 ((len + (m - len)) * P.bytesOf e) (by simp [DataW.weights, hu])
      refine Nat.le_trans (Nat.mul_le_mul_right _ ?_) h1
      omega
    have hw2 : ∀ i, i < len → ∀ k ∈ DataW.weights P e (D i), k ≤ reachBytes := by
      intro i hi k hk
      refine hw0 k ?_
      simp only [DataW.weights, hu]
      refine List.mem_cons_of_mem _ (List.mem_append_left _ ?_)
      have hmem : D i ∈ (List.range len).map D := List.mem_map.2 ⟨i, List.mem_range.2 hi, rfl⟩
      generalize (List.range len).map D = l at hmem
      induction l with
      | nil => cases hmem
      | cons d r ih =>
        simp only [DataW.weightsAll, List.mem_append]
        rcases List.mem_cons.1 hmem with h1 | h1
        · subst h1; exact .inl hk
        · exact .inr (ih h1)
    have hex : ∀ i, i < len → ∃ y : α, ok y ∧ ∀ j, j < P.cellsOf e → ∃ v, w.cell? (a.add (i * P.cellsOf e + j)) = some v ∧ RU w (gAll w) (c y j) v := by
      intro i hi
      obtain ⟨cs', h1, h2⟩ := hel i (by omega)
      obtain ⟨y, hy, h3, h4⟩ := he h2 (hw2 i hi)
      refine ⟨y, hy, fun j hj => ?_⟩
      obtain ⟨v, h5, h6⟩ := h4 j hj
      exact ⟨v, by rw [← add_add]; exact (cells?_get h1).2 j v h5, h6⟩
    obtain ⟨f, hf⟩ := choose_lt hex
    refine ⟨(List.range len).map f, ⟨by simpa using hw1, fun y hy => ?_⟩, rfl, fun j hj => ?_⟩
    rotate_left
    obtain rfl : j = 0 := by omega
    refine ⟨_, rfl, ?_⟩
    rotate_left
    · obtain ⟨i, hi, rfl⟩ := List.mem_map.1 hy
      exact (hf i (List.mem_range.1 hi)).1
    · have hb : len ≤ bound := by
        have h1 : len * 1 ≤ len * P.bytesOf e := Nat.mul_le_mul_left _ hb0
        have h2 : reachBytes ≤ bound := by decide
        omega
      have hlen : ((List.range len).map f).length = len := by simp
      refine ⟨some a, m, by rw [hlen], by rw [hlen]; exact hl, by rw [hlen]; exact hb, fun hp => ?_⟩
      rw [hlen] at hp
      obtain ⟨b, o, sp⟩ := a
      obtain ⟨v, h1, _⟩ := (hf 0 (by omega)).2 0 h0
      have hblk := cell_block h1
      have hadd : (⟨b, o, sp⟩ : Addr).add (0 * P.cellsOf e + 0) = ⟨b, o, sp⟩ := by rw [Nat.zero_mul]; rfl
      rw [hadd] at hblk
      have hsp : sp = none := hblk.2
      subst hsp
      have hblt : b < w.heap.size := hblk.1
      refine ⟨b, o, rfl, .inl hblt, fun i hi j hj => ?_⟩
      rw [hlen] at hi
      obtain ⟨v, h1, h2⟩ := (hf i hi).2 j hj
      refine ⟨v, by rw [← addr_add]; exact h1, ?_⟩
      have : ((List.range len).map f).getD i default = f i := by
        rw [List.getD_eq_getElem?_getD]; simp [hi]
      show RU w (gAll w) (c (((List.range len).map f).getD i default) j) v
      rw [this]; exact h2

theorem struct_us {H : Type} {enc : TypeId × Value → H} {w : World} {fuel : Nat} {cs : List Value} {x : DataW H × List MemPlace} {t : TypeId} {fs : Array Field} (ht : P.underlying t = some (.struct fs))
    (h : DataW.trod enc P w 0 (fun _ => true) true fuel t cs = some x) (hw0 : ∀ n ∈ DataW.weights P t x.1, n ≤ reachBytes) :
    cs.length = P.cellsOf t ∧ ∀ (i : Nat) (f : Field), fs[i]? = some f → ∃ y n, DataW.trod enc P w 0 (fun _ => true) true n f.type ((cs.drop f.offset).take (P.cellsOf f.type)) = some y ∧ ∀ k ∈ DataW.weights P f.type y.1, k ≤ reachBytes := by
  obtain ⟨xs, n, _, rfl, h1, h2, h3⟩ := DataW.trod_struct ht h
  refine ⟨h1, fun i f hf => ?_⟩
  have hi : i < fs.size := by
    rcases Nat.lt_or_ge i fs.size with h4 | h4
    · exact h4
    · rw [Array.getElem?_eq_none h4] at hf; cases hf
  have := h3 i f hf
  rw [List.getElem?_eq_getElem (by omega)] at this
  refine ⟨_, n, this, fun k hk => hw0 k ?_⟩
  simp only [DataW.weights, ht]
  exact DataW.weights_mem_each (j := i) (t := f.type) (d := (xs[i]'(by omega)).1) (by simp [hf]) (by rw [List.getElem?_map, List.getElem?_eq_getElem (by omega)]; rfl) k hk

theorem rdf {cs : List Value} {o z : Nat} {Q : Value → Prop} {j : Nat} (h : ∃ v, ((cs.drop o).take z)[j]? = some v ∧ Q v) : ∃ v, cs[o + j]? = some v ∧ Q v := by
  obtain ⟨v, h1, h2⟩ := h
  refine ⟨v, ?_, h2⟩
  rw [List.getElem?_take] at h1
  split at h1
  · rw [List.getElem?_drop] at h1; exact h1
  · cases h1

/-- An argument of one cell. -/
theorem rs_one {t : TypeId} {α : Type} {c : α → Nat → U} {ok : α → Prop} (hr : Rd P t c 1 ok) {H : Type} {enc : TypeId × Value → H} {w : World} {v : Value} {d : DataW H} {ps : List MemPlace}
    (h : DataW.Trod enc P w 0 (fun _ => true) true t v d ps) (hw : ∀ n ∈ DataW.weights P t d, n ≤ reachBytes) (hv : v.cells = #[v]) : ∃ a : α, ok a ∧ RS w (gAll w) (.val false [.u (c a 0)]) v := by
  obtain ⟨fuel, hf⟩ := h
  obtain ⟨a, hk, _, ha⟩ := hr hf hw
  obtain ⟨u, h1, h2⟩ := ha 0 (by omega)
  rw [hv] at h1
  simp at h1
  subst h1
  exact ⟨a, hk, RV.of_cell h2⟩
/-- An argument of many. -/
theorem rs_agg {t : TypeId} {α : Type} {c : α → Nat → U} {ok : α → Prop} {sz : Nat} (hr : Rd P t c sz ok) {H : Type} {enc : TypeId × Value → H} {w : World} {v : Value} {d : DataW H} {ps : List MemPlace}
    (h : DataW.Trod enc P w 0 (fun _ => true) true t v d ps) (hw : ∀ n ∈ DataW.weights P t d, n ≤ reachBytes) (hv : ∃ cs, v = .agg cs) : ∃ a : α, ok a ∧ RS w (gAll w) (.val true ((List.range sz).map fun j => .u (c a j))) v := by
  obtain ⟨fuel, hf⟩ := h
  obtain ⟨a, hk, hl, ha⟩ := hr hf hw
  obtain ⟨cs, rfl⟩ := hv
  exact ⟨a, hk, cs.toList, by simp, RLs.of_us _ _ hl ha⟩

theorem Con.run {f : FuncId} {ags : List S} {os1 : List Ob} (hc : Con P f ags [] (vbool true) os1) {w : World} {vals : List Value} (hg : Glob.ok P w.heap.size w) (h : RSs w (gAll w) ags vals) :
    Calls P f vals.toArray w fun e w' => e = .returned (.bool true) ∧ Below w.heap.size w w' := by
  refine Calls.mono (hc.2 w (gAll w) vals ⟨h, fun r hr => absurd hr (Nat.not_lt_zero r), fun r => ⟨fun h => h.elim, fun h => absurd h (Nat.not_lt_zero r)⟩, fun b hb => ⟨hb, rfl⟩, fun b hb => hb.elim, fun b r hb => by cases hb⟩ ⟨_, Nat.le_refl _, fun b hb => absurd rfl hb, hg⟩) ?_
  rintro e w' ⟨v, g, rfl, hp⟩
  refine ⟨?_, hp.os, hp.tape, hp.output, hp.size, fun k hk => hp.block k hk rfl⟩
  have : v = .bool true := RV.cell hp.res
  rw [this]

/-- Arguments read behind the call as they did, with whatever spare places. -/
theorem trodAll_any {H : Type} {enc : TypeId × Value → H} {W W' : World} {sp : Nat → Bool} (hl : laidOutB P = true) (hb : Below W.heap.size W W') : ∀ {ts : List TypeId} {vs : List Value} {ds : List (DataW H)} {ps : List MemPlace},
    (∀ t ∈ ts, P.readableRec t = true ∧ t < P.types.size) → DataW.TrodAll enc P W 0 (fun _ => true) true ts vs ds ps → (∀ x ∈ ps, x.block < W.heap.size) → (∀ x ∈ ps, sp x.block = true) →
    DataW.TrodAll enc P W' 0 sp true ts vs ds ps
  | [], [], [], _, _, h, _, _ => h
  | t :: ts, v :: vs, d :: ds, _, ht, ⟨p, q, h1, h2, e⟩, hlt, hs => by
    subst e
    have h3 := ht t (List.mem_cons_self ..)
    exact ⟨p, q, WideElems.Trod_stays hl h3.1 h3.2 h1 (fun x hx => hb.same (hlt x (List.mem_append_left _ hx))) (fun x hx => hs x (List.mem_append_left _ hx)),
      trodAll_any hl hb (fun t h => ht t (List.mem_cons_of_mem _ h)) h2 (fun x hx => hlt x (List.mem_append_right _ hx)) (fun x hx => hs x (List.mem_append_right _ hx)), rfl⟩

/-- A law's row: one result, no variables, nothing turned. -/
theorem law_post {H : Type} {enc : TypeId × Value → H} {f : Func} {s : ChangeSpec} {apart fresh handsOn again : Bool} {W W' : World} {args : Array Value} {v : Value} {ds : List (DataW H)} {before : List MemPlace} (hl : laidOutB P = true)
    (ht : ∀ t ∈ f.params.toList, P.readableRec t = true ∧ t < P.types.size) (hW : DataW.Whole enc P f.params.toList s.vars apart W args.toList ds [] before) (hnv : s.vars = []) (hb : Below W.heap.size W W')
    (hres : ∀ (b : Nat) (sp : Nat → Bool) (hd : Bool), DataW.TrodAll enc P W' b sp hd f.resultTypes.toList (v.resultList f.resultTypes.size) (s.fn H (ds ++ [])).results []) (hargs : (s.fn H (ds ++ [])).args = ds) (hvars : (s.fn H (ds ++ [])).vars = [])
    (hok : ∀ (j : Nat) (t : TypeId) (r : Value), f.resultTypes[j]? = some t → (v.resultList f.resultTypes.size)[j]? = some r → Value.okWide P W' .any 0 t r) :
    s.post enc P f apart fresh handsOn again W args v W' := by
  have lt : ∀ x ∈ before, x.block < W.heap.size := fun x hx => hW.lt x hx
  have hW0 := hW
  obtain ⟨p, q, hA, hV, e, hz, hn⟩ := hW
  have hq : q = [] := by rw [hnv] at hV; exact (trodVars_none hV).2
  subst hq
  rw [List.append_nil] at e
  subst e
  have stay : ∀ sp : Nat → Bool, (∀ x ∈ before, sp x.block = true) → DataW.TrodAll enc P W' 0 sp true f.params.toList args.toList (s.fn H (ds ++ [])).args before := fun sp hsp => by
    rw [hargs]; exact trodAll_any hl hb ht hA lt hsp
  have vars : ∀ sp : Nat → Bool, DataW.TrodVars enc P W' sp s.vars (s.fn H (ds ++ [])).vars [] := fun sp => by rw [hnv, hvars]; rfl
  refine ⟨ds, [], before, [], before, [], hW0, hres _ _ _, stay _ (fun x hx => decide_eq_true (lt x hx)), vars _, World.keptBut_mono (fun x hx => ⟨hx, .inr (.inl hx)⟩) (hb.frame (· ∈ before)), fun _ => ⟨hok, _, _, ([] ++ before) ++ [], ⟨[] ++ before, [], trodAll_append (stay _ (fun _ _ => rfl)) (hres _ _ _), vars _, rfl, ?_, ?_⟩, ?_⟩⟩
  · intro b off hx
    simp only [List.nil_append, List.append_nil] at hx
    rw [hb.frozen (lt _ hx)]; exact hz b off hx
  · intro ha; simpa using hn ha
  · intro x hx _; simpa using hx

theorem okWide_one {t : TypeId} {d : TypeDesc} (ht : P.underlying t = some d) (hd : (match d with | .int _ | .string | .bool => true | _ => false) = true) {w : World} {r : _root_.Go.Reach} {base : Nat} {v : Value} (h : Value.okWide P w r base t v) : v.cells = #[v] := by
  cases d <;> first | (cases hd; done) | skip
  · obtain ⟨_, rfl⟩ := okWide_bool ht h; rfl
  · obtain ⟨_, rfl⟩ := okWide_int ht h; rfl
  · obtain ⟨_, rfl⟩ := okWide_string ht h; rfl
theorem okWide_agg {t : TypeId} {fs : Array Field} (ht : P.underlying t = some (.struct fs)) {w : World} {r : _root_.Go.Reach} {base : Nat} {v : Value} (h : Value.okWide P w r base t v) : ∃ cs, v = .agg cs := by
  unfold Value.okWide at h
  rw [ht] at h
  obtain ⟨cs, e, _⟩ := h
  exact ⟨cs, e⟩
end
end Go.Vs
