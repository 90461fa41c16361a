/- Words and walks for the proof. -/
import Derived.Test.YtkembmbgkbonmaaGreatWhD
set_option linter.unusedVariables false
set_option linter.unusedSimpArgs false
set_option linter.unusedSectionVars false
namespace Go.Proofs.PanS
open Go.Vs
set_option maxRecDepth 8000
theorem ixE {α R : Type} [Inhabited α] {L : List α} {i : Int} {κ : α → Option R} {r : R} (hF : ix L i κ = some r) : 0 ≤ i ∧ i < (L.length : Int) ∧ κ (L.getD i.toNat default) = some r := by
 unfold ix at hF
 split at hF
 case isTrue hh => exact ⟨hh.1, hh.2, hF⟩
 case isFalse => cases hF
def MapDisk.cx (x : MapDisk) : Nat → U
 | 6 => xul cInt 1 x.Acks
 | j => MapDisk.c x j
theorem cx_c (x : MapDisk) (j : Nat) : LeU (MapDisk.cx x j) (MapDisk.c x j) := by
 unfold MapDisk.cx
 split
 ·exact ⟨_, _, _, .inl ⟨false, rfl⟩, rfl, fun _ => rfl, fun i _ j _ => lr⟩
 ·exact lr
theorem cx_of {x : MapDisk} {j : Nat} (h : j ≠ 6) : MapDisk.cx x j = MapDisk.c x j := by
 unfold MapDisk.cx
 split
 ·exact absurd rfl h
 ·rfl
theorem EqG.cx {n sz : Nat} {L : List MapDisk} : EqG n sz (gl MapDisk.cx L) (gl MapDisk.c L) := fun i _ j _ => cx_c _ j
def gmx (k : Nat) (L : List MapDisk) : Nat → Nat → U := fun i j => cond (Nat.blt i k) (MapDisk.cx (L.getD i default) j) (MapDisk.c (L.getD i default) j)
theorem gmx_0 {n sz : Nat} {L : List MapDisk} : EqG n sz (gl MapDisk.c L) (gmx 0 L) := fun i _ j _ => by
 unfold gmx
 rw [blt_f (Nat.zero_le i)]; exact lr
theorem gmx_all {n sz : Nat} {L : List MapDisk} : EqG n sz (gmx n L) (gl MapDisk.cx L) := fun i hi j _ => by
 unfold gmx
 rw [blt_t hi]; exact lr
theorem gmx_get {k : Nat} {L : List MapDisk} : LeU (gmx k L k 6) (ul cInt 1 false (L.getD k default).Acks) := by
 unfold gmx
 rw [blt_f (Nat.le_refl k)]; exact lr
theorem gmx_set {n k : Nat} {L : List MapDisk} {a : List Int} {x : MapDisk} (hk : k < L.length) (h6 : x.Acks = a) (h : ∀ j, j ≠ 6 → MapDisk.c (L.getD k default) j = MapDisk.c x j) : EqG n 7 (storeRow (gmx k L) k 6 [xul cInt 1 a]) (gmx (k + 1) (L.set k x)) := by
 intro i hi j hj
 show LeU (cond (Nat.beq i k && Nat.ble 6 j && Nat.blt j 7) ([xul cInt 1 a].getD (j - 6) dU) (gmx k L i j)) (gmx (k + 1) (L.set k x) i j)
 rw [beq_eq]
 by_cases e : i = k
 ·subst e
  rw [decide_eq_true rfl, Bool.true_and]
  have hx : (L.set i x).getD i default = x := by
   rw [List.getD_eq_getElem?_getD, List.getElem?_set_self hk]; rfl
  unfold gmx
  rw [hx, blt_t (Nat.lt_succ_self i), blt_f (Nat.le_refl i), cond_true, cond_false]
  by_cases e6 : j = 6
  ·subst e6
   subst h6
   exact lr
  ·have : (Nat.ble 6 j && Nat.blt j 7) = false := by
    rw [Bool.and_eq_false_iff]
    rcases Nat.lt_or_ge j 6 with h1 | h1
    ·left
     cases hb : Nat.ble 6 j with
     | false => rfl
     | true => have := Nat.le_of_ble_eq_true hb; omega
    ·omega
   rw [this, cond_false, h j e6, cx_of e6]; exact lr
 ·rw [decide_eq_false e, Bool.false_and, Bool.false_and, cond_false]
  have hx : (L.set k x).getD i default = L.getD i default := by
   rw [List.getD_eq_getElem?_getD, List.getD_eq_getElem?_getD, List.getElem?_set_ne (fun e' => e e'.symm)]
  unfold gmx
  rw [hx]
  rcases Nat.lt_or_ge i k with h1 | h1
  ·rw [blt_t h1, blt_t (by omega : i < k + 1)]; exact lr
  ·rw [blt_f h1, blt_f (by omega : k + 1 ≤ i)]; exact lr
theorem c_but (x : MapDisk) (a : List Int) : ∀ j, j ≠ 6 → MapDisk.c x j = MapDisk.c { x with Acks := a } j
 | 0, _ => rfl
 | 1, _ => rfl
 | 2, _ => rfl
 | 3, _ => rfl
 | 4, _ => rfl
 | 5, _ => rfl
 | 6, h => absurd rfl h
 | _ + 7, _ => rfl
theorem copied_len {r : List MapDisk} (n : Nat) : ∀ (d i : Nat) (v : List MapDisk), v.length = n → loopN (fun i3 (v10 : List MapDisk) κ11 => ix v10 ((i3 : Nat) : Int) (fun _ => (i_copied_int ((v10.getD i3 default).Acks)).bind (fun y12 => ix v10 ((i3 : Nat) : Int) (fun _ => lt (v10.set i3 ({ Id := (v10.getD i3 default).Id, Size := (v10.getD i3 default).Size, Epoch := (v10.getD i3 default).Epoch, Frozen := (v10.getD i3 default).Frozen, Client := (v10.getD i3 default).Client, Call := (v10.getD i3 default).Call, Acks := y12 } : MapDisk)) (fun r13 => κ11 r13))))) (fun (v10 : List MapDisk) => some v10) d i v = some r → r.length = n
 | 0, i, v, hv, h => by
  have : some v = some r := h
  rw [← Option.some.inj this]; exact hv
 | d + 1, i, v, hv, h => by
  rw [loopN] at h
  have h := (ixE h).2.2
  obtain ⟨y, _, h⟩ := Option.bind_eq_some_iff.1 h
  have h := (ixE h).2.2
  exact copied_len n d (i + 1) _ (by simpa using hv) h
theorem i_disksCopy_x {t0_0 : Bool} {a0 : (List MapDisk)} {r : (List MapDisk)} (hF : i_disksCopy a0 = some r) : Con Tryz.prog 228 [.val false [.u (ul MapDisk.c 7 t0_0 a0)]] [] (.val false [.row 0]) [.row 176 r.length 7 (gl MapDisk.cx r)] := by
 refine Con.of_Dz tabOk Tryz.func228 rfl rfl rfl ?_
 delta i_disksCopy at hF
 refine Dz.seq (Dz.reg (Dz.seq (Dz.reg ?_)))
 refine bdE hF (fun y1 hy1 hF => ?_)
 refine callG [] (i_copied_MapDisk_c hy1) ⟨mv rfl, tv⟩ tv rfl ?_
 have hlen := copied_len y1.length _ 0 _ rfl hF
 refine Dz.seq (Dz.seq (Dz.reg ?_))
 intro hb2; replace hb2 : y1.length ≤ 140737488355328 := hb2
 refine Dz.blk ?_
 refine Dz.cnt hF (fun i3 v10 => ([(3, .val false [.row 0]), (8, vint .i64 ((y1.length : Nat) : Int)), (9, vint .i64 ((i3 : Nat) : Int))], [.row 176 y1.length 7 (gmx i3 v10)])) (entG [0] ⟨⟨rfl, rfl, tv⟩, mv rfl, mv rfl, tv⟩ ⟨⟨rfl, o_rowE rfl gmx_0⟩, tv⟩ rfl) (fun v10 hF => ?_) (fun i3 v10 κ11 hi0i3 hi1i3 hF => ?_)
 ·refine Dz.seq (Dz.reg (Dz.seq ?_))
  refine Dz.ff (b := decide (((0 + y1.length : Nat) : Int) < ((y1.length : Nat) : Int))) rfl (decide_eq_false (by omega)) ?_
  refine Dz.exit (Dz.seq (Dz.reg (Dz.ret ?_)))
  cases hF
  exact finG [] [0] rfl rfl (⟨rfl, rfl, tv⟩) ⟨⟨rfl, o_rowE hlen.symm (by rw [Nat.zero_add]; exact gmx_all)⟩, tv⟩ rfl
 ·refine Dz.seq (Dz.reg (Dz.seq ?_))
  refine Dz.tt (b := decide (((i3 : Nat) : Int) < ((y1.length : Nat) : Int))) rfl (decide_eq_true (by omega)) ?_
  refine Dz.skip (Dz.seq (Dz.blk (Dz.seq (Dz.reg (Dz.reg ?_)))))
  obtain ⟨_, hi3, hF⟩ := ixE hF
  refine ⟨⟨by omega, by omega⟩, ?_⟩
  refine bdE hF (fun y12 hy12 hF => ?_)
  refine callG [] (i_copied_int_x (t0_0 := false) hy12) ⟨⟨rfl, gmx_get, tv⟩, tv⟩ tv rfl ?_
  obtain ⟨_, _, hF⟩ := ixE hF
  refine ⟨⟨by omega, by omega⟩, ?_⟩
  refine ltX hF (fun r13 hr13 hF => ?_)
  have hlr13 : r13.length = v10.length := by rw [hr13]; simp <;> omega
  refine Dz.row 0 y1.length (gmx (i3 + 1) r13) rfl rfl (by rw [hr13]; exact (gmx_set (by omega) rfl (c_but _ _))) ?_
  refine Dz.reg ?_
  refine vsucc (by omega) ?_
  exact ⟨r13, entG [0] ⟨⟨rfl, rfl, tv⟩, mv rfl, mv rfl, tv⟩ ⟨⟨rfl, o_row⟩, tv⟩ rfl, hF⟩
theorem i_mapCopy_x {t0_3 t0_4 t0_5 : Bool} {a0 : MapState} {r : MapState} (hF : i_mapCopy a0 = some r) : Con Tryz.prog 183 [.val true [.u (cI a0.Slots), .u (cI a0.Servers), .u (cI a0.Next), .u (ul MapDisk.c 7 t0_3 a0.Disks), .u (ul MapView.c 3 t0_4 a0.Views), .u (ul MapDone.c 4 t0_5 a0.Done)]] [] (.val true [.u (cI r.Slots), .u (cI r.Servers), .u (cI r.Next), .row 0, .row 1, .row 2]) [.row 176 r.Disks.length 7 (gl MapDisk.cx r.Disks), .row 87 r.Views.length 3 (gl MapView.c r.Views), .row 227 r.Done.length 4 (gl MapDone.c r.Done)] := by
 refine Con.of_Dz tabOk Tryz.func183 rfl rfl rfl ?_
 delta i_mapCopy at hF
 refine Dz.seq (Dz.reg (Dz.seq (Dz.reg (Dz.seq (Dz.reg ?_)))))
 refine bdE hF (fun y1 hy1 hF => ?_)
 refine callG [] (i_disksCopy_x hy1) ⟨mv rfl, tv⟩ tv rfl ?_
 refine Dz.seq (Dz.reg ?_)
 refine bdE hF (fun y2 hy2 hF => ?_)
 refine callG [] (i_copied_MapView_c hy2) ⟨mv rfl, tv⟩ tv rfl ?_
 refine Dz.seq (Dz.reg ?_)
 refine bdE hF (fun y3 hy3 hF => ?_)
 refine callG [] (i_copied_MapDone_c hy3) ⟨mv rfl, tv⟩ tv rfl ?_
 refine Dz.seq (Dz.reg (Dz.ret ?_))
 cases hF
 exact finG [] [3, 4, 5] rfl rfl (⟨rfl, lr, lr, lr, rfl, rfl, rfl, tv⟩) ⟨⟨rfl, o_row⟩, ⟨rfl, o_row⟩, ⟨rfl, o_row⟩, tv⟩ rfl
def i_hasNumber (a0 : (List Int)) (a1 : Int) : Option (Bool) :=
 loopN (fun i2 (v3 : Unit) κ4 => cond (decide ((a0.getD i2 default) = a1)) (some true) (κ4 ())) (fun (v3 : Unit) => some false) a0.length 0 ()
theorem i_hasNumber_c {t0_0 : Bool} {a0 : (List Int)} {a1 : Int} {r : Bool} (hF : i_hasNumber a0 a1 = some r) : Con Tryz.prog 231 [.val false [.u (ul cInt 1 t0_0 a0)], vint .i64 a1] [] (vbool r) [] := by
 refine Con.of_Dz tabOk Tryz.func231 rfl rfl rfl ?_
 delta i_hasNumber at hF
 refine Dz.seq (Dz.reg (Dz.seq (Dz.seq (Dz.reg ?_))))
 intro hb1; replace hb1 : a0.length ≤ 140737488355328 := hb1
 refine Dz.blk ?_
 refine Dz.cnt hF (fun i2 v3 => ([(1, vint .i64 a1), (7, .val false [.u (ul cInt 1 t0_0 a0)]), (8, vint .i64 ((a0.length : Nat) : Int)), (9, vint .i64 ((i2 : Nat) : Int))], [])) (entG [] ⟨mv rfl, mv rfl, mv rfl, mv rfl, tv⟩ tv rfl) (fun v3 hF => ?_) (fun i2 v3 κ4 hi0i2 hi1i2 hF => ?_)
 ·refine Dz.seq (Dz.reg (Dz.seq ?_))
  refine Dz.ff (b := decide (((0 + a0.length : Nat) : Int) < ((a0.length : Nat) : Int))) rfl (decide_eq_false (by omega)) ?_
  refine Dz.exit (Dz.seq (Dz.reg (Dz.ret ?_)))
  cases hF
  exact finG [] [] rfl rfl (mv rfl) tv rfl
 ·refine Dz.seq (Dz.reg (Dz.seq ?_))
  refine Dz.tt (b := decide (((i2 : Nat) : Int) < ((a0.length : Nat) : Int))) rfl (decide_eq_true (by omega)) ?_
  refine Dz.skip (Dz.seq (Dz.blk (Dz.seq (Dz.reg ?_))))
  refine vge (n := ((i2 : Nat) : Int)) (hi := (a0.length : Int)) (by omega) (by omega) ?_
  refine Dz.seq (Dz.reg ?_)
  refine Dz.ite rfl hF (fun _ hF => ?_) (fun _ hF => ?_)
  ·refine Dz.seq (Dz.reg (Dz.ret ?_))
   cases hF
   exact finG [] [] rfl rfl (mv rfl) tv rfl
  ·refine Dz.skip (Dz.reg ?_)
   refine vsucc (by omega) ?_
   exact ⟨(), entG [] ⟨mv rfl, mv rfl, mv rfl, mv rfl, tv⟩ tv rfl, hF⟩
def MapDisk.Lx (x : MapDisk) : List Vs.L := [.u (cI x.Id), .u (cI x.Size), .u (cI x.Epoch), .u (cI x.Frozen), .u (cI x.Client), .u (cI x.Call), .u (xul cInt 1 x.Acks)]
theorem xul_ul {L : List Int} {t : Bool} : LeU (xul cInt 1 L) (ul cInt 1 t L) := ⟨_, _, _, .inl ⟨t, rfl⟩, rfl, fun _ => rfl, fun i _ j _ => lr⟩
def i_doAck (a0 : MapState) (a1 : Cmd) : Option (MapState) :=
 (i_diskAt a0.Disks a1.Disk).bind (fun y1 => cond (decide (y1 < 0)) (some a0) ((i_isRange a1.Range).bind (fun y2 => cond (!y2) (some a0) (ix a0.Disks y1 (fun _ => lt (a0.Disks.getD y1.toNat default) (fun x3 => cond (decide (x3.Frozen = 0)) (some a0) (cond (!decide (x3.Epoch = a1.Epoch)) (some a0) (ix a0.Views a1.Range (fun x4 => cond (!decide (x4.Num = a1.Num)) (some a0) ((i_hasNumber x3.Acks a1.Range).bind (fun y5 => cond y5 (some a0) (ck ((x3.Acks.length + 1) * 8 ≤ 140737488355328) (cond (decide ((((x3.Acks ++ ([a1.Range] : List Int)).length : Nat) : Int) < 3)) (ix a0.Disks y1 (fun _ => lt (a0.Disks.set y1.toNat ({ Id := x3.Id, Size := x3.Size, Epoch := x3.Epoch, Frozen := x3.Frozen, Client := x3.Client, Call := x3.Call, Acks := (x3.Acks ++ ([a1.Range] : List Int)) } : MapDisk)) (fun r7 => some ({ Slots := a0.Slots, Servers := a0.Servers, Next := a0.Next, Disks := r7, Views := a0.Views, Done := a0.Done } : MapState)))) (jn (fun (v10 : Int × List MapDisk) => (i_doneOf ({ Slots := a0.Slots, Servers := a0.Servers, Next := a0.Next, Disks := v10.2, Views := a0.Views, Done := a0.Done } : MapState) x3.Client).bind (fun y11 => cond (decide (x3.Call < y11.Call)) (some ({ Slots := a0.Slots, Servers := a0.Servers, Next := a0.Next, Disks := v10.2, Views := a0.Views, Done := a0.Done } : MapState)) ((i_tell ({ Slots := a0.Slots, Servers := a0.Servers, Next := a0.Next, Disks := v10.2, Views := a0.Views, Done := a0.Done } : MapState) ({ Client := x3.Client, Call := x3.Call, Code := 0, Value := v10.1 } : MapDone)).bind (fun y12 => some y12)))) (fun j13 => cond (decide (x3.Frozen = 1)) (ix a0.Disks y1 (fun _ => j13 (x3.Epoch, (a0.Disks.set y1.toNat ({ Id := x3.Id, Size := x3.Size, Epoch := (w64 (x3.Epoch + 1)), Frozen := 0, Client := 0, Call := 0, Acks := [] } : MapDisk))))) (ck (0 ≤ y1 ∧ y1 ≤ ((a0.Disks.length : Nat) : Int)) (ck (0 ≤ (w64 (y1 + 1)) ∧ (w64 (y1 + 1)) ≤ ((a0.Disks.length : Nat) : Int)) (ck ((y1.toNat + (a0.Disks.length - (w64 (y1 + 1)).toNat)) * 72 ≤ 140737488355328) (j13 (0, (a0.Disks.take y1.toNat ++ a0.Disks.drop ((w64 (y1 + 1)).toNat))))))))))))))))))))))
theorem i_doAck_x {a0 : MapState} {a1 : Cmd} {r : MapState} (hF : i_doAck a0 a1 = some r) : Con Tryz.prog 185 [.val true [.u (cI a0.Slots), .u (cI a0.Servers), .u (cI a0.Next), .row 0, .u (ul MapView.c 3 false a0.Views), .u (ul MapDone.c 4 false a0.Done)], .val true (Cmd.L a1)] [.row 176 a0.Disks.length 7 (gl MapDisk.cx a0.Disks)] (.val true (MapState.L r)) [.none] := by
 refine Con.of_Dz tabOk Tryz.func185 rfl rfl rfl ?_
 delta i_doAck at hF
 refine Dz.seq (Dz.reg (Dz.seq (Dz.reg ?_)))
 refine bdE hF (fun y1 hy1 hF => ?_)
 refine callL [] (i_diskAt_c hy1) ⟨⟨rfl, ⟨rfl, rfl, LeU.cut rfl EqG.cx⟩, tv⟩, mv rfl, tv⟩ tv rfl ⟨⟨tv, tv⟩, tv⟩ ?_
 refine Dz.seq (Dz.seq (Dz.reg ?_))
 refine vif hF (fun _ hF => ?_) (fun _ hF => ?_)
 ·refine Dz.tt (b := true) rfl rfl ?_
  refine Dz.seq (Dz.reg ?_)
  refine Dz.row 0 a0.Disks.length (gl MapDisk.c a0.Disks) rfl rfl EqG.cx ?_
  refine Dz.ret ?_
  cases hF
  exact finG [.frz 0] [0] rfl rfl (⟨rfl, lr, lr, lr, lr, lr, lr, tv⟩) ⟨⟨rfl, tv⟩, tv⟩ rfl
 ·refine bdE hF (fun y2 hy2 hF => ?_)
  refine callG [] (i_isRange_c hy2) ⟨mv rfl, tv⟩ tv rfl ?_
  refine Dz.ite rfl hF (fun _ hF => ?_) (fun _ hF => ?_)
  ·refine Dz.seq (Dz.reg ?_)
   refine Dz.row 0 a0.Disks.length (gl MapDisk.c a0.Disks) rfl rfl EqG.cx ?_
   refine Dz.ret ?_
   cases hF
   exact finG [.frz 0] [0] rfl rfl (⟨rfl, lr, lr, lr, lr, lr, lr, tv⟩) ⟨⟨rfl, tv⟩, tv⟩ rfl
  ·refine Dz.skip (Dz.seq (Dz.reg ?_))
   refine vix hF (fun _ _ hF => ?_)
   have hF := ltE hF
   refine Dz.seq (Dz.seq ?_)
   refine Dz.drw 5 [⟨[], [], 5, 5⟩, ⟨[], [4], 5, 5⟩, ⟨[], [], 5, 5⟩, ⟨[], [], 5, 5⟩, ⟨[33,34], [], 5, 5⟩, ⟨[33,34], [4], 5, 5⟩, ⟨[31,32], [], 5, 5⟩, ⟨[31,32], [2], 5, 5⟩, ⟨[], [], 5, 5⟩, ⟨[], [], 5, 5⟩, ⟨[], [], 5, 5⟩, ⟨[40,41,45,46], [], 5, 5⟩, ⟨[40,41,45,46], [1], 5, 5⟩, ⟨[38,39,45,46], [], 5, 5⟩, ⟨[38,39,45,46], [2], 5, 5⟩, ⟨[45,46], [], 5, 5⟩, ⟨[45,46], [], 5, 5⟩, ⟨[45,46], [], 5, 5⟩, ⟨[38,39,40,41,42,43,44], [], 5, 5⟩, ⟨[38,39,40,41,42,43,44], [2], 5, 5⟩, ⟨[], [], 5, 5⟩, ⟨[], [], 5, 5⟩, ⟨[], [], 5, 5⟩, ⟨[52,53], [], 5, 5⟩, ⟨[52,53], [4], 5, 5⟩, ⟨[50,51], [], 5, 5⟩, ⟨[50,51], [2], 5, 5⟩, ⟨[], [], 5, 5⟩, ⟨[], [], 5, 5⟩] ⟨by kernel_rfl, by kernel_rfl, rfl⟩ ?_
   refine vif hF (fun _ hF => ?_) (fun _ hF => ?_)
   ·refine Dz.tt (b := true) rfl rfl ?_
    refine Dz.seq (Dz.reg ?_)
    refine Dz.row 0 a0.Disks.length (gl MapDisk.c a0.Disks) rfl rfl EqG.cx ?_
    refine Dz.ret ?_
    cases hF
    exact finG [.frz 0] [0] rfl rfl (⟨rfl, lr, lr, lr, lr, lr, lr, tv⟩) ⟨⟨rfl, tv⟩, tv⟩ rfl
   ·refine vif hF (fun _ hF => ?_) (fun _ hF => ?_)
    ·refine Dz.tt (b := true) rfl rfl ?_
     refine Dz.seq (Dz.reg ?_)
     refine Dz.row 0 a0.Disks.length (gl MapDisk.c a0.Disks) rfl rfl EqG.cx ?_
     refine Dz.ret ?_
     cases hF
     exact finG [.frz 0] [0] rfl rfl (⟨rfl, lr, lr, lr, lr, lr, lr, tv⟩) ⟨⟨rfl, tv⟩, tv⟩ rfl
    ·refine vix hF (fun _ _ hF => ?_)
     refine vif hF (fun _ hF => ?_) (fun _ hF => ?_)
     ·refine Dz.tt (b := true) rfl rfl ?_
      refine Dz.seq (Dz.reg ?_)
      refine Dz.row 0 a0.Disks.length (gl MapDisk.c a0.Disks) rfl rfl EqG.cx ?_
      refine Dz.ret ?_
      cases hF
      exact finG [.frz 0] [0] rfl rfl (⟨rfl, lr, lr, lr, lr, lr, lr, tv⟩) ⟨⟨rfl, tv⟩, tv⟩ rfl
     ·refine bdE hF (fun y5 hy5 hF => ?_)
      refine callG [] (i_hasNumber_c (t0_0 := false) hy5) ⟨⟨rfl, xul_ul, tv⟩, mv rfl, tv⟩ tv rfl ?_
      refine Dz.ite rfl hF (fun _ hF => ?_) (fun _ hF => ?_)
      ·refine Dz.seq (Dz.reg ?_)
       refine Dz.row 0 a0.Disks.length (gl MapDisk.c a0.Disks) rfl rfl EqG.cx ?_
       refine Dz.ret ?_
       cases hF
       exact finG [.frz 0] [0] rfl rfl (⟨rfl, lr, lr, lr, lr, lr, lr, tv⟩) ⟨⟨rfl, tv⟩, tv⟩ rfl
      ·refine Dz.skip (Dz.seq (Dz.reg ?_))
       refine vck hF id (fun _ hF => ?_)
       refine Dz.row 0 a0.Disks.length (gl MapDisk.c a0.Disks) rfl rfl EqG.cx ?_
       refine Dz.row 5 ([a1.Range] : List Int).length (gl cInt ([a1.Range] : List Int)) rfl (by simp <;> omega) (EqG.lit (c := cInt) (sz := 1) (L := ([a1.Range] : List Int)) ⟨lr, tv⟩) ?_
       refine Dz.row 6 ((a0.Disks.getD y1.toNat default).Acks ++ ([a1.Range] : List Int)).length (gl cInt ((a0.Disks.getD y1.toNat default).Acks ++ ([a1.Range] : List Int))) rfl (by simp <;> omega) (EqG.app rfl (by simp <;> omega) (EqG.refl _ _ _) (EqG.lit (c := cInt) (sz := 1) (L := ([a1.Range] : List Int)) ⟨lr, tv⟩)) ?_
       refine Dz.seq (Dz.seq (Dz.reg ?_))
       intro hb6; replace hb6 : ((a0.Disks.getD y1.toNat default).Acks ++ ([a1.Range] : List Int)).length ≤ 140737488355328 := hb6
       refine Dz.ite rfl hF (fun _ hF => ?_) (fun _ hF => ?_)
       ·refine Dz.seq (Dz.reg ?_)
        refine vix hF (fun _ _ hF => ?_)
        refine ltX hF (fun r7 hr7 hF => ?_)
        have hlr7 : r7.length = a0.Disks.length := by rw [hr7]; simp <;> omega
        refine Dz.row 0 r7.length (gl MapDisk.c r7) rfl (by rw [hr7]; simp <;> omega) (by rw [hr7]; exact (EqG.set' rfl (EqG.refl _ _ _) ⟨lr, lr, lr, lr, lr, lr, lr, tv⟩)) ?_
        refine Dz.seq (Dz.reg (Dz.ret ?_))
        cases hF
        exact finG [.frz 0] [0] rfl rfl (⟨rfl, lr, lr, lr, lr, lr, lr, tv⟩) ⟨⟨rfl, tv⟩, tv⟩ rfl
       ·refine Dz.skip (Dz.seq (Dz.reg ?_))
        refine Dz.jn hF (fun v10 => ([(2, .ptr 1 0), (4, .ptr 2 0), (6, .ptr 3 0), (7, .ptr 4 0)], [.none, .box 78 [.u (cI a0.Slots), .u (cI a0.Servers), .u (cI a0.Next), .row 5, .u (ul MapView.c 3 false a0.Views), .u (ul MapDone.c 4 false a0.Done)], .box 78 [.u (cI 0), .u (cI 0), .u (cI 0), .nil, .nil, .nil], .box 176 [.u (cI ((a0.Disks.getD y1.toNat default).Id)), .u (cI ((a0.Disks.getD y1.toNat default).Size)), .u (cI ((a0.Disks.getD y1.toNat default).Epoch)), .u (cI ((a0.Disks.getD y1.toNat default).Frozen)), .u (cI ((a0.Disks.getD y1.toNat default).Client)), .u (cI ((a0.Disks.getD y1.toNat default).Call)), .row 6], .box 227 [.u (cI ((a0.Disks.getD y1.toNat default).Client)), .u (cI ((a0.Disks.getD y1.toNat default).Call)), .u (cI 0), .u (cI v10.1)], .row 176 v10.2.length 7 (gl MapDisk.c v10.2), .row 3 (((a0.Disks.getD y1.toNat default).Acks ++ ([a1.Range] : List Int)).length) 1 (gl cInt ((a0.Disks.getD y1.toNat default).Acks ++ ([a1.Range] : List Int)))])) (fun v10 hF => ?_) (fun hF => ?_)
        ·refine Dz.seq (Dz.seq ?_)
         refine Dz.drw 7 [⟨[109,110,113,114], [1], 7, 7⟩, ⟨[108,113,114], [], 7, 7⟩, ⟨[108,113,114], [3], 7, 7⟩, ⟨[113,114], [5], 7, 7⟩, ⟨[113,114], [], 7, 7⟩, ⟨[108,109,110,111,112], [], 7, 7⟩, ⟨[108,109,110,111,112], [3], 7, 7⟩, ⟨[], [], 7, 7⟩] ⟨by kernel_rfl, by kernel_rfl, rfl⟩ ?_
         refine bdE hF (fun y11 hy11 hF => ?_)
         refine callL [] (i_doneOf_c hy11) ⟨⟨rfl, lr, lr, lr, ⟨rfl, rfl, lr⟩, lr, lr, tv⟩, mv rfl, tv⟩ tv rfl ⟨⟨tv, tv, tv, tv, tv⟩, tv⟩ ?_
         refine Dz.ite rfl hF (fun _ hF => ?_) (fun _ hF => ?_)
         ·refine Dz.seq (Dz.reg (Dz.ret ?_))
          cases hF
          exact finG [.frz 5] [0] rfl rfl (⟨rfl, lr, lr, lr, lr, lr, lr, tv⟩) ⟨⟨rfl, tv⟩, tv⟩ rfl
         ·refine Dz.skip (Dz.seq (Dz.reg ?_))
          refine bdE hF (fun y12 hy12 hF => ?_)
          refine callF [5] [] (i_tell_c hy12) ⟨⟨rfl, lr, lr, lr, lr, lr, lr, tv⟩, mv rfl, tv⟩ tv rfl ?_
          refine Dz.ret ?_
          cases hF
          exact finG [.frz 7] [0] rfl rfl (⟨rfl, lr, lr, lr, lr, lr, lr, tv⟩) ⟨⟨rfl, tv⟩, tv⟩ rfl
        ·refine Dz.seq (Dz.reg ?_)
         refine Dz.ite rfl hF (fun _ hF => ?_) (fun _ hF => ?_)
         ·refine Dz.seq (Dz.reg (Dz.reg (vw64 ?_)))
          refine vix hF (fun _ _ hF => ?_)
          exact ⟨((a0.Disks.getD y1.toNat default).Epoch, (a0.Disks.set y1.toNat ({ Id := (a0.Disks.getD y1.toNat default).Id, Size := (a0.Disks.getD y1.toNat default).Size, Epoch := (w64 ((a0.Disks.getD y1.toNat default).Epoch + 1)), Frozen := 0, Client := 0, Call := 0, Acks := [] } : MapDisk))), entG [0, 1, 3, 4, 7, 0, 6] ⟨mp rfl, mp rfl, mp rfl, mp rfl, tv⟩ ⟨⟨rfl, tv⟩, ⟨rfl, ⟨rfl, lr, lr, lr, rfl, lr, lr, tv⟩⟩, ⟨rfl, ⟨rfl, lr, lr, lr, tv, tv, tv, tv⟩⟩, ⟨rfl, ⟨rfl, lr, lr, lr, lr, lr, lr, rfl, tv⟩⟩, ⟨rfl, o_box rfl⟩, ⟨rfl, o_rowE (by simp <;> omega) (EqG.set' rfl (EqG.refl _ _ _) ⟨lr, lr, lr, lr, lr, lr, LeU.nil, tv⟩)⟩, ⟨rfl, o_row⟩, tv⟩ rfl, hF⟩
         ·refine Dz.drw 8 [⟨[99,101,102,103,104,105], [], 8, 8⟩, ⟨[99,101,102,103,104,105], [1], 8, 8⟩, ⟨[97,98,101,102,103,104,105], [], 8, 8⟩, ⟨[101,102,103,104,105], [0], 8, 8⟩, ⟨[97,98,99,100,103,104], [], 8, 8⟩, ⟨[97,98,99,100,103,104], [1], 8, 8⟩, ⟨[97,98,99,100,101,102], [], 8, 8⟩, ⟨[97,98,99,100,101,102], [], 8, 8⟩, ⟨[97,98,99,100], [0], 8, 8⟩, ⟨[], [0], 8, 9⟩, ⟨[], [], 9, 9⟩, ⟨[], [1], 9, 9⟩] ⟨by kernel_rfl, by kernel_rfl, rfl⟩ ?_
          refine vck hF id (fun _ hF => ?_)
          refine vw64 ?_
          refine vck hF id (fun _ hF => ?_)
          refine vck hF id (fun _ hF => ?_)
          exact ⟨(0, (a0.Disks.take y1.toNat ++ a0.Disks.drop ((w64 (y1 + 1)).toNat))), entG [0, 1, 3, 4, 7, 8, 6] ⟨mp rfl, mp rfl, mp rfl, mp rfl, tv⟩ ⟨⟨rfl, tv⟩, ⟨rfl, ⟨rfl, lr, lr, lr, rfl, lr, lr, tv⟩⟩, ⟨rfl, ⟨rfl, lr, lr, lr, tv, tv, tv, tv⟩⟩, ⟨rfl, ⟨rfl, lr, lr, lr, lr, lr, lr, rfl, tv⟩⟩, ⟨rfl, o_box rfl⟩, ⟨rfl, o_rowE (by simp <;> omega) (EqG.app (by simp <;> omega) (by simp <;> omega) (EqG.take _) (EqG.drop _))⟩, ⟨rfl, o_row⟩, tv⟩ rfl, hF⟩
def i_mapDo (a0 : MapState) (a1 : Cmd) : Option (MapState) :=
 (i_mapCopy a0).bind (fun y1 => (i_cmdOk a1).bind (fun y2 => cond (!y2) ((i_mapCopy ({ Slots := (w64 (y1.Slots + 1)), Servers := y1.Servers, Next := y1.Next, Disks := y1.Disks, Views := y1.Views, Done := y1.Done } : MapState)).bind (fun y3 => some y3)) (cond (decide (a1.Kind = 0)) ((i_mapCopy ({ Slots := (w64 (y1.Slots + 1)), Servers := y1.Servers, Next := y1.Next, Disks := y1.Disks, Views := y1.Views, Done := y1.Done } : MapState)).bind (fun y4 => some y4)) (cond (decide (a1.Kind = 5)) ((i_doView ({ Slots := (w64 (y1.Slots + 1)), Servers := y1.Servers, Next := y1.Next, Disks := y1.Disks, Views := y1.Views, Done := y1.Done } : MapState) a1).bind (fun y5 => (i_mapCopy y5).bind (fun y6 => some y6))) (cond (decide (a1.Kind = 6)) ((i_doAck ({ Slots := (w64 (y1.Slots + 1)), Servers := y1.Servers, Next := y1.Next, Disks := y1.Disks, Views := y1.Views, Done := y1.Done } : MapState) a1).bind (fun y7 => (i_mapCopy y7).bind (fun y8 => some y8))) ((i_doCall ({ Slots := (w64 (y1.Slots + 1)), Servers := y1.Servers, Next := y1.Next, Disks := y1.Disks, Views := y1.Views, Done := y1.Done } : MapState) a1).bind (fun y9 => (i_mapCopy y9).bind (fun y10 => some y10))))))))
theorem i_mapDo_c {t0_3 t0_4 t0_5 : Bool} {a0 : MapState} {a1 : Cmd} {r : MapState} (hF : i_mapDo a0 a1 = some r) : Con Tryz.prog 106 [.val true [.u (cI a0.Slots), .u (cI a0.Servers), .u (cI a0.Next), .u (ul MapDisk.c 7 t0_3 a0.Disks), .u (ul MapView.c 3 t0_4 a0.Views), .u (ul MapDone.c 4 t0_5 a0.Done)], .val true (Cmd.L a1)] [] (.val true [.u (cI r.Slots), .u (cI r.Servers), .u (cI r.Next), .row 0, .row 1, .row 2]) [.row 176 r.Disks.length 7 (gl MapDisk.c r.Disks), .row 87 r.Views.length 3 (gl MapView.c r.Views), .row 227 r.Done.length 4 (gl MapDone.c r.Done)] := by
 refine Con.of_Dz tabOk Tryz.func106 rfl rfl rfl ?_
 delta i_mapDo at hF
 refine Dz.seq (Dz.reg (Dz.seq (Dz.reg ?_)))
 refine bdE hF (fun y1 hy1 hF => ?_)
 refine callG [] (i_mapCopy_x hy1) ⟨mv rfl, tv⟩ tv rfl ?_
 refine Dz.seq (Dz.reg (vw64 (Dz.seq (Dz.blk (Dz.seq (Dz.reg ?_))))))
 refine bdE hF (fun y2 hy2 hF => ?_)
 refine callG [] (i_cmdOk_c hy2) ⟨mv rfl, tv⟩ tv rfl ?_
 refine vif hF (fun _ hF => ?_) (fun _ hF => ?_)
 ·refine Dz.tt (b := true) rfl rfl ?_
  refine Dz.skip (Dz.seq ?_)
  refine Dz.row 3 y1.Disks.length (gl MapDisk.c y1.Disks) rfl rfl EqG.cx ?_
  refine Dz.reg ?_
  refine bdE hF (fun y3 hy3 hF => ?_)
  refine callL [] (i_mapCopy_c hy3) ⟨⟨rfl, lr, lr, lr, ⟨rfl, rfl, lr⟩, ⟨rfl, rfl, lr⟩, ⟨rfl, rfl, lr⟩, tv⟩, tv⟩ tv rfl ⟨⟨tv, tv, tv, tv, tv, tv, tv⟩, ⟨ntm_gl, ntm_gl, ntm_gl, tv⟩⟩ ?_
  refine Dz.ret ?_
  cases hF
  exact finG [] [7, 8, 9] rfl rfl (⟨rfl, lr, lr, lr, rfl, rfl, rfl, tv⟩) ⟨⟨rfl, o_row⟩, ⟨rfl, o_row⟩, ⟨rfl, o_row⟩, tv⟩ rfl
 ·refine Dz.ite rfl hF (fun _ hF => ?_) (fun _ hF => ?_)
  ·refine Dz.skip (Dz.seq ?_)
   refine Dz.row 3 y1.Disks.length (gl MapDisk.c y1.Disks) rfl rfl EqG.cx ?_
   refine Dz.reg ?_
   refine bdE hF (fun y4 hy4 hF => ?_)
   refine callL [] (i_mapCopy_c hy4) ⟨⟨rfl, lr, lr, lr, ⟨rfl, rfl, lr⟩, ⟨rfl, rfl, lr⟩, ⟨rfl, rfl, lr⟩, tv⟩, tv⟩ tv rfl ⟨⟨tv, tv, tv, tv, tv, tv, tv⟩, ⟨ntm_gl, ntm_gl, ntm_gl, tv⟩⟩ ?_
   refine Dz.ret ?_
   cases hF
   exact finG [] [7, 8, 9] rfl rfl (⟨rfl, lr, lr, lr, rfl, rfl, rfl, tv⟩) ⟨⟨rfl, o_row⟩, ⟨rfl, o_row⟩, ⟨rfl, o_row⟩, tv⟩ rfl
  ·refine Dz.seq (Dz.reg ?_)
   refine Dz.ite rfl hF (fun _ hF => ?_) (fun _ hF => ?_)
   ·refine Dz.row 3 y1.Disks.length (gl MapDisk.c y1.Disks) rfl rfl EqG.cx ?_
    refine Dz.reg ?_
    refine bdE hF (fun y5 hy5 hF => ?_)
    refine callF [3, 5] [4] (i_doView_c hy5) ⟨⟨rfl, lr, lr, lr, lr, rfl, lr, tv⟩, mv rfl, tv⟩ ⟨⟨rfl, o_row⟩, tv⟩ rfl ?_
    refine Dz.seq (Dz.reg ?_)
    refine bdE hF (fun y6 hy6 hF => ?_)
    refine callL [] (i_mapCopy_c hy6) ⟨⟨rfl, lr, lr, lr, lr, ⟨rfl, rfl, lr⟩, lr, tv⟩, tv⟩ tv rfl ⟨⟨tv, tv, tv, tv, tv, tv, tv⟩, ⟨ntm_gl, ntm_gl, ntm_gl, tv⟩⟩ ?_
    refine Dz.ret ?_
    cases hF
    exact finG [] [7, 8, 9] rfl rfl (⟨rfl, lr, lr, lr, rfl, rfl, rfl, tv⟩) ⟨⟨rfl, o_row⟩, ⟨rfl, o_row⟩, ⟨rfl, o_row⟩, tv⟩ rfl
   ·refine Dz.seq (Dz.reg ?_)
    refine Dz.ite rfl hF (fun _ hF => ?_) (fun _ hF => ?_)
    ·refine Dz.reg ?_
     refine bdE hF (fun y7 hy7 hF => ?_)
     refine callF [4, 5] [3] (i_doAck_x hy7) ⟨⟨rfl, lr, lr, lr, rfl, lr, lr, tv⟩, mv rfl, tv⟩ ⟨⟨rfl, o_row⟩, tv⟩ rfl ?_
     refine Dz.seq (Dz.reg ?_)
     refine bdE hF (fun y8 hy8 hF => ?_)
     refine callG [] (i_mapCopy_c hy8) ⟨mv rfl, tv⟩ tv rfl ?_
     refine Dz.ret ?_
     cases hF
     exact finG [] [7, 8, 9] rfl rfl (⟨rfl, lr, lr, lr, rfl, rfl, rfl, tv⟩) ⟨⟨rfl, o_row⟩, ⟨rfl, o_row⟩, ⟨rfl, o_row⟩, tv⟩ rfl
    ·refine Dz.row 3 y1.Disks.length (gl MapDisk.c y1.Disks) rfl rfl EqG.cx ?_
     refine Dz.reg ?_
     refine bdE hF (fun y9 hy9 hF => ?_)
     refine callF [4, 5] [3] (i_doCall_c hy9) ⟨⟨rfl, lr, lr, lr, rfl, lr, lr, tv⟩, mv rfl, tv⟩ ⟨⟨rfl, o_row⟩, tv⟩ rfl ?_
     refine Dz.seq (Dz.reg ?_)
     refine bdE hF (fun y10 hy10 hF => ?_)
     refine callG [] (i_mapCopy_c hy10) ⟨mv rfl, tv⟩ tv rfl ?_
     refine Dz.ret ?_
     cases hF
     exact finG [] [7, 8, 9] rfl rfl (⟨rfl, lr, lr, lr, rfl, rfl, rfl, tv⟩) ⟨⟨rfl, o_row⟩, ⟨rfl, o_row⟩, ⟨rfl, o_row⟩, tv⟩ rfl
def i_MapOf (a0 : (List Cmd)) : Option (MapState) :=
 cond (decide ((60 : Int) < ((a0.length : Nat) : Int))) (some ({ Slots := 0, Servers := 0, Next := 0, Disks := ([] : List MapDisk), Views := ([] : List MapView), Done := ([] : List MapDone) } : MapState)) ((i_MapStart).bind (fun y2 => loopN (fun i4 (v11 : MapState) κ12 => lt (a0.getD i4 default) (fun x13 => (i_mapDo v11 x13).bind (fun y14 => κ12 y14))) (fun (v11 : MapState) => some v11) a0.length 0 y2))
theorem i_MapOf_c {t0_0 : Bool} {a0 : (List Cmd)} {r : MapState} (hF : i_MapOf a0 = some r) : Con Tryz.prog 42 [.val false [.u (ul Cmd.c 10 t0_0 a0)]] [] (.val true [.u (cI r.Slots), .u (cI r.Servers), .u (cI r.Next), .row 0, .row 1, .row 2]) [.row 176 r.Disks.length 7 (gl MapDisk.c r.Disks), .row 87 r.Views.length 3 (gl MapView.c r.Views), .row 227 r.Done.length 4 (gl MapDone.c r.Done)] := by
 refine Con.of_Dz tabOk Tryz.func42 rfl rfl rfl ?_
 delta i_MapOf at hF
 refine Dz.seq (Dz.reg (Dz.seq (Dz.seq (Dz.reg ?_))))
 intro hb1; replace hb1 : a0.length ≤ 140737488355328 := hb1
 refine Dz.ite rfl hF (fun _ hF => ?_) (fun _ hF => ?_)
 ·refine Dz.seq (Dz.reg (Dz.ret ?_))
  cases hF
  exact finG [.leaf 0 3 176 7, .leaf 0 4 87 3, .leaf 0 5 227 4] [1, 2, 3] rfl rfl (⟨rfl, lr, lr, lr, rfl, rfl, rfl, tv⟩) ⟨⟨rfl, o_rowE (by simp <;> omega) EqG.nilr⟩, ⟨rfl, o_rowE (by simp <;> omega) EqG.nilr⟩, ⟨rfl, o_rowE (by simp <;> omega) EqG.nilr⟩, tv⟩ rfl
 ·refine Dz.skip (Dz.seq (Dz.reg ?_))
  refine bdE hF (fun y2 hy2 hF => ?_)
  refine callG [] (i_MapStart_c hy2) tv tv rfl ?_
  refine Dz.seq (Dz.seq (Dz.reg ?_))
  intro hb3; replace hb3 : a0.length ≤ 140737488355328 := hb3
  refine Dz.blk ?_
  refine Dz.cnt hF (fun i4 v11 => ([(2, .ptr 0 0), (3, .ptr 1 0), (11, .val false [.u (ul Cmd.c 10 t0_0 a0)]), (12, vint .i64 ((a0.length : Nat) : Int)), (13, vint .i64 ((i4 : Nat) : Int))], [.box 78 [.u (cI 0), .u (cI 0), .u (cI 0), .nil, .nil, .nil], .box 78 [.u (cI v11.Slots), .u (cI v11.Servers), .u (cI v11.Next), .row 2, .row 3, .row 4], .row 176 v11.Disks.length 7 (gl MapDisk.c v11.Disks), .row 87 v11.Views.length 3 (gl MapView.c v11.Views), .row 227 v11.Done.length 4 (gl MapDone.c v11.Done)])) (entG [0, 4, 1, 2, 3] ⟨mp rfl, mp rfl, mv rfl, mv rfl, mv rfl, tv⟩ ⟨⟨rfl, ⟨rfl, lr, lr, lr, tv, tv, tv, tv⟩⟩, ⟨rfl, ⟨rfl, lr, lr, lr, rfl, rfl, rfl, tv⟩⟩, ⟨rfl, o_row⟩, ⟨rfl, o_row⟩, ⟨rfl, o_row⟩, tv⟩ rfl) (fun v11 hF => ?_) (fun i4 v11 κ12 hi0i4 hi1i4 hF => ?_)
  ·refine Dz.seq (Dz.reg (Dz.seq ?_))
   refine Dz.ff (b := decide (((0 + a0.length : Nat) : Int) < ((a0.length : Nat) : Int))) rfl (decide_eq_false (by omega)) ?_
   refine Dz.exit (Dz.seq (Dz.reg (Dz.ret ?_)))
   cases hF
   exact finG [] [2, 3, 4] rfl rfl (⟨rfl, lr, lr, lr, rfl, rfl, rfl, tv⟩) ⟨⟨rfl, o_row⟩, ⟨rfl, o_row⟩, ⟨rfl, o_row⟩, tv⟩ rfl
  ·refine Dz.seq (Dz.reg (Dz.seq ?_))
   refine Dz.tt (b := decide (((i4 : Nat) : Int) < ((a0.length : Nat) : Int))) rfl (decide_eq_true (by omega)) ?_
   refine Dz.skip (Dz.seq (Dz.blk (Dz.seq (Dz.reg ?_))))
   refine vge (n := ((i4 : Nat) : Int)) (hi := (a0.length : Int)) (by omega) (by omega) ?_
   have hF := ltE hF
   refine Dz.reg ?_
   refine bdE hF (fun y14 hy14 hF => ?_)
   refine callL [] (i_mapDo_c hy14) ⟨⟨rfl, lr, lr, lr, ⟨rfl, rfl, lr⟩, ⟨rfl, rfl, lr⟩, ⟨rfl, rfl, lr⟩, tv⟩, mv rfl, tv⟩ tv rfl ⟨⟨tv, tv, tv, tv, tv, tv, tv⟩, ⟨ntm_gl, ntm_gl, ntm_gl, tv⟩⟩ ?_
   refine Dz.reg ?_
   refine vsucc (by omega) ?_
   exact ⟨y14, entG [0, 1, 6, 7, 8] ⟨mp rfl, mp rfl, mv rfl, mv rfl, mv rfl, tv⟩ ⟨⟨rfl, ⟨rfl, lr, lr, lr, tv, tv, tv, tv⟩⟩, ⟨rfl, ⟨rfl, lr, lr, lr, rfl, rfl, rfl, tv⟩⟩, ⟨rfl, o_row⟩, ⟨rfl, o_row⟩, ⟨rfl, o_row⟩, tv⟩ rfl, hF⟩
def i_copyAt (a0 : Server) (a1 : Int) : Option (Int) :=
 loopN (fun i2 (v4 : Unit) κ5 => lt (a0.Copies.getD i2 default) (fun x6 => cond (decide (x6.Range = a1)) (some ((i2 : Nat) : Int)) (κ5 ()))) (fun (v4 : Unit) => some (-1)) a0.Copies.length 0 ()
theorem i_copyAt_c {t0_33 t0_34 t0_35 t0_5 t0_6 t0_7 : Bool} {a0 : Server} {a1 : Int} {r : Int} (hF : i_copyAt a0 a1 = some r) : Con Tryz.prog 47 [.val true (.u (cI a0.Id) :: .u (.bool a0.Up) :: .u (.bool a0.Gone) :: .u (cI a0.Round) :: .u (cI a0.Voter.Promised) :: .u (ul SynPaper.c 12 t0_5 a0.Voter.Papers) :: .u (ul Cmd.c 10 t0_6 a0.Log) :: .u (ul SrvCopy.c 6 t0_7 a0.Copies) :: .u (cI a0.Seek.Slot) :: .u (cI a0.Seek.Ballot) :: .u (cI a0.Seek.Phase) :: .u (cI a0.Seek.Mine.Kind) :: .u (cI a0.Seek.Mine.Client) :: .u (cI a0.Seek.Mine.Call) :: .u (cI a0.Seek.Mine.Disk) :: .u (cI a0.Seek.Mine.Arg) :: .u (cI a0.Seek.Mine.Epoch) :: .u (cI a0.Seek.Mine.Range) :: .u (cI a0.Seek.Mine.Num) :: .u (cI a0.Seek.Mine.A) :: .u (cI a0.Seek.Mine.B) :: .u (cI a0.Seek.Best.Slot) :: .u (cI a0.Seek.Best.Ballot) :: .u (cI a0.Seek.Best.Cmd.Kind) :: .u (cI a0.Seek.Best.Cmd.Client) :: .u (cI a0.Seek.Best.Cmd.Call) :: .u (cI a0.Seek.Best.Cmd.Disk) :: .u (cI a0.Seek.Best.Cmd.Arg) :: .u (cI a0.Seek.Best.Cmd.Epoch) :: .u (cI a0.Seek.Best.Cmd.Range) :: .u (cI a0.Seek.Best.Cmd.Num) :: .u (cI a0.Seek.Best.Cmd.A) :: .u (cI a0.Seek.Best.Cmd.B) :: .u (ul cInt 1 t0_33 a0.Seek.Yes) :: .u (ul Cmd.c 10 t0_34 a0.Wants) :: .u (ul SrvDoing.c 8 t0_35 a0.Doing) :: []), vint .i64 a1] [] (vint .i64 r) [] := by
 refine Con.of_Dz tabOk Tryz.func47 rfl rfl rfl ?_
 delta i_copyAt at hF
 refine Dz.seq (Dz.reg (Dz.seq (Dz.seq (Dz.reg ?_))))
 intro hb1; replace hb1 : a0.Copies.length ≤ 140737488355328 := hb1
 refine Dz.blk ?_
 refine Dz.cnt hF (fun i2 v4 => ([(1, vint .i64 a1), (8, .val false [.u (ul SrvCopy.c 6 t0_7 a0.Copies)]), (9, vint .i64 ((a0.Copies.length : Nat) : Int)), (10, vint .i64 ((i2 : Nat) : Int))], [])) (entG [] ⟨mv rfl, mv rfl, mv rfl, mv rfl, tv⟩ tv rfl) (fun v4 hF => ?_) (fun i2 v4 κ5 hi0i2 hi1i2 hF => ?_)
 ·refine Dz.seq (Dz.reg (Dz.seq ?_))
  refine Dz.ff (b := decide (((0 + a0.Copies.length : Nat) : Int) < ((a0.Copies.length : Nat) : Int))) rfl (decide_eq_false (by omega)) ?_
  refine Dz.exit (Dz.seq (Dz.reg (Dz.ret ?_)))
  cases hF
  exact finG [] [] rfl rfl (mv rfl) tv rfl
 ·refine Dz.seq (Dz.reg (Dz.seq ?_))
  refine Dz.tt (b := decide (((i2 : Nat) : Int) < ((a0.Copies.length : Nat) : Int))) rfl (decide_eq_true (by omega)) ?_
  refine Dz.skip (Dz.seq (Dz.blk (Dz.seq (Dz.reg ?_))))
  refine vge (n := ((i2 : Nat) : Int)) (hi := (a0.Copies.length : Int)) (by omega) (by omega) ?_
  have hF := ltE hF
  refine Dz.seq (Dz.reg ?_)
  refine Dz.ite rfl hF (fun _ hF => ?_) (fun _ hF => ?_)
  ·refine Dz.seq (Dz.reg (Dz.ret ?_))
   cases hF
   exact finG [] [] rfl rfl (mv rfl) tv rfl
  ·refine Dz.skip (Dz.reg ?_)
   refine vsucc (by omega) ?_
   exact ⟨(), entG [] ⟨mv rfl, mv rfl, mv rfl, mv rfl, tv⟩ tv rfl, hF⟩
def i_ofView (a0 : MapView) (a1 : Int) : Option (Bool) :=
 cond (decide (a0.A = a1)) (some true) (some (decide (a0.B = a1)))
theorem i_ofView_c {a0 : MapView} {a1 : Int} {r : Bool} (hF : i_ofView a0 a1 = some r) : Con Tryz.prog 107 [.val true (MapView.L a0), vint .i64 a1] [] (vbool r) [] := by
 refine Con.of_Dz tabOk Tryz.func107 rfl rfl rfl ?_
 delta i_ofView at hF
 refine Dz.seq (Dz.reg (Dz.seq (Dz.reg ?_)))
 refine vif hF (fun _ hF => ?_) (fun _ hF => ?_)
 ·refine Dz.ret ?_
  cases hF
  exact finG [] [] rfl rfl (mv rfl) tv rfl
 ·refine Dz.ret ?_
  cases hF
  exact finG [] [] rfl rfl (mv rfl) tv rfl
def i_inView (a0 : Server) (a1 : MapState) (a2 : Int) : Option (Bool) :=
 (i_copyAt a0 a2).bind (fun y1 => ix a1.Views a2 (fun x2 => (i_ofView x2 a0.Id).bind (fun y3 => cond y3 (cond (decide ((0 : Int) ≤ y1)) (ix a0.Copies y1 (fun x4 => cond (decide (x4.Valid = x2.Num)) (ix a0.Copies y1 (fun x5 => some (!decide (x5.Asked = x2.Num)))) (some false))) (some false)) (some false))))
theorem i_inView_c {t0_33 t0_34 t0_35 t0_5 t0_6 t0_7 t1_3 t1_4 t1_5 : Bool} {a0 : Server} {a1 : MapState} {a2 : Int} {r : Bool} (hF : i_inView a0 a1 a2 = some r) : Con Tryz.prog 45 [.val true (.u (cI a0.Id) :: .u (.bool a0.Up) :: .u (.bool a0.Gone) :: .u (cI a0.Round) :: .u (cI a0.Voter.Promised) :: .u (ul SynPaper.c 12 t0_5 a0.Voter.Papers) :: .u (ul Cmd.c 10 t0_6 a0.Log) :: .u (ul SrvCopy.c 6 t0_7 a0.Copies) :: .u (cI a0.Seek.Slot) :: .u (cI a0.Seek.Ballot) :: .u (cI a0.Seek.Phase) :: .u (cI a0.Seek.Mine.Kind) :: .u (cI a0.Seek.Mine.Client) :: .u (cI a0.Seek.Mine.Call) :: .u (cI a0.Seek.Mine.Disk) :: .u (cI a0.Seek.Mine.Arg) :: .u (cI a0.Seek.Mine.Epoch) :: .u (cI a0.Seek.Mine.Range) :: .u (cI a0.Seek.Mine.Num) :: .u (cI a0.Seek.Mine.A) :: .u (cI a0.Seek.Mine.B) :: .u (cI a0.Seek.Best.Slot) :: .u (cI a0.Seek.Best.Ballot) :: .u (cI a0.Seek.Best.Cmd.Kind) :: .u (cI a0.Seek.Best.Cmd.Client) :: .u (cI a0.Seek.Best.Cmd.Call) :: .u (cI a0.Seek.Best.Cmd.Disk) :: .u (cI a0.Seek.Best.Cmd.Arg) :: .u (cI a0.Seek.Best.Cmd.Epoch) :: .u (cI a0.Seek.Best.Cmd.Range) :: .u (cI a0.Seek.Best.Cmd.Num) :: .u (cI a0.Seek.Best.Cmd.A) :: .u (cI a0.Seek.Best.Cmd.B) :: .u (ul cInt 1 t0_33 a0.Seek.Yes) :: .u (ul Cmd.c 10 t0_34 a0.Wants) :: .u (ul SrvDoing.c 8 t0_35 a0.Doing) :: []), .val true [.u (cI a1.Slots), .u (cI a1.Servers), .u (cI a1.Next), .u (ul MapDisk.c 7 t1_3 a1.Disks), .u (ul MapView.c 3 t1_4 a1.Views), .u (ul MapDone.c 4 t1_5 a1.Done)], vint .i64 a2] [] (vbool r) [] := by
 refine Con.of_Dz tabOk Tryz.func45 rfl rfl rfl ?_
 delta i_inView at hF
 refine Dz.seq (Dz.reg (Dz.seq (Dz.reg ?_)))
 refine bdE hF (fun y1 hy1 hF => ?_)
 refine callG [] (i_copyAt_c hy1) ⟨mv rfl, mv rfl, tv⟩ tv rfl ?_
 refine Dz.seq (Dz.reg ?_)
 refine vix hF (fun _ _ hF => ?_)
 refine Dz.seq ?_
 refine Dz.drw 3 [⟨[18,19], [2], 3, 3⟩, ⟨[17], [], 3, 3⟩, ⟨[17], [0], 3, 3⟩, ⟨[], [], 3, 3⟩, ⟨[], [], 3, 3⟩, ⟨[], [], 3, 3⟩, ⟨[], [], 3, 3⟩, ⟨[], [], 3, 3⟩, ⟨[], [], 3, 3⟩, ⟨[28,32,33], [], 3, 3⟩, ⟨[28,32,33], [0], 3, 3⟩, ⟨[26,27,32,33], [], 3, 3⟩, ⟨[32,33], [], 3, 3⟩, ⟨[32,33], [], 3, 3⟩, ⟨[32,33], [], 3, 3⟩, ⟨[26,27,28,29,30,31], [], 3, 3⟩, ⟨[26,27,28,29,30,31], [2], 3, 3⟩, ⟨[], [], 3, 3⟩, ⟨[], [], 3, 3⟩, ⟨[], [], 3, 3⟩, ⟨[39,43,44], [], 3, 3⟩, ⟨[39,43,44], [0], 3, 3⟩, ⟨[37,38,43,44], [], 3, 3⟩, ⟨[43,44], [], 3, 3⟩, ⟨[43,44], [], 3, 3⟩, ⟨[43,44], [], 3, 3⟩, ⟨[37,38,39,40,41,42], [], 3, 3⟩, ⟨[37,38,39,40,41,42], [2], 3, 3⟩, ⟨[], [], 3, 3⟩, ⟨[], [], 3, 3⟩, ⟨[], [], 3, 3⟩] ⟨by kernel_rfl, by kernel_rfl, rfl⟩ ?_
 refine bdE hF (fun y3 hy3 hF => ?_)
 refine callG [] (i_ofView_c hy3) ⟨mv rfl, mv rfl, tv⟩ tv rfl ?_
 refine vif hF (fun _ hF => ?_) (fun _ hF => ?_)
 ·refine vif hF (fun _ hF => ?_) (fun _ hF => ?_)
  ·refine vix hF (fun _ _ hF => ?_)
   refine vif hF (fun _ hF => ?_) (fun _ hF => ?_)
   ·refine vix hF (fun _ _ hF => ?_)
    refine Dz.ret ?_
    cases hF
    exact finG [] [] rfl rfl (mv rfl) tv rfl
   ·refine Dz.ret ?_
    cases hF
    exact finG [] [] rfl rfl (mv rfl) tv rfl
  ·refine Dz.ret ?_
   cases hF
   exact finG [] [] rfl rfl (mv rfl) tv rfl
 ·refine Dz.ret ?_
  cases hF
  exact finG [] [] rfl rfl (mv rfl) tv rfl
def i_mayServe (a0 : Server) (a1 : MapState) (a2 : Int) : Option (Bool) :=
 (i_inView a0 a1 a2).bind (fun y1 => cond y1 (ix a1.Views a2 (fun x2 => some (decide (x2.A = a0.Id)))) (some false))
theorem i_mayServe_c {t0_33 t0_34 t0_35 t0_5 t0_6 t0_7 t1_3 t1_4 t1_5 : Bool} {a0 : Server} {a1 : MapState} {a2 : Int} {r : Bool} (hF : i_mayServe a0 a1 a2 = some r) : Con Tryz.prog 44 [.val true (.u (cI a0.Id) :: .u (.bool a0.Up) :: .u (.bool a0.Gone) :: .u (cI a0.Round) :: .u (cI a0.Voter.Promised) :: .u (ul SynPaper.c 12 t0_5 a0.Voter.Papers) :: .u (ul Cmd.c 10 t0_6 a0.Log) :: .u (ul SrvCopy.c 6 t0_7 a0.Copies) :: .u (cI a0.Seek.Slot) :: .u (cI a0.Seek.Ballot) :: .u (cI a0.Seek.Phase) :: .u (cI a0.Seek.Mine.Kind) :: .u (cI a0.Seek.Mine.Client) :: .u (cI a0.Seek.Mine.Call) :: .u (cI a0.Seek.Mine.Disk) :: .u (cI a0.Seek.Mine.Arg) :: .u (cI a0.Seek.Mine.Epoch) :: .u (cI a0.Seek.Mine.Range) :: .u (cI a0.Seek.Mine.Num) :: .u (cI a0.Seek.Mine.A) :: .u (cI a0.Seek.Mine.B) :: .u (cI a0.Seek.Best.Slot) :: .u (cI a0.Seek.Best.Ballot) :: .u (cI a0.Seek.Best.Cmd.Kind) :: .u (cI a0.Seek.Best.Cmd.Client) :: .u (cI a0.Seek.Best.Cmd.Call) :: .u (cI a0.Seek.Best.Cmd.Disk) :: .u (cI a0.Seek.Best.Cmd.Arg) :: .u (cI a0.Seek.Best.Cmd.Epoch) :: .u (cI a0.Seek.Best.Cmd.Range) :: .u (cI a0.Seek.Best.Cmd.Num) :: .u (cI a0.Seek.Best.Cmd.A) :: .u (cI a0.Seek.Best.Cmd.B) :: .u (ul cInt 1 t0_33 a0.Seek.Yes) :: .u (ul Cmd.c 10 t0_34 a0.Wants) :: .u (ul SrvDoing.c 8 t0_35 a0.Doing) :: []), .val true [.u (cI a1.Slots), .u (cI a1.Servers), .u (cI a1.Next), .u (ul MapDisk.c 7 t1_3 a1.Disks), .u (ul MapView.c 3 t1_4 a1.Views), .u (ul MapDone.c 4 t1_5 a1.Done)], vint .i64 a2] [] (vbool r) [] := by
 refine Con.of_Dz tabOk Tryz.func44 rfl rfl rfl ?_
 delta i_mayServe at hF
 refine Dz.seq (Dz.reg (Dz.seq ?_))
 refine Dz.drw 2 [⟨[8,9], [0], 2, 2⟩, ⟨[7,9], [1], 2, 2⟩, ⟨[7,8], [], 2, 2⟩, ⟨[], [], 2, 2⟩, ⟨[], [], 2, 2⟩, ⟨[14,18,19], [], 2, 2⟩, ⟨[14,18,19], [1], 2, 2⟩, ⟨[12,13,18,19], [], 2, 2⟩, ⟨[18,19], [], 2, 2⟩, ⟨[18,19], [], 2, 2⟩, ⟨[18,19], [], 2, 2⟩, ⟨[12,13,14,15,16,17], [], 2, 2⟩, ⟨[12,13,14,15,16,17], [0], 2, 2⟩, ⟨[], [], 2, 2⟩, ⟨[], [], 2, 2⟩, ⟨[], [], 2, 2⟩] ⟨by kernel_rfl, by kernel_rfl, rfl⟩ ?_
 refine bdE hF (fun y1 hy1 hF => ?_)
 refine callG [] (i_inView_c hy1) ⟨mv rfl, mv rfl, mv rfl, tv⟩ tv rfl ?_
 refine vif hF (fun _ hF => ?_) (fun _ hF => ?_)
 ·refine vix hF (fun _ _ hF => ?_)
  refine Dz.ret ?_
  cases hF
  exact finG [] [] rfl rfl (mv rfl) tv rfl
 ·refine Dz.ret ?_
  cases hF
  exact finG [] [] rfl rfl (mv rfl) tv rfl
def i_copied_BlkPiece (a0 : (List BlkPiece)) : Option ((List BlkPiece)) :=
 cond (decide (((a0.length : Nat) : Int) = 0)) (some ([] : List BlkPiece)) (ck (0 ≤ ((a0.length : Nat) : Int) ∧ ((a0.length : Nat) : Int) * 32 ≤ 140737488355328) (some (cpy (List.replicate a0.length (({ Disk := 0, Block := 0, Epoch := 0, Data := 0 } : BlkPiece) : BlkPiece)) a0)))
theorem i_copied_BlkPiece_c {t0_0 : Bool} {a0 : (List BlkPiece)} {r : (List BlkPiece)} (hF : i_copied_BlkPiece a0 = some r) : Con Tryz.prog 108 [.val false [.u (ul BlkPiece.c 4 t0_0 a0)]] [] (.val false [.row 0]) [.row 168 r.length 4 (gl BlkPiece.c r)] := by
 refine Con.of_Dz tabOk Tryz.func108 rfl rfl rfl ?_
 delta i_copied_BlkPiece at hF
 refine Dz.seq (Dz.reg (Dz.seq (Dz.seq (Dz.reg ?_))))
 intro hb1; replace hb1 : a0.length ≤ 140737488355328 := hb1
 refine Dz.ite rfl hF (fun _ hF => ?_) (fun _ hF => ?_)
 ·refine Dz.seq (Dz.reg (Dz.ret ?_))
  cases hF
  exact finG [.slot 2 168 4] [0] rfl rfl (⟨rfl, rfl, tv⟩) ⟨⟨rfl, o_rowE (by simp <;> omega) EqG.nilr⟩, tv⟩ rfl
 ·refine Dz.skip (Dz.seq (Dz.reg ?_))
  intro hb2; replace hb2 : a0.length ≤ 140737488355328 := hb2
  refine vck hF (fun h => ⟨rfl, h⟩) (fun hk hF => ?_)
  refine Dz.row 0 (List.replicate a0.length (({ Disk := 0, Block := 0, Epoch := 0, Data := 0 } : BlkPiece) : BlkPiece)).length (gl BlkPiece.c (List.replicate a0.length (({ Disk := 0, Block := 0, Epoch := 0, Data := 0 } : BlkPiece) : BlkPiece))) rfl (by simp <;> omega) (EqG.rep' (c := BlkPiece.c) (sz := 4) _ ⟨lr, lr, lr, lr, tv⟩) ?_
  refine Dz.seq (Dz.reg ?_)
  refine Dz.row 0 (cpy (List.replicate a0.length (({ Disk := 0, Block := 0, Epoch := 0, Data := 0 } : BlkPiece) : BlkPiece)) a0).length (gl BlkPiece.c (cpy (List.replicate a0.length (({ Disk := 0, Block := 0, Epoch := 0, Data := 0 } : BlkPiece) : BlkPiece)) a0)) rfl (by simp <;> omega) (EqG.cpy rfl rfl (EqG.refl _ _ _) (EqG.refl _ _ _)) ?_
  refine Dz.seq (Dz.reg (Dz.ret ?_))
  cases hF
  exact finG [] [0] rfl rfl (⟨rfl, rfl, tv⟩) ⟨⟨rfl, o_row⟩, tv⟩ rfl
def i_busyBlock (a0 : SrvCopy) (a1 : Int) (a2 : Int) : Option (Bool) :=
 loopN (fun i2 (v4 : Unit) κ5 => lt (a0.Busy.getD i2 default) (fun x6 => cond (decide (x6.Disk = a1)) (cond (decide (x6.Block = a2)) (some true) (κ5 ())) (κ5 ()))) (fun (v4 : Unit) => some false) a0.Busy.length 0 ()
theorem i_busyBlock_c {t0_3 t0_4 t0_5 : Bool} {a0 : SrvCopy} {a1 : Int} {a2 : Int} {r : Bool} (hF : i_busyBlock a0 a1 a2 = some r) : Con Tryz.prog 110 [.val true [.u (cI a0.Range), .u (cI a0.Valid), .u (cI a0.Asked), .u (ul BlkPiece.c 4 t0_3 a0.Pieces), .u (ul BlkLast.c 2 t0_4 a0.Last), .u (ul SrvBusy.c 6 t0_5 a0.Busy)], vint .i64 a1, vint .i64 a2] [] (vbool r) [] := by
 refine Con.of_Dz tabOk Tryz.func110 rfl rfl rfl ?_
 delta i_busyBlock at hF
 refine Dz.seq (Dz.reg (Dz.seq (Dz.seq (Dz.reg ?_))))
 intro hb1; replace hb1 : a0.Busy.length ≤ 140737488355328 := hb1
 refine Dz.blk ?_
 refine Dz.cnt hF (fun i2 v4 => ([(1, vint .i64 a1), (2, vint .i64 a2), (10, .val false [.u (ul SrvBusy.c 6 t0_5 a0.Busy)]), (11, vint .i64 ((a0.Busy.length : Nat) : Int)), (12, vint .i64 ((i2 : Nat) : Int))], [])) (entG [] ⟨mv rfl, mv rfl, mv rfl, mv rfl, mv rfl, tv⟩ tv rfl) (fun v4 hF => ?_) (fun i2 v4 κ5 hi0i2 hi1i2 hF => ?_)
 ·refine Dz.seq (Dz.reg (Dz.seq ?_))
  refine Dz.ff (b := decide (((0 + a0.Busy.length : Nat) : Int) < ((a0.Busy.length : Nat) : Int))) rfl (decide_eq_false (by omega)) ?_
  refine Dz.exit (Dz.seq (Dz.reg (Dz.ret ?_)))
  cases hF
  exact finG [] [] rfl rfl (mv rfl) tv rfl
 ·refine Dz.seq (Dz.reg (Dz.seq ?_))
  refine Dz.tt (b := decide (((i2 : Nat) : Int) < ((a0.Busy.length : Nat) : Int))) rfl (decide_eq_true (by omega)) ?_
  refine Dz.skip (Dz.seq (Dz.blk (Dz.seq (Dz.reg ?_))))
  refine vge (n := ((i2 : Nat) : Int)) (hi := (a0.Busy.length : Int)) (by omega) (by omega) ?_
  have hF := ltE hF
  refine Dz.seq (Dz.reg ?_)
  refine vif hF (fun _ hF => ?_) (fun _ hF => ?_)
  ·refine Dz.ite rfl hF (fun _ hF => ?_) (fun _ hF => ?_)
   ·refine Dz.seq (Dz.reg (Dz.ret ?_))
    cases hF
    exact finG [] [] rfl rfl (mv rfl) tv rfl
   ·refine Dz.skip (Dz.reg ?_)
    refine vsucc (by omega) ?_
    exact ⟨(), entG [] ⟨mv rfl, mv rfl, mv rfl, mv rfl, mv rfl, tv⟩ tv rfl, hF⟩
  ·refine Dz.ff (b := false) rfl rfl ?_
   refine Dz.skip (Dz.reg ?_)
   refine vsucc (by omega) ?_
   exact ⟨(), entG [] ⟨mv rfl, mv rfl, mv rfl, mv rfl, mv rfl, tv⟩ tv rfl, hF⟩
def i_BlkGet (a0 : (List BlkPiece)) (a1 : Int) (a2 : Int) (a3 : Int) : Option (Int) :=
 (i_BlkOk a0).bind (fun y1 => cond (!y1) (some 0) (loopN (fun i3 (v8 : Int) κ9 => lt (a0.getD i3 default) (fun x10 => cond (decide (x10.Disk = a1)) (cond (decide (x10.Block = a2)) (cond (decide (x10.Epoch ≤ a3)) (κ9 x10.Data) (κ9 v8)) (κ9 v8)) (κ9 v8))) (fun (v8 : Int) => some v8) a0.length 0 0))
theorem i_BlkGet_c {t0_0 : Bool} {a0 : (List BlkPiece)} {a1 : Int} {a2 : Int} {a3 : Int} {r : Int} (hF : i_BlkGet a0 a1 a2 a3 = some r) : Con Tryz.prog 111 [.val false [.u (ul BlkPiece.c 4 t0_0 a0)], vint .i64 a1, vint .i64 a2, vint .i64 a3] [] (vint .i64 r) [] := by
 refine Con.of_Dz tabOk Tryz.func111 rfl rfl rfl ?_
 delta i_BlkGet at hF
 refine Dz.seq (Dz.reg (Dz.seq (Dz.seq (Dz.reg ?_))))
 refine bdE hF (fun y1 hy1 hF => ?_)
 refine callG [] (i_BlkOk_c hy1) ⟨mv rfl, tv⟩ tv rfl ?_
 refine Dz.ite rfl hF (fun _ hF => ?_) (fun _ hF => ?_)
 ·refine Dz.seq (Dz.reg (Dz.ret ?_))
  cases hF
  exact finG [] [] rfl rfl (mv rfl) tv rfl
 ·refine Dz.skip (Dz.seq (Dz.reg (Dz.seq (Dz.seq (Dz.reg ?_)))))
  intro hb2; replace hb2 : a0.length ≤ 140737488355328 := hb2
  refine Dz.blk ?_
  refine Dz.cnt hF (fun i3 v8 => ([(1, vint .i64 a1), (2, vint .i64 a2), (3, vint .i64 a3), (9, vint .i64 v8), (15, .val false [.u (ul BlkPiece.c 4 t0_0 a0)]), (16, vint .i64 ((a0.length : Nat) : Int)), (17, vint .i64 ((i3 : Nat) : Int))], [])) (entG [] ⟨mv rfl, mv rfl, mv rfl, mv rfl, mv rfl, mv rfl, mv rfl, tv⟩ tv rfl) (fun v8 hF => ?_) (fun i3 v8 κ9 hi0i3 hi1i3 hF => ?_)
  ·refine Dz.seq (Dz.reg (Dz.seq ?_))
   refine Dz.ff (b := decide (((0 + a0.length : Nat) : Int) < ((a0.length : Nat) : Int))) rfl (decide_eq_false (by omega)) ?_
   refine Dz.exit (Dz.seq (Dz.reg (Dz.ret ?_)))
   cases hF
   exact finG [] [] rfl rfl (mv rfl) tv rfl
  ·refine Dz.seq (Dz.reg (Dz.seq ?_))
   refine Dz.tt (b := decide (((i3 : Nat) : Int) < ((a0.length : Nat) : Int))) rfl (decide_eq_true (by omega)) ?_
   refine Dz.skip (Dz.seq (Dz.blk (Dz.seq (Dz.reg ?_))))
   refine vge (n := ((i3 : Nat) : Int)) (hi := (a0.length : Int)) (by omega) (by omega) ?_
   have hF := ltE hF
   refine Dz.seq (Dz.reg ?_)
   refine vif hF (fun _ hF => ?_) (fun _ hF => ?_)
   ·refine vif hF (fun _ hF => ?_) (fun _ hF => ?_)
    ·refine Dz.ite rfl hF (fun _ hF => ?_) (fun _ hF => ?_)
     ·refine Dz.reg (Dz.reg ?_)
      refine vsucc (by omega) ?_
      exact ⟨((a0.getD i3 default).Data), entG [] ⟨mv rfl, mv rfl, mv rfl, mv rfl, mv rfl, mv rfl, mv rfl, tv⟩ tv rfl, hF⟩
     ·refine Dz.skip (Dz.reg ?_)
      refine vsucc (by omega) ?_
      exact ⟨v8, entG [] ⟨mv rfl, mv rfl, mv rfl, mv rfl, mv rfl, mv rfl, mv rfl, tv⟩ tv rfl, hF⟩
    ·refine Dz.ff (b := false) rfl rfl ?_
     refine Dz.skip (Dz.reg ?_)
     refine vsucc (by omega) ?_
     exact ⟨v8, entG [] ⟨mv rfl, mv rfl, mv rfl, mv rfl, mv rfl, mv rfl, mv rfl, tv⟩ tv rfl, hF⟩
   ·refine Dz.ff (b := false) rfl rfl ?_
    refine Dz.skip (Dz.reg ?_)
    refine vsucc (by omega) ?_
    exact ⟨v8, entG [] ⟨mv rfl, mv rfl, mv rfl, mv rfl, mv rfl, mv rfl, mv rfl, tv⟩ tv rfl, hF⟩
def i_copiesAgree (a0 : SrvCopy) (a1 : SrvCopy) (a2 : MapState) : Option (Bool) :=
 (i_copied_BlkPiece a0.Pieces).bind (fun y1 => ck ((y1.length + a1.Pieces.length) * 32 ≤ 140737488355328) (ck ((((y1.length + a1.Pieces.length) : Nat) : Int) ≤ 4611686018427387904) (loopN (fun i2 (v8 : Unit) κ9 => ix (y1 ++ a1.Pieces) ((i2 : Nat) : Int) (fun _ => lt ((y1 ++ a1.Pieces).getD i2 default) (fun x10 => (i_diskAt a2.Disks x10.Disk).bind (fun y11 => cond (decide (y11 < 0)) (κ9 ()) ((i_busyBlock a0 x10.Disk x10.Block).bind (fun y12 => cond y12 (κ9 ()) ((i_BlkGet a0.Pieces x10.Disk x10.Block x10.Epoch).bind (fun y13 => (i_BlkGet a1.Pieces x10.Disk x10.Block x10.Epoch).bind (fun y14 => cond (!decide (y13 = y14)) (some false) (κ9 ())))))))))) (fun (v8 : Unit) => some true) (y1.length + a1.Pieces.length) 0 ())))
theorem i_copiesAgree_c {t0_3 t0_4 t0_5 t1_3 t1_4 t1_5 t2_3 t2_4 t2_5 : Bool} {a0 : SrvCopy} {a1 : SrvCopy} {a2 : MapState} {r : Bool} (hF : i_copiesAgree a0 a1 a2 = some r) : Con Tryz.prog 46 [.val true [.u (cI a0.Range), .u (cI a0.Valid), .u (cI a0.Asked), .u (ul BlkPiece.c 4 t0_3 a0.Pieces), .u (ul BlkLast.c 2 t0_4 a0.Last), .u (ul SrvBusy.c 6 t0_5 a0.Busy)], .val true [.u (cI a1.Range), .u (cI a1.Valid), .u (cI a1.Asked), .u (ul BlkPiece.c 4 t1_3 a1.Pieces), .u (ul BlkLast.c 2 t1_4 a1.Last), .u (ul SrvBusy.c 6 t1_5 a1.Busy)], .val true [.u (cI a2.Slots), .u (cI a2.Servers), .u (cI a2.Next), .u (ul MapDisk.c 7 t2_3 a2.Disks), .u (ul MapView.c 3 t2_4 a2.Views), .u (ul MapDone.c 4 t2_5 a2.Done)]] [] (vbool r) [] := by
 refine Con.of_Dz tabOk Tryz.func46 rfl rfl rfl ?_
 delta i_copiesAgree at hF
 refine Dz.seq (Dz.reg (Dz.seq (Dz.seq ?_)))
 refine Dz.drw 3 [⟨[12,13,16], [], 3, 3⟩, ⟨[12,13,16], [0], 3, 3⟩, ⟨[12,13,16], [], 3, 4⟩, ⟨[9,10,11,16], [], 4, 4⟩, ⟨[9,10,11,16], [1], 4, 4⟩, ⟨[16], [3], 4, 5⟩, ⟨[16], [4], 5, 5⟩, ⟨[9,10,11,12,13,14,15], [], 5, 5⟩] ⟨by kernel_rfl, by kernel_rfl, rfl⟩ ?_
 refine bdE hF (fun y1 hy1 hF => ?_)
 refine callG [] (i_copied_BlkPiece_c hy1) ⟨mv rfl, tv⟩ tv rfl ?_
 refine vck hF id (fun _ hF => ?_)
 refine Dz.row 4 (y1 ++ a1.Pieces).length (gl BlkPiece.c (y1 ++ a1.Pieces)) rfl (by simp <;> omega) (EqG.app rfl rfl (EqG.refl _ _ _) (EqG.refl _ _ _)) ?_
 refine Dz.blk ?_
 obtain ⟨hNi2, hF⟩ := ckE hF
 refine Dz.cnt hF (fun i2 v8 => ([(3, .ptr 0 0), (4, .ptr 1 0), (5, .ptr 2 0), (14, .val false [.row 3]), (15, vint .i64 (((y1.length + a1.Pieces.length) : Nat) : Int)), (16, vint .i64 ((i2 : Nat) : Int))], [.box 92 [.u (cI a0.Range), .u (cI a0.Valid), .u (cI a0.Asked), .u (ul BlkPiece.c 4 t0_3 a0.Pieces), .u (ul BlkLast.c 2 t0_4 a0.Last), .u (ul SrvBusy.c 6 t0_5 a0.Busy)], .box 92 [.u (cI a1.Range), .u (cI a1.Valid), .u (cI a1.Asked), .u (ul BlkPiece.c 4 t1_3 a1.Pieces), .u (ul BlkLast.c 2 t1_4 a1.Last), .u (ul SrvBusy.c 6 t1_5 a1.Busy)], .box 78 [.u (cI a2.Slots), .u (cI a2.Servers), .u (cI a2.Next), .u (ul MapDisk.c 7 t2_3 a2.Disks), .u (ul MapView.c 3 t2_4 a2.Views), .u (ul MapDone.c 4 t2_5 a2.Done)], .row 168 ((y1 ++ a1.Pieces).length) 4 (gl BlkPiece.c (y1 ++ a1.Pieces))])) (entG [0, 1, 2, 4] ⟨mp rfl, mp rfl, mp rfl, ⟨rfl, rfl, tv⟩, mv rfl, mv rfl, tv⟩ ⟨⟨rfl, o_box rfl⟩, ⟨rfl, o_box rfl⟩, ⟨rfl, o_box rfl⟩, ⟨rfl, o_row⟩, tv⟩ rfl) (fun v8 hF => ?_) (fun i2 v8 κ9 hi0i2 hi1i2 hF => ?_)
 ·refine Dz.seq (Dz.reg (Dz.seq ?_))
  refine Dz.ff (b := decide (((0 + (y1.length + a1.Pieces.length) : Nat) : Int) < (((y1.length + a1.Pieces.length) : Nat) : Int))) rfl (decide_eq_false (by omega)) ?_
  refine Dz.exit (Dz.seq (Dz.reg (Dz.ret ?_)))
  cases hF
  exact finG [] [] rfl rfl (mv rfl) tv rfl
 ·refine Dz.seq (Dz.reg (Dz.seq ?_))
  refine Dz.tt (b := decide (((i2 : Nat) : Int) < (((y1.length + a1.Pieces.length) : Nat) : Int))) rfl (decide_eq_true (by omega)) ?_
  refine Dz.skip (Dz.seq (Dz.blk (Dz.seq (Dz.reg ?_))))
  refine vix hF (fun _ _ hF => ?_)
  have hF := ltE hF
  refine Dz.seq (Dz.seq (Dz.reg ?_))
  refine bdE hF (fun y11 hy11 hF => ?_)
  refine callG [] (i_diskAt_c hy11) ⟨mv rfl, mv rfl, tv⟩ tv rfl ?_
  refine vif hF (fun _ hF => ?_) (fun _ hF => ?_)
  ·refine Dz.tt (b := true) rfl rfl ?_
   refine Dz.exit (Dz.reg ?_)
   refine vsucc (by omega) ?_
   exact ⟨(), entG [0, 1, 2, 3] ⟨mp rfl, mp rfl, mp rfl, ⟨rfl, rfl, tv⟩, mv rfl, mv rfl, tv⟩ ⟨⟨rfl, o_box rfl⟩, ⟨rfl, o_box rfl⟩, ⟨rfl, o_box rfl⟩, ⟨rfl, o_row⟩, tv⟩ rfl, hF⟩
  ·refine bdE hF (fun y12 hy12 hF => ?_)
   refine callG [] (i_busyBlock_c hy12) ⟨mv rfl, mv rfl, mv rfl, tv⟩ tv rfl ?_
   refine Dz.ite rfl hF (fun _ hF => ?_) (fun _ hF => ?_)
   ·refine Dz.exit (Dz.reg ?_)
    refine vsucc (by omega) ?_
    exact ⟨(), entG [0, 1, 2, 3] ⟨mp rfl, mp rfl, mp rfl, ⟨rfl, rfl, tv⟩, mv rfl, mv rfl, tv⟩ ⟨⟨rfl, o_box rfl⟩, ⟨rfl, o_box rfl⟩, ⟨rfl, o_box rfl⟩, ⟨rfl, o_row⟩, tv⟩ rfl, hF⟩
   ·refine Dz.skip (Dz.seq ?_)
    refine Dz.drw 5 [⟨[36,37,38,39,40,41,43,44,45,46,47,48,49,50], [], 5, 5⟩, ⟨[36,37,38,39,40,41,43,44,45,46,47,48,49,50], [0], 5, 5⟩, ⟨[34,35,38,39,40,41,43,44,45,46,47,48,49,50], [], 5, 5⟩, ⟨[34,35,38,39,40,41,43,44,45,46,47,48,49,50], [4], 5, 5⟩, ⟨[34,35,36,37,40,41,43,44,45,46,47,48,49,50], [], 5, 5⟩, ⟨[34,35,36,37,40,41,43,44,45,46,47,48,49,50], [4], 5, 5⟩, ⟨[34,35,36,37,38,39,43,44,45,46,47,48,49,50], [], 5, 5⟩, ⟨[34,35,36,37,38,39,43,44,45,46,47,48,49,50], [4], 5, 5⟩, ⟨[43,44,45,46,47,48,49,50], [], 5, 5⟩, ⟨[34,35,36,37,38,39,40,41,42,45,46,47,48,49,50], [], 5, 5⟩, ⟨[34,35,36,37,38,39,40,41,42,45,46,47,48,49,50], [1], 5, 5⟩, ⟨[34,35,36,37,38,39,40,41,42,43,44,47,48,49,50], [], 5, 5⟩, ⟨[34,35,36,37,38,39,40,41,42,43,44,47,48,49,50], [4], 5, 5⟩, ⟨[34,35,36,37,38,39,40,41,42,43,44,45,46,49,50], [], 5, 5⟩, ⟨[34,35,36,37,38,39,40,41,42,43,44,45,46,49,50], [4], 5, 5⟩, ⟨[34,35,36,37,38,39,40,41,42,43,44,45,46,47,48], [], 5, 5⟩, ⟨[34,35,36,37,38,39,40,41,42,43,44,45,46,47,48], [4], 5, 5⟩, ⟨[], [], 5, 5⟩, ⟨[], [], 5, 5⟩] ⟨by kernel_rfl, by kernel_rfl, rfl⟩ ?_
    refine bdE hF (fun y13 hy13 hF => ?_)
    refine callG [] (i_BlkGet_c hy13) ⟨mv rfl, mv rfl, mv rfl, mv rfl, tv⟩ tv rfl ?_
    refine bdE hF (fun y14 hy14 hF => ?_)
    refine callG [] (i_BlkGet_c hy14) ⟨mv rfl, mv rfl, mv rfl, mv rfl, tv⟩ tv rfl ?_
    refine Dz.ite rfl hF (fun _ hF => ?_) (fun _ hF => ?_)
    ·refine Dz.seq (Dz.reg (Dz.ret ?_))
     cases hF
     exact finG [] [] rfl rfl (mv rfl) tv rfl
    ·refine Dz.skip (Dz.reg ?_)
     refine vsucc (by omega) ?_
     exact ⟨(), entG [0, 1, 2, 3] ⟨mp rfl, mp rfl, mp rfl, ⟨rfl, rfl, tv⟩, mv rfl, mv rfl, tv⟩ ⟨⟨rfl, o_box rfl⟩, ⟨rfl, o_box rfl⟩, ⟨rfl, o_box rfl⟩, ⟨rfl, o_row⟩, tv⟩ rfl, hF⟩
def i_PanSafe (a0 : PanWorld) : Option (Bool) :=
 (i_PanOk a0).bind (fun y1 => cond (!y1) (some false) ((i_logsAgree a0).bind (fun y2 => cond (!y2) (some false) ((i_longest a0).bind (fun y3 => (i_MapOf y3).bind (fun y4 => loopN (fun i6 (v17 : MapState × List MapState) κ18 => lt (a0.Servers.getD i6 default) (fun x19 => (i_MapOf x19.Log).bind (fun y20 => ck ((v17.2.length + 1) * 96 ≤ 140737488355328) (κ18 (v17.1, (v17.2 ++ ([y20] : List MapState))))))) (fun (v17 : MapState × List MapState) => loopN (fun i22 (v109 : MapState) κ110 => lt (a0.Servers.getD i22 default) (fun x111 => loopN (fun i112 (v139 : MapState) κ140 => ix v17.2 ((i22 : Nat) : Int) (fun _ => ix ((v17.2.getD i22 default).Views) ((i112 : Nat) : Int) (fun x141 => ix v17.2 ((i22 : Nat) : Int) (fun _ => lt (v17.2.getD i22 default) (fun x142 => (i_mayServe x111 x142 ((i112 : Nat) : Int)).bind (fun y143 => cond (!y143) (κ140 v139) (cond (decide (x141.B < 0)) (ix v139.Views ((i112 : Nat) : Int) (fun _ => cond (!decide ((v139.Views.getD i112 default).Num = x141.Num)) (some false) (κ140 v139))) (ix a0.Servers x141.B (fun x144 => ix v17.2 x141.B (fun _ => lt (v17.2.getD x141.B.toNat default) (fun x145 => (i_inView x144 x145 ((i112 : Nat) : Int)).bind (fun y146 => cond (!y146) (κ140 v139) (ix v17.2 x141.B (fun _ => ix ((v17.2.getD x141.B.toNat default).Views) ((i112 : Nat) : Int) (fun x147 => cond (!decide (x147.Num = x141.Num)) (κ140 v139) (ix v139.Views ((i112 : Nat) : Int) (fun _ => cond (decide (x141.Num < (v139.Views.getD i112 default).Num)) (some false) ((i_copyAt x111 ((i112 : Nat) : Int)).bind (fun y148 => ix x111.Copies y148 (fun x149 => (i_copyAt x144 ((i112 : Nat) : Int)).bind (fun y150 => ix x144.Copies y150 (fun x151 => (i_copiesAgree x149 x151 v139).bind (fun y152 => cond (!y152) (some false) (κ140 v139)))))))))))))))))))))))) (fun (v139 : MapState) => κ110 v139) 3 0 v109)) (fun (v109 : MapState) => some true) a0.Servers.length 0 v17.1) a0.Servers.length 0 (y4, ([] : List MapState))))))))
theorem i_PanSafe_c {t0_1 t0_2 t0_3 : Bool} {a0 : PanWorld} {r : Bool} (hF : i_PanSafe a0 = some r) : Con Tryz.prog 11 [.val true [.u (cI a0.Time), .u (ul Server.c 36 t0_1 a0.Servers), .u (ul Word.c 26 t0_2 a0.Radio), .u (ul PanCall.c 12 t0_3 a0.Calls)]] [] (vbool r) [] := by
 refine Con.of_Dz tabOk Tryz.func11 rfl rfl rfl ?_
 delta i_PanSafe at hF
 refine Dz.seq (Dz.reg (Dz.seq (Dz.seq (Dz.reg ?_))))
 refine bdE hF (fun y1 hy1 hF => ?_)
 refine callG [] (i_PanOk_c hy1) ⟨mv rfl, tv⟩ tv rfl ?_
 refine vif hF (fun _ hF => ?_) (fun _ hF => ?_)
 ·refine Dz.tt (b := true) rfl rfl ?_
  refine Dz.seq (Dz.reg (Dz.ret ?_))
  cases hF
  exact finG [] [] rfl rfl (mv rfl) tv rfl
 ·refine bdE hF (fun y2 hy2 hF => ?_)
  refine callG [] (i_logsAgree_c hy2) ⟨mv rfl, tv⟩ tv rfl ?_
  refine Dz.ite rfl hF (fun _ hF => ?_) (fun _ hF => ?_)
  ·refine Dz.seq (Dz.reg (Dz.ret ?_))
   cases hF
   exact finG [] [] rfl rfl (mv rfl) tv rfl
  ·refine Dz.skip (Dz.seq (Dz.reg ?_))
   refine bdE hF (fun y3 hy3 hF => ?_)
   refine callG [] (i_longest_c hy3) ⟨mv rfl, tv⟩ tv rfl ?_
   refine bdE hF (fun y4 hy4 hF => ?_)
   refine callG [] (i_MapOf_c hy4) ⟨mv rfl, tv⟩ tv rfl ?_
   refine Dz.seq (Dz.reg (Dz.seq (Dz.seq (Dz.reg ?_))))
   intro hb5; replace hb5 : a0.Servers.length ≤ 140737488355328 := hb5
   refine Dz.blk ?_
   refine Dz.cnt hF (fun i6 v17 => ([(1, .ptr 0 0), (3, .ptr 1 0), (4, .val false [.row 2]), (24, .val false [.u (ul Server.c 36 t0_1 a0.Servers)]), (25, vint .i64 ((a0.Servers.length : Nat) : Int)), (26, vint .i64 ((i6 : Nat) : Int))], [.box 33 [.u (cI a0.Time), .u (ul Server.c 36 t0_1 a0.Servers), .u (ul Word.c 26 t0_2 a0.Radio), .u (ul PanCall.c 12 t0_3 a0.Calls)], .box 78 [.u (cI v17.1.Slots), .u (cI v17.1.Servers), .u (cI v17.1.Next), .row 3, .row 4, .row 5], .row 78 v17.2.length 6 (gl MapState.c v17.2), .row 176 v17.1.Disks.length 7 (gl MapDisk.c v17.1.Disks), .row 87 v17.1.Views.length 3 (gl MapView.c v17.1.Views), .row 227 v17.1.Done.length 4 (gl MapDone.c v17.1.Done)])) (entF [.slot 4 78 6] [0, 4, 5, 1, 2, 3] rfl ⟨mp rfl, mp rfl, ⟨rfl, rfl, tv⟩, mv rfl, mv rfl, mv rfl, tv⟩ ⟨⟨rfl, o_box rfl⟩, ⟨rfl, ⟨rfl, lr, lr, lr, rfl, rfl, rfl, tv⟩⟩, ⟨rfl, o_rowE (by simp <;> omega) EqG.nilr⟩, ⟨rfl, o_row⟩, ⟨rfl, o_row⟩, ⟨rfl, o_row⟩, tv⟩ rfl) (fun v17 hF => ?_) (fun i6 v17 κ18 hi0i6 hi1i6 hF => ?_)
   ·refine Dz.seq (Dz.reg (Dz.seq ?_))
    refine Dz.ff (b := decide (((0 + a0.Servers.length : Nat) : Int) < ((a0.Servers.length : Nat) : Int))) rfl (decide_eq_false (by omega)) ?_
    refine Dz.exit (Dz.seq (Dz.seq (Dz.reg ?_)))
    intro hb21; replace hb21 : a0.Servers.length ≤ 140737488355328 := hb21
    refine Dz.blk ?_
    refine Dz.cnt hF (fun i22 v109 => ([(1, .ptr 0 0), (3, .ptr 1 0), (4, .val false [.row 2]), (38, .val false [.u (ul Server.c 36 t0_1 a0.Servers)]), (39, vint .i64 ((a0.Servers.length : Nat) : Int)), (40, vint .i64 ((i22 : Nat) : Int))], [.box 33 [.u (cI a0.Time), .u (ul Server.c 36 t0_1 a0.Servers), .u (ul Word.c 26 t0_2 a0.Radio), .u (ul PanCall.c 12 t0_3 a0.Calls)], .box 78 [.u (cI v109.Slots), .u (cI v109.Servers), .u (cI v109.Next), .row 3, .row 4, .row 5], .row 78 v17.2.length 6 (gl MapState.c v17.2), .row 176 v109.Disks.length 7 (gl MapDisk.c v109.Disks), .row 87 v109.Views.length 3 (gl MapView.c v109.Views), .row 227 v109.Done.length 4 (gl MapDone.c v109.Done)])) (entG [0, 1, 2, 3, 4, 5] ⟨mp rfl, mp rfl, ⟨rfl, rfl, tv⟩, mv rfl, mv rfl, mv rfl, tv⟩ ⟨⟨rfl, o_box rfl⟩, ⟨rfl, ⟨rfl, lr, lr, lr, rfl, rfl, rfl, tv⟩⟩, ⟨rfl, o_row⟩, ⟨rfl, o_row⟩, ⟨rfl, o_row⟩, ⟨rfl, o_row⟩, tv⟩ rfl) (fun v109 hF => ?_) (fun i22 v109 κ110 hi0i22 hi1i22 hF => ?_)
    ·refine Dz.seq (Dz.reg (Dz.seq ?_))
     refine Dz.ff (b := decide (((0 + a0.Servers.length : Nat) : Int) < ((a0.Servers.length : Nat) : Int))) rfl (decide_eq_false (by omega)) ?_
     refine Dz.exit (Dz.seq (Dz.reg (Dz.ret ?_)))
     cases hF
     exact finG [] [] rfl rfl (mv rfl) tv rfl
    ·refine Dz.seq (Dz.reg (Dz.seq ?_))
     refine Dz.tt (b := decide (((i22 : Nat) : Int) < ((a0.Servers.length : Nat) : Int))) rfl (decide_eq_true (by omega)) ?_
     refine Dz.skip (Dz.seq (Dz.blk (Dz.seq (Dz.reg ?_))))
     refine vge (n := ((i22 : Nat) : Int)) (hi := (a0.Servers.length : Int)) (by omega) (by omega) ?_
     have hF := ltE hF
     refine Dz.seq (Dz.reg (Dz.blk ?_))
     refine Dz.cnt hF (fun i112 v139 => ([(1, .ptr 0 0), (3, .ptr 1 0), (4, .val false [.row 2]), (7, vint .i64 ((i22 : Nat) : Int)), (8, .ptr 3 0), (9, vint .i64 ((i112 : Nat) : Int)), (38, .val false [.u (ul Server.c 36 t0_1 a0.Servers)]), (39, vint .i64 ((a0.Servers.length : Nat) : Int)), (40, vint .i64 ((i22 : Nat) : Int))], [.box 33 [.u (cI a0.Time), .u (ul Server.c 36 t0_1 a0.Servers), .u (ul Word.c 26 t0_2 a0.Radio), .u (ul PanCall.c 12 t0_3 a0.Calls)], .box 78 [.u (cI v139.Slots), .u (cI v139.Servers), .u (cI v139.Next), .row 4, .row 5, .row 6], .row 78 v17.2.length 6 (gl MapState.c v17.2), .box 52 (Server.L (a0.Servers.getD i22 default)), .row 176 v139.Disks.length 7 (gl MapDisk.c v139.Disks), .row 87 v139.Views.length 3 (gl MapView.c v139.Views), .row 227 v139.Done.length 4 (gl MapDone.c v139.Done)])) (entG [0, 1, 2, 6, 3, 4, 5] ⟨mp rfl, mp rfl, ⟨rfl, rfl, tv⟩, mv rfl, mp rfl, mv rfl, mv rfl, mv rfl, mv rfl, tv⟩ ⟨⟨rfl, o_box rfl⟩, ⟨rfl, ⟨rfl, lr, lr, lr, rfl, rfl, rfl, tv⟩⟩, ⟨rfl, o_row⟩, ⟨rfl, o_box rfl⟩, ⟨rfl, o_row⟩, ⟨rfl, o_row⟩, ⟨rfl, o_row⟩, tv⟩ rfl) (fun v139 hF => ?_) (fun i112 v139 κ140 hi0i112 hi1i112 hF => ?_)
     ·refine Dz.seq (Dz.seq (Dz.reg ?_))
      refine Dz.ff (b := decide (((0 + 3 : Nat) : Int) < 3)) rfl (decide_eq_false (by omega)) ?_
      refine Dz.exit (Dz.reg ?_)
      refine vsucc (by omega) ?_
      exact ⟨v139, entG [0, 1, 2, 4, 5, 6] ⟨mp rfl, mp rfl, ⟨rfl, rfl, tv⟩, mv rfl, mv rfl, mv rfl, tv⟩ ⟨⟨rfl, o_box rfl⟩, ⟨rfl, ⟨rfl, lr, lr, lr, rfl, rfl, rfl, tv⟩⟩, ⟨rfl, o_row⟩, ⟨rfl, o_row⟩, ⟨rfl, o_row⟩, ⟨rfl, o_row⟩, tv⟩ rfl, hF⟩
     ·refine Dz.seq (Dz.seq (Dz.reg ?_))
      refine Dz.tt (b := decide (((i112 : Nat) : Int) < 3)) rfl (decide_eq_true (by omega)) ?_
      refine Dz.skip (Dz.seq (Dz.blk (Dz.seq (Dz.reg ?_))))
      refine vix hF (fun _ _ hF => ?_)
      refine vix hF (fun _ _ hF => ?_)
      refine Dz.seq (Dz.seq ?_)
      refine Dz.drw 8 [⟨[58,59,60,61,62], [3], 8, 8⟩, ⟨[57,59,62], [], 8, 8⟩, ⟨[57,58,62], [], 8, 8⟩, ⟨[57,62], [2], 8, 8⟩, ⟨[57,62], [2], 8, 8⟩, ⟨[57,58,59,60,61], [], 8, 8⟩, ⟨[], [], 8, 8⟩, ⟨[], [], 8, 8⟩] ⟨by kernel_rfl, by kernel_rfl, rfl⟩ ?_
      refine vix hF (fun _ _ hF => ?_)
      have hF := ltE hF
      refine bdE hF (fun y143 hy143 hF => ?_)
      refine callG [] (i_mayServe_c hy143) ⟨mv rfl, mv rfl, mv rfl, tv⟩ tv rfl ?_
      refine Dz.ite rfl hF (fun _ hF => ?_) (fun _ hF => ?_)
      ·refine Dz.exit (Dz.reg ?_)
       refine vsucc (by omega) ?_
       exact ⟨v139, entG [0, 1, 2, 3, 4, 5, 6] ⟨mp rfl, mp rfl, ⟨rfl, rfl, tv⟩, mv rfl, mp rfl, mv rfl, mv rfl, mv rfl, mv rfl, tv⟩ ⟨⟨rfl, o_box rfl⟩, ⟨rfl, ⟨rfl, lr, lr, lr, rfl, rfl, rfl, tv⟩⟩, ⟨rfl, o_row⟩, ⟨rfl, o_box rfl⟩, ⟨rfl, o_row⟩, ⟨rfl, o_row⟩, ⟨rfl, o_row⟩, tv⟩ rfl, hF⟩
      ·refine Dz.skip (Dz.seq (Dz.seq (Dz.reg ?_)))
       refine Dz.ite rfl hF (fun _ hF => ?_) (fun _ hF => ?_)
       ·refine Dz.seq (Dz.seq ?_)
        refine Dz.drw 8 [⟨[70,74,75], [], 8, 8⟩, ⟨[70,74,75], [1], 8, 8⟩, ⟨[68,69,74,75], [], 8, 8⟩, ⟨[74,75], [5], 8, 8⟩, ⟨[74,75], [], 8, 8⟩, ⟨[74,75], [5], 8, 8⟩, ⟨[68,69,70,71,72,73], [], 8, 8⟩, ⟨[68,69,70,71,72,73], [7], 8, 8⟩, ⟨[], [], 8, 8⟩] ⟨by kernel_rfl, by kernel_rfl, rfl⟩ ?_
        refine vix hF (fun _ _ hF => ?_)
        refine Dz.ite rfl hF (fun _ hF => ?_) (fun _ hF => ?_)
        ·refine Dz.seq (Dz.reg (Dz.ret ?_))
         cases hF
         exact finG [] [] rfl rfl (mv rfl) tv rfl
        ·refine Dz.skip (Dz.exit (Dz.reg ?_))
         refine vsucc (by omega) ?_
         exact ⟨v139, entG [0, 1, 2, 3, 4, 5, 6] ⟨mp rfl, mp rfl, ⟨rfl, rfl, tv⟩, mv rfl, mp rfl, mv rfl, mv rfl, mv rfl, mv rfl, tv⟩ ⟨⟨rfl, o_box rfl⟩, ⟨rfl, ⟨rfl, lr, lr, lr, rfl, rfl, rfl, tv⟩⟩, ⟨rfl, o_row⟩, ⟨rfl, o_box rfl⟩, ⟨rfl, o_row⟩, ⟨rfl, o_row⟩, ⟨rfl, o_row⟩, tv⟩ rfl, hF⟩
       ·refine Dz.skip (Dz.seq (Dz.reg ?_))
        refine vix hF (fun _ _ hF => ?_)
        refine Dz.seq (Dz.seq ?_)
        refine Dz.drw 9 [⟨[84,85,86,87,88,89], [8], 9, 9⟩, ⟨[83,85,86,89], [], 9, 9⟩, ⟨[83,84,89], [], 9, 9⟩, ⟨[83,84,89], [7], 9, 9⟩, ⟨[83,89], [2], 9, 9⟩, ⟨[83,89], [2], 9, 9⟩, ⟨[83,84,85,86,87,88], [], 9, 9⟩, ⟨[], [], 9, 9⟩, ⟨[], [], 9, 9⟩, ⟨[], [], 9, 9⟩, ⟨[94,95,99,103,104], [], 9, 9⟩, ⟨[93,99,103,104], [], 9, 9⟩, ⟨[93,99,103,104], [7], 9, 9⟩, ⟨[99,103,104], [2], 9, 9⟩, ⟨[99,103,104], [], 9, 9⟩, ⟨[99,103,104], [2], 9, 9⟩, ⟨[93,94,95,96,97,98,103,104], [], 9, 9⟩, ⟨[103,104], [], 9, 9⟩, ⟨[103,104], [], 9, 9⟩, ⟨[103,104], [], 9, 9⟩, ⟨[93,94,95,96,97,98,99,100,101,102], [], 9, 9⟩, ⟨[93,94,95,96,97,98,99,100,101,102], [7], 9, 9⟩, ⟨[], [], 9, 9⟩, ⟨[], [], 9, 9⟩] ⟨by kernel_rfl, by kernel_rfl, rfl⟩ ?_
        refine vix hF (fun _ _ hF => ?_)
        have hF := ltE hF
        refine bdE hF (fun y146 hy146 hF => ?_)
        refine callG [] (i_inView_c hy146) ⟨mv rfl, mv rfl, mv rfl, tv⟩ tv rfl ?_
        refine vif hF (fun _ hF => ?_) (fun _ hF => ?_)
        ·refine Dz.tt (b := true) rfl rfl ?_
         refine Dz.exit (Dz.reg ?_)
         refine vsucc (by omega) ?_
         exact ⟨v139, entG [0, 1, 2, 3, 4, 5, 6] ⟨mp rfl, mp rfl, ⟨rfl, rfl, tv⟩, mv rfl, mp rfl, mv rfl, mv rfl, mv rfl, mv rfl, tv⟩ ⟨⟨rfl, o_box rfl⟩, ⟨rfl, ⟨rfl, lr, lr, lr, rfl, rfl, rfl, tv⟩⟩, ⟨rfl, o_row⟩, ⟨rfl, o_box rfl⟩, ⟨rfl, o_row⟩, ⟨rfl, o_row⟩, ⟨rfl, o_row⟩, tv⟩ rfl, hF⟩
        ·refine vix hF (fun _ _ hF => ?_)
         refine vix hF (fun _ _ hF => ?_)
         refine Dz.ite rfl hF (fun _ hF => ?_) (fun _ hF => ?_)
         ·refine Dz.exit (Dz.reg ?_)
          refine vsucc (by omega) ?_
          exact ⟨v139, entG [0, 1, 2, 3, 4, 5, 6] ⟨mp rfl, mp rfl, ⟨rfl, rfl, tv⟩, mv rfl, mp rfl, mv rfl, mv rfl, mv rfl, mv rfl, tv⟩ ⟨⟨rfl, o_box rfl⟩, ⟨rfl, ⟨rfl, lr, lr, lr, rfl, rfl, rfl, tv⟩⟩, ⟨rfl, o_row⟩, ⟨rfl, o_box rfl⟩, ⟨rfl, o_row⟩, ⟨rfl, o_row⟩, ⟨rfl, o_row⟩, tv⟩ rfl, hF⟩
         ·refine Dz.skip (Dz.seq ?_)
          refine Dz.drw 9 [⟨[109,113,114], [], 9, 9⟩, ⟨[109,113,114], [1], 9, 9⟩, ⟨[107,108,113,114], [], 9, 9⟩, ⟨[113,114], [5], 9, 9⟩, ⟨[113,114], [], 9, 9⟩, ⟨[113,114], [5], 9, 9⟩, ⟨[107,108,109,110,111,112], [], 9, 9⟩, ⟨[107,108,109,110,111,112], [7], 9, 9⟩, ⟨[], [], 9, 9⟩, ⟨[], [], 9, 9⟩, ⟨[119,120,121,124,125,126,127,128,129,130,131], [], 9, 9⟩, ⟨[119,120,121,124,125,126,127,128,129,130,131], [3], 9, 9⟩, ⟨[117,118,120,124,125,126,127,131], [3], 9, 9⟩, ⟨[117,118,119,124,125,126,127,131], [], 9, 9⟩, ⟨[117,118,124,125,126,127,131], [], 9, 9⟩, ⟨[124,125,126,127,128,129,130,131], [], 9, 9⟩, ⟨[124,125,126,127,128,129,130,131], [], 9, 9⟩, ⟨[117,118,119,120,121,122,123,126,127,128,131], [], 9, 9⟩, ⟨[117,118,119,120,121,122,123,126,127,128,131], [8], 9, 9⟩, ⟨[117,118,119,120,121,122,123,124,125,127,131], [8], 9, 9⟩, ⟨[117,118,119,120,121,122,123,124,125,126,131], [], 9, 9⟩, ⟨[117,118,122,123,124,125,131], [], 9, 9⟩, ⟨[117,118,122,123,131], [], 9, 9⟩, ⟨[117,118,122,123,131], [], 9, 9⟩, ⟨[117,118,119,120,121,122,123,124,125,126,127,128,129,130], [1], 9, 9⟩, ⟨[], [4,5,6], 9, 9⟩, ⟨[], [], 9, 9⟩, ⟨[], [], 9, 9⟩] ⟨by kernel_rfl, by kernel_rfl, rfl⟩ ?_
          refine vix hF (fun _ _ hF => ?_)
          refine vif hF (fun _ hF => ?_) (fun _ hF => ?_)
          ·refine Dz.tt (b := true) rfl rfl ?_
           refine Dz.seq (Dz.reg (Dz.ret ?_))
           cases hF
           exact finG [] [] rfl rfl (mv rfl) tv rfl
          ·refine bdE hF (fun y148 hy148 hF => ?_)
           refine callG [] (i_copyAt_c hy148) ⟨mv rfl, mv rfl, tv⟩ tv rfl ?_
           refine vix hF (fun _ _ hF => ?_)
           refine bdE hF (fun y150 hy150 hF => ?_)
           refine callG [] (i_copyAt_c hy150) ⟨mv rfl, mv rfl, tv⟩ tv rfl ?_
           refine vix hF (fun _ _ hF => ?_)
           refine bdE hF (fun y152 hy152 hF => ?_)
           refine callL [] (i_copiesAgree_c hy152) ⟨mv rfl, mv rfl, ⟨rfl, lr, lr, lr, ⟨rfl, rfl, lr⟩, ⟨rfl, rfl, lr⟩, ⟨rfl, rfl, lr⟩, tv⟩, tv⟩ tv rfl ⟨⟨tv, tv⟩, tv⟩ ?_
           refine Dz.ite rfl hF (fun _ hF => ?_) (fun _ hF => ?_)
           ·refine Dz.seq (Dz.reg (Dz.ret ?_))
            cases hF
            exact finG [] [] rfl rfl (mv rfl) tv rfl
           ·refine Dz.skip (Dz.reg ?_)
            refine vsucc (by omega) ?_
            exact ⟨v139, entG [0, 1, 2, 3, 4, 5, 6] ⟨mp rfl, mp rfl, ⟨rfl, rfl, tv⟩, mv rfl, mp rfl, mv rfl, mv rfl, mv rfl, mv rfl, tv⟩ ⟨⟨rfl, o_box rfl⟩, ⟨rfl, ⟨rfl, lr, lr, lr, rfl, rfl, rfl, tv⟩⟩, ⟨rfl, o_row⟩, ⟨rfl, o_box rfl⟩, ⟨rfl, o_row⟩, ⟨rfl, o_row⟩, ⟨rfl, o_row⟩, tv⟩ rfl, hF⟩
   ·refine Dz.seq (Dz.reg (Dz.seq ?_))
    refine Dz.tt (b := decide (((i6 : Nat) : Int) < ((a0.Servers.length : Nat) : Int))) rfl (decide_eq_true (by omega)) ?_
    refine Dz.skip (Dz.seq (Dz.blk (Dz.seq (Dz.reg ?_))))
    refine vge (n := ((i6 : Nat) : Int)) (hi := (a0.Servers.length : Int)) (by omega) (by omega) ?_
    have hF := ltE hF
    refine Dz.reg ?_
    refine bdE hF (fun y20 hy20 hF => ?_)
    refine callG [] (i_MapOf_c hy20) ⟨mv rfl, tv⟩ tv rfl ?_
    refine vck hF id (fun _ hF => ?_)
    refine Dz.row 10 ([y20] : List MapState).length (gl MapState.c ([y20] : List MapState)) rfl (by simp <;> omega) (EqG.lit (c := MapState.c) (sz := 6) (L := ([y20] : List MapState)) ⟨lr, lr, lr, lr, lr, lr, tv⟩) ?_
    refine Dz.row 11 (v17.2 ++ ([y20] : List MapState)).length (gl MapState.c (v17.2 ++ ([y20] : List MapState))) rfl (by simp <;> omega) (EqG.app rfl (by simp <;> omega) (EqG.refl _ _ _) (EqG.lit (c := MapState.c) (sz := 6) (L := ([y20] : List MapState)) ⟨lr, lr, lr, lr, lr, lr, tv⟩)) ?_
    refine Dz.reg ?_
    refine vsucc (by omega) ?_
    exact ⟨(v17.1, (v17.2 ++ ([y20] : List MapState))), entG [0, 1, 11, 3, 4, 5] ⟨mp rfl, mp rfl, ⟨rfl, rfl, tv⟩, mv rfl, mv rfl, mv rfl, tv⟩ ⟨⟨rfl, o_box rfl⟩, ⟨rfl, ⟨rfl, lr, lr, lr, rfl, rfl, rfl, tv⟩⟩, ⟨rfl, o_row⟩, ⟨rfl, o_row⟩, ⟨rfl, o_row⟩, ⟨rfl, o_row⟩, tv⟩ rfl, hF⟩
def l_eqCmd (a0 : Cmd) (a1 : Cmd) : Option (Bool) :=
 cond (!decide (a0.Kind = a1.Kind)) (some false) (cond (!decide (a0.Client = a1.Client)) (some false) (cond (!decide (a0.Call = a1.Call)) (some false) (cond (!decide (a0.Disk = a1.Disk)) (some false) (cond (!decide (a0.Arg = a1.Arg)) (some false) (cond (!decide (a0.Epoch = a1.Epoch)) (some false) (cond (!decide (a0.Range = a1.Range)) (some false) (cond (!decide (a0.Num = a1.Num)) (some false) (cond (!decide (a0.A = a1.A)) (some false) (cond (!decide (a0.B = a1.B)) (some false) (some true))))))))))
theorem l_eqCmd_c {a0 : Cmd} {a1 : Cmd} {r : Bool} (hF : l_eqCmd a0 a1 = some r) : Con Tryz.prog 192 [.val true (Cmd.L a0), .val true (Cmd.L a1)] [] (vbool r) [] := by
 refine Con.of_Dz tabOk Tryz.func192 rfl rfl rfl ?_
 delta l_eqCmd at hF
 refine Dz.seq (Dz.reg (Dz.seq (Dz.seq (Dz.reg ?_))))
 refine Dz.ite rfl hF (fun _ hF => ?_) (fun _ hF => ?_)
 ·refine Dz.seq (Dz.reg (Dz.ret ?_))
  cases hF
  exact finG [] [] rfl rfl (mv rfl) tv rfl
 ·refine Dz.skip (Dz.seq (Dz.seq (Dz.reg ?_)))
  refine Dz.ite rfl hF (fun _ hF => ?_) (fun _ hF => ?_)
  ·refine Dz.seq (Dz.reg (Dz.ret ?_))
   cases hF
   exact finG [] [] rfl rfl (mv rfl) tv rfl
  ·refine Dz.skip (Dz.seq (Dz.seq (Dz.reg ?_)))
   refine Dz.ite rfl hF (fun _ hF => ?_) (fun _ hF => ?_)
   ·refine Dz.seq (Dz.reg (Dz.ret ?_))
    cases hF
    exact finG [] [] rfl rfl (mv rfl) tv rfl
   ·refine Dz.skip (Dz.seq (Dz.seq (Dz.reg ?_)))
    refine Dz.ite rfl hF (fun _ hF => ?_) (fun _ hF => ?_)
    ·refine Dz.seq (Dz.reg (Dz.ret ?_))
     cases hF
     exact finG [] [] rfl rfl (mv rfl) tv rfl
    ·refine Dz.skip (Dz.seq (Dz.seq (Dz.reg ?_)))
     refine Dz.ite rfl hF (fun _ hF => ?_) (fun _ hF => ?_)
     ·refine Dz.seq (Dz.reg (Dz.ret ?_))
      cases hF
      exact finG [] [] rfl rfl (mv rfl) tv rfl
     ·refine Dz.skip (Dz.seq (Dz.seq (Dz.reg ?_)))
      refine Dz.ite rfl hF (fun _ hF => ?_) (fun _ hF => ?_)
      ·refine Dz.seq (Dz.reg (Dz.ret ?_))
       cases hF
       exact finG [] [] rfl rfl (mv rfl) tv rfl
      ·refine Dz.skip (Dz.seq (Dz.seq (Dz.reg ?_)))
       refine Dz.ite rfl hF (fun _ hF => ?_) (fun _ hF => ?_)
       ·refine Dz.seq (Dz.reg (Dz.ret ?_))
        cases hF
        exact finG [] [] rfl rfl (mv rfl) tv rfl
       ·refine Dz.skip (Dz.seq (Dz.seq (Dz.reg ?_)))
        refine Dz.ite rfl hF (fun _ hF => ?_) (fun _ hF => ?_)
        ·refine Dz.seq (Dz.reg (Dz.ret ?_))
         cases hF
         exact finG [] [] rfl rfl (mv rfl) tv rfl
        ·refine Dz.skip (Dz.seq (Dz.seq (Dz.reg ?_)))
         refine Dz.ite rfl hF (fun _ hF => ?_) (fun _ hF => ?_)
         ·refine Dz.seq (Dz.reg (Dz.ret ?_))
          cases hF
          exact finG [] [] rfl rfl (mv rfl) tv rfl
         ·refine Dz.skip (Dz.seq (Dz.seq (Dz.reg ?_)))
          refine Dz.ite rfl hF (fun _ hF => ?_) (fun _ hF => ?_)
          ·refine Dz.seq (Dz.reg (Dz.ret ?_))
           cases hF
           exact finG [] [] rfl rfl (mv rfl) tv rfl
          ·refine Dz.skip (Dz.seq (Dz.reg (Dz.ret ?_)))
           cases hF
           exact finG [] [] rfl rfl (mv rfl) tv rfl
def l_eqSynPaper (a0 : SynPaper) (a1 : SynPaper) : Option (Bool) :=
 cond (!decide (a0.Slot = a1.Slot)) (some false) (cond (!decide (a0.Ballot = a1.Ballot)) (some false) ((l_eqCmd a0.Cmd a1.Cmd).bind (fun y1 => cond (!y1) (some false) (some true))))
theorem l_eqSynPaper_c {a0 : SynPaper} {a1 : SynPaper} {r : Bool} (hF : l_eqSynPaper a0 a1 = some r) : Con Tryz.prog 238 [.val true (SynPaper.L a0), .val true (SynPaper.L a1)] [] (vbool r) [] := by
 refine Con.of_Dz tabOk Tryz.func238 rfl rfl rfl ?_
 delta l_eqSynPaper at hF
 refine Dz.seq (Dz.reg (Dz.seq (Dz.seq (Dz.reg ?_))))
 refine Dz.ite rfl hF (fun _ hF => ?_) (fun _ hF => ?_)
 ·refine Dz.seq (Dz.reg (Dz.ret ?_))
  cases hF
  exact finG [] [] rfl rfl (mv rfl) tv rfl
 ·refine Dz.skip (Dz.seq (Dz.seq (Dz.reg ?_)))
  refine Dz.ite rfl hF (fun _ hF => ?_) (fun _ hF => ?_)
  ·refine Dz.seq (Dz.reg (Dz.ret ?_))
   cases hF
   exact finG [] [] rfl rfl (mv rfl) tv rfl
  ·refine Dz.skip (Dz.seq (Dz.seq (Dz.reg ?_)))
   refine bdE hF (fun y1 hy1 hF => ?_)
   refine callG [] (l_eqCmd_c hy1) ⟨mv rfl, mv rfl, tv⟩ tv rfl ?_
   refine Dz.ite rfl hF (fun _ hF => ?_) (fun _ hF => ?_)
   ·refine Dz.seq (Dz.reg (Dz.ret ?_))
    cases hF
    exact finG [] [] rfl rfl (mv rfl) tv rfl
   ·refine Dz.skip (Dz.seq (Dz.reg (Dz.ret ?_)))
    cases hF
    exact finG [] [] rfl rfl (mv rfl) tv rfl
def l_eqSynPaperS (a0 : (List SynPaper)) (a1 : (List SynPaper)) : Option (Bool) :=
 cond (!decide (((a0.length : Nat) : Int) = ((a1.length : Nat) : Int))) (some false) (loopN (fun i3 (v8 : Unit) κ9 => lt (a0.getD i3 default) (fun x11 => ix a1 ((i3 : Nat) : Int) (fun x12 => (l_eqSynPaper x11 x12).bind (fun y13 => cond (!y13) (some false) (κ9 ()))))) (fun (v8 : Unit) => some true) a0.length 0 ())
theorem l_eqSynPaperS_c {t0_0 t1_0 : Bool} {a0 : (List SynPaper)} {a1 : (List SynPaper)} {r : Bool} (hF : l_eqSynPaperS a0 a1 = some r) : Con Tryz.prog 236 [.val false [.u (ul SynPaper.c 12 t0_0 a0)], .val false [.u (ul SynPaper.c 12 t1_0 a1)]] [] (vbool r) [] := by
 refine Con.of_Dz tabOk Tryz.func236 rfl rfl rfl ?_
 delta l_eqSynPaperS at hF
 refine Dz.seq (Dz.reg (Dz.seq (Dz.seq (Dz.reg ?_))))
 intro hb1; replace hb1 : a0.length ≤ 140737488355328 := hb1
 intro hb2; replace hb2 : a1.length ≤ 140737488355328 := hb2
 refine Dz.ite rfl hF (fun _ hF => ?_) (fun _ hF => ?_)
 ·refine Dz.seq (Dz.reg (Dz.ret ?_))
  cases hF
  exact finG [] [] rfl rfl (mv rfl) tv rfl
 ·refine Dz.skip (Dz.seq (Dz.seq (Dz.reg (Dz.blk ?_))))
  refine Dz.cnt hF (fun i3 v8 => ([(0, .val false [.u (ul SynPaper.c 12 t0_0 a0)]), (1, .val false [.u (ul SynPaper.c 12 t1_0 a1)]), (5, vint .i64 ((i3 : Nat) : Int))], [])) (entG [] ⟨mv rfl, mv rfl, mv rfl, tv⟩ tv rfl) (fun v8 hF => ?_) (fun i3 v8 κ9 hi0i3 hi1i3 hF => ?_)
  ·refine Dz.seq (Dz.seq (Dz.reg ?_))
   intro hb14; replace hb14 : a0.length ≤ 140737488355328 := hb14
   refine Dz.ff (b := decide (((0 + a0.length : Nat) : Int) < ((a0.length : Nat) : Int))) rfl (decide_eq_false (by omega)) ?_
   refine Dz.exit (Dz.seq (Dz.reg (Dz.ret ?_)))
   cases hF
   exact finG [] [] rfl rfl (mv rfl) tv rfl
  ·refine Dz.seq (Dz.seq (Dz.reg ?_))
   intro hb10; replace hb10 : a0.length ≤ 140737488355328 := hb10
   refine Dz.tt (b := decide (((i3 : Nat) : Int) < ((a0.length : Nat) : Int))) rfl (decide_eq_true (by omega)) ?_
   refine Dz.skip (Dz.seq (Dz.blk (Dz.seq ?_)))
   refine Dz.drw 0 [⟨[18,21,22,23,24], [], 0, 0⟩, ⟨[17,21,22,23,24], [], 0, 0⟩, ⟨[21,22,23,24], [], 0, 0⟩, ⟨[21,22,23,24], [], 0, 0⟩, ⟨[17,18,19,20,22], [], 0, 0⟩, ⟨[17,18,19,20,21], [], 0, 0⟩, ⟨[17,18,19,20], [], 0, 0⟩, ⟨[17,18,19,20], [], 0, 0⟩, ⟨[], [], 0, 0⟩, ⟨[], [], 0, 0⟩] ⟨by kernel_rfl, by kernel_rfl, rfl⟩ ?_
   refine vge (n := ((i3 : Nat) : Int)) (hi := (a0.length : Int)) (by omega) (by omega) ?_
   have hF := ltE hF
   refine vix hF (fun _ _ hF => ?_)
   refine bdE hF (fun y13 hy13 hF => ?_)
   refine callG [] (l_eqSynPaper_c hy13) ⟨mv rfl, mv rfl, tv⟩ tv rfl ?_
   refine Dz.ite rfl hF (fun _ hF => ?_) (fun _ hF => ?_)
   ·refine Dz.seq (Dz.reg (Dz.ret ?_))
    cases hF
    exact finG [] [] rfl rfl (mv rfl) tv rfl
   ·refine Dz.skip (Dz.reg ?_)
    refine vsucc (by omega) ?_
    exact ⟨(), entG [] ⟨mv rfl, mv rfl, mv rfl, tv⟩ tv rfl, hF⟩
def l_eqSynVoter (a0 : SynVoter) (a1 : SynVoter) : Option (Bool) :=
 cond (!decide (a0.Promised = a1.Promised)) (some false) ((l_eqSynPaperS a0.Papers a1.Papers).bind (fun y1 => cond (!y1) (some false) (some true)))
theorem l_eqSynVoter_c {t0_1 t1_1 : Bool} {a0 : SynVoter} {a1 : SynVoter} {r : Bool} (hF : l_eqSynVoter a0 a1 = some r) : Con Tryz.prog 187 [.val true [.u (cI a0.Promised), .u (ul SynPaper.c 12 t0_1 a0.Papers)], .val true [.u (cI a1.Promised), .u (ul SynPaper.c 12 t1_1 a1.Papers)]] [] (vbool r) [] := by
 refine Con.of_Dz tabOk Tryz.func187 rfl rfl rfl ?_
 delta l_eqSynVoter at hF
 refine Dz.seq (Dz.reg (Dz.seq (Dz.seq (Dz.reg ?_))))
 refine Dz.ite rfl hF (fun _ hF => ?_) (fun _ hF => ?_)
 ·refine Dz.seq (Dz.reg (Dz.ret ?_))
  cases hF
  exact finG [] [] rfl rfl (mv rfl) tv rfl
 ·refine Dz.skip (Dz.seq (Dz.seq (Dz.reg ?_)))
  refine bdE hF (fun y1 hy1 hF => ?_)
  refine callG [] (l_eqSynPaperS_c hy1) ⟨mv rfl, mv rfl, tv⟩ tv rfl ?_
  refine Dz.ite rfl hF (fun _ hF => ?_) (fun _ hF => ?_)
  ·refine Dz.seq (Dz.reg (Dz.ret ?_))
   cases hF
   exact finG [] [] rfl rfl (mv rfl) tv rfl
  ·refine Dz.skip (Dz.seq (Dz.reg (Dz.ret ?_)))
   cases hF
   exact finG [] [] rfl rfl (mv rfl) tv rfl
def l_eqCmdS (a0 : (List Cmd)) (a1 : (List Cmd)) : Option (Bool) :=
 cond (!decide (((a0.length : Nat) : Int) = ((a1.length : Nat) : Int))) (some false) (loopN (fun i3 (v8 : Unit) κ9 => lt (a0.getD i3 default) (fun x11 => ix a1 ((i3 : Nat) : Int) (fun x12 => (l_eqCmd x11 x12).bind (fun y13 => cond (!y13) (some false) (κ9 ()))))) (fun (v8 : Unit) => some true) a0.length 0 ())
theorem l_eqCmdS_c {t0_0 t1_0 : Bool} {a0 : (List Cmd)} {a1 : (List Cmd)} {r : Bool} (hF : l_eqCmdS a0 a1 = some r) : Con Tryz.prog 188 [.val false [.u (ul Cmd.c 10 t0_0 a0)], .val false [.u (ul Cmd.c 10 t1_0 a1)]] [] (vbool r) [] := by
 refine Con.of_Dz tabOk Tryz.func188 rfl rfl rfl ?_
 delta l_eqCmdS at hF
 refine Dz.seq (Dz.reg (Dz.seq (Dz.seq (Dz.reg ?_))))
 intro hb1; replace hb1 : a0.length ≤ 140737488355328 := hb1
 intro hb2; replace hb2 : a1.length ≤ 140737488355328 := hb2
 refine Dz.ite rfl hF (fun _ hF => ?_) (fun _ hF => ?_)
 ·refine Dz.seq (Dz.reg (Dz.ret ?_))
  cases hF
  exact finG [] [] rfl rfl (mv rfl) tv rfl
 ·refine Dz.skip (Dz.seq (Dz.seq (Dz.reg (Dz.blk ?_))))
  refine Dz.cnt hF (fun i3 v8 => ([(0, .val false [.u (ul Cmd.c 10 t0_0 a0)]), (1, .val false [.u (ul Cmd.c 10 t1_0 a1)]), (5, vint .i64 ((i3 : Nat) : Int))], [])) (entG [] ⟨mv rfl, mv rfl, mv rfl, tv⟩ tv rfl) (fun v8 hF => ?_) (fun i3 v8 κ9 hi0i3 hi1i3 hF => ?_)
  ·refine Dz.seq (Dz.seq (Dz.reg ?_))
   intro hb14; replace hb14 : a0.length ≤ 140737488355328 := hb14
   refine Dz.ff (b := decide (((0 + a0.length : Nat) : Int) < ((a0.length : Nat) : Int))) rfl (decide_eq_false (by omega)) ?_
   refine Dz.exit (Dz.seq (Dz.reg (Dz.ret ?_)))
   cases hF
   exact finG [] [] rfl rfl (mv rfl) tv rfl
  ·refine Dz.seq (Dz.seq (Dz.reg ?_))
   intro hb10; replace hb10 : a0.length ≤ 140737488355328 := hb10
   refine Dz.tt (b := decide (((i3 : Nat) : Int) < ((a0.length : Nat) : Int))) rfl (decide_eq_true (by omega)) ?_
   refine Dz.skip (Dz.seq (Dz.blk (Dz.seq ?_)))
   refine Dz.drw 0 [⟨[18,21,22,23,24], [], 0, 0⟩, ⟨[17,21,22,23,24], [], 0, 0⟩, ⟨[21,22,23,24], [], 0, 0⟩, ⟨[21,22,23,24], [], 0, 0⟩, ⟨[17,18,19,20,22], [], 0, 0⟩, ⟨[17,18,19,20,21], [], 0, 0⟩, ⟨[17,18,19,20], [], 0, 0⟩, ⟨[17,18,19,20], [], 0, 0⟩, ⟨[], [], 0, 0⟩, ⟨[], [], 0, 0⟩] ⟨by kernel_rfl, by kernel_rfl, rfl⟩ ?_
   refine vge (n := ((i3 : Nat) : Int)) (hi := (a0.length : Int)) (by omega) (by omega) ?_
   have hF := ltE hF
   refine vix hF (fun _ _ hF => ?_)
   refine bdE hF (fun y13 hy13 hF => ?_)
   refine callG [] (l_eqCmd_c hy13) ⟨mv rfl, mv rfl, tv⟩ tv rfl ?_
   refine Dz.ite rfl hF (fun _ hF => ?_) (fun _ hF => ?_)
   ·refine Dz.seq (Dz.reg (Dz.ret ?_))
    cases hF
    exact finG [] [] rfl rfl (mv rfl) tv rfl
   ·refine Dz.skip (Dz.reg ?_)
    refine vsucc (by omega) ?_
    exact ⟨(), entG [] ⟨mv rfl, mv rfl, mv rfl, tv⟩ tv rfl, hF⟩
def l_eqBlkPiece (a0 : BlkPiece) (a1 : BlkPiece) : Option (Bool) :=
 cond (!decide (a0.Disk = a1.Disk)) (some false) (cond (!decide (a0.Block = a1.Block)) (some false) (cond (!decide (a0.Epoch = a1.Epoch)) (some false) (cond (!decide (a0.Data = a1.Data)) (some false) (some true))))
theorem l_eqBlkPiece_c {a0 : BlkPiece} {a1 : BlkPiece} {r : Bool} (hF : l_eqBlkPiece a0 a1 = some r) : Con Tryz.prog 241 [.val true (BlkPiece.L a0), .val true (BlkPiece.L a1)] [] (vbool r) [] := by
 refine Con.of_Dz tabOk Tryz.func241 rfl rfl rfl ?_
 delta l_eqBlkPiece at hF
 refine Dz.seq (Dz.reg (Dz.seq (Dz.seq (Dz.reg ?_))))
 refine Dz.ite rfl hF (fun _ hF => ?_) (fun _ hF => ?_)
 ·refine Dz.seq (Dz.reg (Dz.ret ?_))
  cases hF
  exact finG [] [] rfl rfl (mv rfl) tv rfl
 ·refine Dz.skip (Dz.seq (Dz.seq (Dz.reg ?_)))
  refine Dz.ite rfl hF (fun _ hF => ?_) (fun _ hF => ?_)
  ·refine Dz.seq (Dz.reg (Dz.ret ?_))
   cases hF
   exact finG [] [] rfl rfl (mv rfl) tv rfl
  ·refine Dz.skip (Dz.seq (Dz.seq (Dz.reg ?_)))
   refine Dz.ite rfl hF (fun _ hF => ?_) (fun _ hF => ?_)
   ·refine Dz.seq (Dz.reg (Dz.ret ?_))
    cases hF
    exact finG [] [] rfl rfl (mv rfl) tv rfl
   ·refine Dz.skip (Dz.seq (Dz.seq (Dz.reg ?_)))
    refine Dz.ite rfl hF (fun _ hF => ?_) (fun _ hF => ?_)
    ·refine Dz.seq (Dz.reg (Dz.ret ?_))
     cases hF
     exact finG [] [] rfl rfl (mv rfl) tv rfl
    ·refine Dz.skip (Dz.seq (Dz.reg (Dz.ret ?_)))
     cases hF
     exact finG [] [] rfl rfl (mv rfl) tv rfl
def l_eqBlkPieceS (a0 : (List BlkPiece)) (a1 : (List BlkPiece)) : Option (Bool) :=
 cond (!decide (((a0.length : Nat) : Int) = ((a1.length : Nat) : Int))) (some false) (loopN (fun i3 (v8 : Unit) κ9 => lt (a0.getD i3 default) (fun x11 => ix a1 ((i3 : Nat) : Int) (fun x12 => (l_eqBlkPiece x11 x12).bind (fun y13 => cond (!y13) (some false) (κ9 ()))))) (fun (v8 : Unit) => some true) a0.length 0 ())
theorem l_eqBlkPieceS_c {t0_0 t1_0 : Bool} {a0 : (List BlkPiece)} {a1 : (List BlkPiece)} {r : Bool} (hF : l_eqBlkPieceS a0 a1 = some r) : Con Tryz.prog 193 [.val false [.u (ul BlkPiece.c 4 t0_0 a0)], .val false [.u (ul BlkPiece.c 4 t1_0 a1)]] [] (vbool r) [] := by
 refine Con.of_Dz tabOk Tryz.func193 rfl rfl rfl ?_
 delta l_eqBlkPieceS at hF
 refine Dz.seq (Dz.reg (Dz.seq (Dz.seq (Dz.reg ?_))))
 intro hb1; replace hb1 : a0.length ≤ 140737488355328 := hb1
 intro hb2; replace hb2 : a1.length ≤ 140737488355328 := hb2
 refine Dz.ite rfl hF (fun _ hF => ?_) (fun _ hF => ?_)
 ·refine Dz.seq (Dz.reg (Dz.ret ?_))
  cases hF
  exact finG [] [] rfl rfl (mv rfl) tv rfl
 ·refine Dz.skip (Dz.seq (Dz.seq (Dz.reg (Dz.blk ?_))))
  refine Dz.cnt hF (fun i3 v8 => ([(0, .val false [.u (ul BlkPiece.c 4 t0_0 a0)]), (1, .val false [.u (ul BlkPiece.c 4 t1_0 a1)]), (5, vint .i64 ((i3 : Nat) : Int))], [])) (entG [] ⟨mv rfl, mv rfl, mv rfl, tv⟩ tv rfl) (fun v8 hF => ?_) (fun i3 v8 κ9 hi0i3 hi1i3 hF => ?_)
  ·refine Dz.seq (Dz.seq (Dz.reg ?_))
   intro hb14; replace hb14 : a0.length ≤ 140737488355328 := hb14
   refine Dz.ff (b := decide (((0 + a0.length : Nat) : Int) < ((a0.length : Nat) : Int))) rfl (decide_eq_false (by omega)) ?_
   refine Dz.exit (Dz.seq (Dz.reg (Dz.ret ?_)))
   cases hF
   exact finG [] [] rfl rfl (mv rfl) tv rfl
  ·refine Dz.seq (Dz.seq (Dz.reg ?_))
   intro hb10; replace hb10 : a0.length ≤ 140737488355328 := hb10
   refine Dz.tt (b := decide (((i3 : Nat) : Int) < ((a0.length : Nat) : Int))) rfl (decide_eq_true (by omega)) ?_
   refine Dz.skip (Dz.seq (Dz.blk (Dz.seq ?_)))
   refine Dz.drw 0 [⟨[18,21,22,23,24], [], 0, 0⟩, ⟨[17,21,22,23,24], [], 0, 0⟩, ⟨[21,22,23,24], [], 0, 0⟩, ⟨[21,22,23,24], [], 0, 0⟩, ⟨[17,18,19,20,22], [], 0, 0⟩, ⟨[17,18,19,20,21], [], 0, 0⟩, ⟨[17,18,19,20], [], 0, 0⟩, ⟨[17,18,19,20], [], 0, 0⟩, ⟨[], [], 0, 0⟩, ⟨[], [], 0, 0⟩] ⟨by kernel_rfl, by kernel_rfl, rfl⟩ ?_
   refine vge (n := ((i3 : Nat) : Int)) (hi := (a0.length : Int)) (by omega) (by omega) ?_
   have hF := ltE hF
   refine vix hF (fun _ _ hF => ?_)
   refine bdE hF (fun y13 hy13 hF => ?_)
   refine callG [] (l_eqBlkPiece_c hy13) ⟨mv rfl, mv rfl, tv⟩ tv rfl ?_
   refine Dz.ite rfl hF (fun _ hF => ?_) (fun _ hF => ?_)
   ·refine Dz.seq (Dz.reg (Dz.ret ?_))
    cases hF
    exact finG [] [] rfl rfl (mv rfl) tv rfl
   ·refine Dz.skip (Dz.reg ?_)
    refine vsucc (by omega) ?_
    exact ⟨(), entG [] ⟨mv rfl, mv rfl, mv rfl, tv⟩ tv rfl, hF⟩
def l_eqBlkLast (a0 : BlkLast) (a1 : BlkLast) : Option (Bool) :=
 cond (!decide (a0.Client = a1.Client)) (some false) (cond (!decide (a0.Call = a1.Call)) (some false) (some true))
theorem l_eqBlkLast_c {a0 : BlkLast} {a1 : BlkLast} {r : Bool} (hF : l_eqBlkLast a0 a1 = some r) : Con Tryz.prog 242 [.val true (BlkLast.L a0), .val true (BlkLast.L a1)] [] (vbool r) [] := by
 refine Con.of_Dz tabOk Tryz.func242 rfl rfl rfl ?_
 delta l_eqBlkLast at hF
 refine Dz.seq (Dz.reg (Dz.seq (Dz.seq (Dz.reg ?_))))
 refine Dz.ite rfl hF (fun _ hF => ?_) (fun _ hF => ?_)
 ·refine Dz.seq (Dz.reg (Dz.ret ?_))
  cases hF
  exact finG [] [] rfl rfl (mv rfl) tv rfl
 ·refine Dz.skip (Dz.seq (Dz.seq (Dz.reg ?_)))
  refine Dz.ite rfl hF (fun _ hF => ?_) (fun _ hF => ?_)
  ·refine Dz.seq (Dz.reg (Dz.ret ?_))
   cases hF
   exact finG [] [] rfl rfl (mv rfl) tv rfl
  ·refine Dz.skip (Dz.seq (Dz.reg (Dz.ret ?_)))
   cases hF
   exact finG [] [] rfl rfl (mv rfl) tv rfl
def l_eqBlkLastS (a0 : (List BlkLast)) (a1 : (List BlkLast)) : Option (Bool) :=
 cond (!decide (((a0.length : Nat) : Int) = ((a1.length : Nat) : Int))) (some false) (loopN (fun i3 (v8 : Unit) κ9 => lt (a0.getD i3 default) (fun x11 => ix a1 ((i3 : Nat) : Int) (fun x12 => (l_eqBlkLast x11 x12).bind (fun y13 => cond (!y13) (some false) (κ9 ()))))) (fun (v8 : Unit) => some true) a0.length 0 ())
theorem l_eqBlkLastS_c {t0_0 t1_0 : Bool} {a0 : (List BlkLast)} {a1 : (List BlkLast)} {r : Bool} (hF : l_eqBlkLastS a0 a1 = some r) : Con Tryz.prog 194 [.val false [.u (ul BlkLast.c 2 t0_0 a0)], .val false [.u (ul BlkLast.c 2 t1_0 a1)]] [] (vbool r) [] := by
 refine Con.of_Dz tabOk Tryz.func194 rfl rfl rfl ?_
 delta l_eqBlkLastS at hF
 refine Dz.seq (Dz.reg (Dz.seq (Dz.seq (Dz.reg ?_))))
 intro hb1; replace hb1 : a0.length ≤ 140737488355328 := hb1
 intro hb2; replace hb2 : a1.length ≤ 140737488355328 := hb2
 refine Dz.ite rfl hF (fun _ hF => ?_) (fun _ hF => ?_)
 ·refine Dz.seq (Dz.reg (Dz.ret ?_))
  cases hF
  exact finG [] [] rfl rfl (mv rfl) tv rfl
 ·refine Dz.skip (Dz.seq (Dz.seq (Dz.reg (Dz.blk ?_))))
  refine Dz.cnt hF (fun i3 v8 => ([(0, .val false [.u (ul BlkLast.c 2 t0_0 a0)]), (1, .val false [.u (ul BlkLast.c 2 t1_0 a1)]), (5, vint .i64 ((i3 : Nat) : Int))], [])) (entG [] ⟨mv rfl, mv rfl, mv rfl, tv⟩ tv rfl) (fun v8 hF => ?_) (fun i3 v8 κ9 hi0i3 hi1i3 hF => ?_)
  ·refine Dz.seq (Dz.seq (Dz.reg ?_))
   intro hb14; replace hb14 : a0.length ≤ 140737488355328 := hb14
   refine Dz.ff (b := decide (((0 + a0.length : Nat) : Int) < ((a0.length : Nat) : Int))) rfl (decide_eq_false (by omega)) ?_
   refine Dz.exit (Dz.seq (Dz.reg (Dz.ret ?_)))
   cases hF
   exact finG [] [] rfl rfl (mv rfl) tv rfl
  ·refine Dz.seq (Dz.seq (Dz.reg ?_))
   intro hb10; replace hb10 : a0.length ≤ 140737488355328 := hb10
   refine Dz.tt (b := decide (((i3 : Nat) : Int) < ((a0.length : Nat) : Int))) rfl (decide_eq_true (by omega)) ?_
   refine Dz.skip (Dz.seq (Dz.blk (Dz.seq ?_)))
   refine Dz.drw 0 [⟨[18,21,22,23,24], [], 0, 0⟩, ⟨[17,21,22,23,24], [], 0, 0⟩, ⟨[21,22,23,24], [], 0, 0⟩, ⟨[21,22,23,24], [], 0, 0⟩, ⟨[17,18,19,20,22], [], 0, 0⟩, ⟨[17,18,19,20,21], [], 0, 0⟩, ⟨[17,18,19,20], [], 0, 0⟩, ⟨[17,18,19,20], [], 0, 0⟩, ⟨[], [], 0, 0⟩, ⟨[], [], 0, 0⟩] ⟨by kernel_rfl, by kernel_rfl, rfl⟩ ?_
   refine vge (n := ((i3 : Nat) : Int)) (hi := (a0.length : Int)) (by omega) (by omega) ?_
   have hF := ltE hF
   refine vix hF (fun _ _ hF => ?_)
   refine bdE hF (fun y13 hy13 hF => ?_)
   refine callG [] (l_eqBlkLast_c hy13) ⟨mv rfl, mv rfl, tv⟩ tv rfl ?_
   refine Dz.ite rfl hF (fun _ hF => ?_) (fun _ hF => ?_)
   ·refine Dz.seq (Dz.reg (Dz.ret ?_))
    cases hF
    exact finG [] [] rfl rfl (mv rfl) tv rfl
   ·refine Dz.skip (Dz.reg ?_)
    refine vsucc (by omega) ?_
    exact ⟨(), entG [] ⟨mv rfl, mv rfl, mv rfl, tv⟩ tv rfl, hF⟩
def l_eqSrvBusy (a0 : SrvBusy) (a1 : SrvBusy) : Option (Bool) :=
 cond (!decide (a0.Client = a1.Client)) (some false) (cond (!decide (a0.Call = a1.Call)) (some false) (cond (!decide (a0.Disk = a1.Disk)) (some false) (cond (!decide (a0.Block = a1.Block)) (some false) (cond (!decide (a0.Epoch = a1.Epoch)) (some false) (cond (!decide (a0.Data = a1.Data)) (some false) (some true))))))
theorem l_eqSrvBusy_c {a0 : SrvBusy} {a1 : SrvBusy} {r : Bool} (hF : l_eqSrvBusy a0 a1 = some r) : Con Tryz.prog 269 [.val true (SrvBusy.L a0), .val true (SrvBusy.L a1)] [] (vbool r) [] := by
 refine Con.of_Dz tabOk Tryz.func269 rfl rfl rfl ?_
 delta l_eqSrvBusy at hF
 refine Dz.seq (Dz.reg (Dz.seq (Dz.seq (Dz.reg ?_))))
 refine Dz.ite rfl hF (fun _ hF => ?_) (fun _ hF => ?_)
 ·refine Dz.seq (Dz.reg (Dz.ret ?_))
  cases hF
  exact finG [] [] rfl rfl (mv rfl) tv rfl
 ·refine Dz.skip (Dz.seq (Dz.seq (Dz.reg ?_)))
  refine Dz.ite rfl hF (fun _ hF => ?_) (fun _ hF => ?_)
  ·refine Dz.seq (Dz.reg (Dz.ret ?_))
   cases hF
   exact finG [] [] rfl rfl (mv rfl) tv rfl
  ·refine Dz.skip (Dz.seq (Dz.seq (Dz.reg ?_)))
   refine Dz.ite rfl hF (fun _ hF => ?_) (fun _ hF => ?_)
   ·refine Dz.seq (Dz.reg (Dz.ret ?_))
    cases hF
    exact finG [] [] rfl rfl (mv rfl) tv rfl
   ·refine Dz.skip (Dz.seq (Dz.seq (Dz.reg ?_)))
    refine Dz.ite rfl hF (fun _ hF => ?_) (fun _ hF => ?_)
    ·refine Dz.seq (Dz.reg (Dz.ret ?_))
     cases hF
     exact finG [] [] rfl rfl (mv rfl) tv rfl
    ·refine Dz.skip (Dz.seq (Dz.seq (Dz.reg ?_)))
     refine Dz.ite rfl hF (fun _ hF => ?_) (fun _ hF => ?_)
     ·refine Dz.seq (Dz.reg (Dz.ret ?_))
      cases hF
      exact finG [] [] rfl rfl (mv rfl) tv rfl
     ·refine Dz.skip (Dz.seq (Dz.seq (Dz.reg ?_)))
      refine Dz.ite rfl hF (fun _ hF => ?_) (fun _ hF => ?_)
      ·refine Dz.seq (Dz.reg (Dz.ret ?_))
       cases hF
       exact finG [] [] rfl rfl (mv rfl) tv rfl
      ·refine Dz.skip (Dz.seq (Dz.reg (Dz.ret ?_)))
       cases hF
       exact finG [] [] rfl rfl (mv rfl) tv rfl
def l_eqSrvBusyS (a0 : (List SrvBusy)) (a1 : (List SrvBusy)) : Option (Bool) :=
 cond (!decide (((a0.length : Nat) : Int) = ((a1.length : Nat) : Int))) (some false) (loopN (fun i3 (v8 : Unit) κ9 => lt (a0.getD i3 default) (fun x11 => ix a1 ((i3 : Nat) : Int) (fun x12 => (l_eqSrvBusy x11 x12).bind (fun y13 => cond (!y13) (some false) (κ9 ()))))) (fun (v8 : Unit) => some true) a0.length 0 ())
theorem l_eqSrvBusyS_c {t0_0 t1_0 : Bool} {a0 : (List SrvBusy)} {a1 : (List SrvBusy)} {r : Bool} (hF : l_eqSrvBusyS a0 a1 = some r) : Con Tryz.prog 252 [.val false [.u (ul SrvBusy.c 6 t0_0 a0)], .val false [.u (ul SrvBusy.c 6 t1_0 a1)]] [] (vbool r) [] := by
 refine Con.of_Dz tabOk Tryz.func252 rfl rfl rfl ?_
 delta l_eqSrvBusyS at hF
 refine Dz.seq (Dz.reg (Dz.seq (Dz.seq (Dz.reg ?_))))
 intro hb1; replace hb1 : a0.length ≤ 140737488355328 := hb1
 intro hb2; replace hb2 : a1.length ≤ 140737488355328 := hb2
 refine Dz.ite rfl hF (fun _ hF => ?_) (fun _ hF => ?_)
 ·refine Dz.seq (Dz.reg (Dz.ret ?_))
  cases hF
  exact finG [] [] rfl rfl (mv rfl) tv rfl
 ·refine Dz.skip (Dz.seq (Dz.seq (Dz.reg (Dz.blk ?_))))
  refine Dz.cnt hF (fun i3 v8 => ([(0, .val false [.u (ul SrvBusy.c 6 t0_0 a0)]), (1, .val false [.u (ul SrvBusy.c 6 t1_0 a1)]), (5, vint .i64 ((i3 : Nat) : Int))], [])) (entG [] ⟨mv rfl, mv rfl, mv rfl, tv⟩ tv rfl) (fun v8 hF => ?_) (fun i3 v8 κ9 hi0i3 hi1i3 hF => ?_)
  ·refine Dz.seq (Dz.seq (Dz.reg ?_))
   intro hb14; replace hb14 : a0.length ≤ 140737488355328 := hb14
   refine Dz.ff (b := decide (((0 + a0.length : Nat) : Int) < ((a0.length : Nat) : Int))) rfl (decide_eq_false (by omega)) ?_
   refine Dz.exit (Dz.seq (Dz.reg (Dz.ret ?_)))
   cases hF
   exact finG [] [] rfl rfl (mv rfl) tv rfl
  ·refine Dz.seq (Dz.seq (Dz.reg ?_))
   intro hb10; replace hb10 : a0.length ≤ 140737488355328 := hb10
   refine Dz.tt (b := decide (((i3 : Nat) : Int) < ((a0.length : Nat) : Int))) rfl (decide_eq_true (by omega)) ?_
   refine Dz.skip (Dz.seq (Dz.blk (Dz.seq ?_)))
   refine Dz.drw 0 [⟨[18,21,22,23,24], [], 0, 0⟩, ⟨[17,21,22,23,24], [], 0, 0⟩, ⟨[21,22,23,24], [], 0, 0⟩, ⟨[21,22,23,24], [], 0, 0⟩, ⟨[17,18,19,20,22], [], 0, 0⟩, ⟨[17,18,19,20,21], [], 0, 0⟩, ⟨[17,18,19,20], [], 0, 0⟩, ⟨[17,18,19,20], [], 0, 0⟩, ⟨[], [], 0, 0⟩, ⟨[], [], 0, 0⟩] ⟨by kernel_rfl, by kernel_rfl, rfl⟩ ?_
   refine vge (n := ((i3 : Nat) : Int)) (hi := (a0.length : Int)) (by omega) (by omega) ?_
   have hF := ltE hF
   refine vix hF (fun _ _ hF => ?_)
   refine bdE hF (fun y13 hy13 hF => ?_)
   refine callG [] (l_eqSrvBusy_c hy13) ⟨mv rfl, mv rfl, tv⟩ tv rfl ?_
   refine Dz.ite rfl hF (fun _ hF => ?_) (fun _ hF => ?_)
   ·refine Dz.seq (Dz.reg (Dz.ret ?_))
    cases hF
    exact finG [] [] rfl rfl (mv rfl) tv rfl
   ·refine Dz.skip (Dz.reg ?_)
    refine vsucc (by omega) ?_
    exact ⟨(), entG [] ⟨mv rfl, mv rfl, mv rfl, tv⟩ tv rfl, hF⟩
def l_eqSrvCopy (a0 : SrvCopy) (a1 : SrvCopy) : Option (Bool) :=
 cond (!decide (a0.Range = a1.Range)) (some false) (cond (!decide (a0.Valid = a1.Valid)) (some false) (cond (!decide (a0.Asked = a1.Asked)) (some false) ((l_eqBlkPieceS a0.Pieces a1.Pieces).bind (fun y1 => cond (!y1) (some false) ((l_eqBlkLastS a0.Last a1.Last).bind (fun y2 => cond (!y2) (some false) ((l_eqSrvBusyS a0.Busy a1.Busy).bind (fun y3 => cond (!y3) (some false) (some true)))))))))
theorem l_eqSrvCopy_c {t0_3 t0_4 t0_5 t1_3 t1_4 t1_5 : Bool} {a0 : SrvCopy} {a1 : SrvCopy} {r : Bool} (hF : l_eqSrvCopy a0 a1 = some r) : Con Tryz.prog 237 [.val true [.u (cI a0.Range), .u (cI a0.Valid), .u (cI a0.Asked), .u (ul BlkPiece.c 4 t0_3 a0.Pieces), .u (ul BlkLast.c 2 t0_4 a0.Last), .u (ul SrvBusy.c 6 t0_5 a0.Busy)], .val true [.u (cI a1.Range), .u (cI a1.Valid), .u (cI a1.Asked), .u (ul BlkPiece.c 4 t1_3 a1.Pieces), .u (ul BlkLast.c 2 t1_4 a1.Last), .u (ul SrvBusy.c 6 t1_5 a1.Busy)]] [] (vbool r) [] := by
 refine Con.of_Dz tabOk Tryz.func237 rfl rfl rfl ?_
 delta l_eqSrvCopy at hF
 refine Dz.seq (Dz.reg (Dz.seq (Dz.seq (Dz.reg ?_))))
 refine Dz.ite rfl hF (fun _ hF => ?_) (fun _ hF => ?_)
 ·refine Dz.seq (Dz.reg (Dz.ret ?_))
  cases hF
  exact finG [] [] rfl rfl (mv rfl) tv rfl
 ·refine Dz.skip (Dz.seq (Dz.seq (Dz.reg ?_)))
  refine Dz.ite rfl hF (fun _ hF => ?_) (fun _ hF => ?_)
  ·refine Dz.seq (Dz.reg (Dz.ret ?_))
   cases hF
   exact finG [] [] rfl rfl (mv rfl) tv rfl
  ·refine Dz.skip (Dz.seq (Dz.seq (Dz.reg ?_)))
   refine Dz.ite rfl hF (fun _ hF => ?_) (fun _ hF => ?_)
   ·refine Dz.seq (Dz.reg (Dz.ret ?_))
    cases hF
    exact finG [] [] rfl rfl (mv rfl) tv rfl
   ·refine Dz.skip (Dz.seq (Dz.seq (Dz.reg ?_)))
    refine bdE hF (fun y1 hy1 hF => ?_)
    refine callG [] (l_eqBlkPieceS_c hy1) ⟨mv rfl, mv rfl, tv⟩ tv rfl ?_
    refine Dz.ite rfl hF (fun _ hF => ?_) (fun _ hF => ?_)
    ·refine Dz.seq (Dz.reg (Dz.ret ?_))
     cases hF
     exact finG [] [] rfl rfl (mv rfl) tv rfl
    ·refine Dz.skip (Dz.seq (Dz.seq (Dz.reg ?_)))
     refine bdE hF (fun y2 hy2 hF => ?_)
     refine callG [] (l_eqBlkLastS_c hy2) ⟨mv rfl, mv rfl, tv⟩ tv rfl ?_
     refine Dz.ite rfl hF (fun _ hF => ?_) (fun _ hF => ?_)
     ·refine Dz.seq (Dz.reg (Dz.ret ?_))
      cases hF
      exact finG [] [] rfl rfl (mv rfl) tv rfl
     ·refine Dz.skip (Dz.seq (Dz.seq (Dz.reg ?_)))
      refine bdE hF (fun y3 hy3 hF => ?_)
      refine callG [] (l_eqSrvBusyS_c hy3) ⟨mv rfl, mv rfl, tv⟩ tv rfl ?_
      refine Dz.ite rfl hF (fun _ hF => ?_) (fun _ hF => ?_)
      ·refine Dz.seq (Dz.reg (Dz.ret ?_))
       cases hF
       exact finG [] [] rfl rfl (mv rfl) tv rfl
      ·refine Dz.skip (Dz.seq (Dz.reg (Dz.ret ?_)))
       cases hF
       exact finG [] [] rfl rfl (mv rfl) tv rfl
def l_eqSrvCopyS (a0 : (List SrvCopy)) (a1 : (List SrvCopy)) : Option (Bool) :=
 cond (!decide (((a0.length : Nat) : Int) = ((a1.length : Nat) : Int))) (some false) (loopN (fun i3 (v8 : Unit) κ9 => lt (a0.getD i3 default) (fun x11 => ix a1 ((i3 : Nat) : Int) (fun x12 => (l_eqSrvCopy x11 x12).bind (fun y13 => cond (!y13) (some false) (κ9 ()))))) (fun (v8 : Unit) => some true) a0.length 0 ())
theorem l_eqSrvCopyS_c {t0_0 t1_0 : Bool} {a0 : (List SrvCopy)} {a1 : (List SrvCopy)} {r : Bool} (hF : l_eqSrvCopyS a0 a1 = some r) : Con Tryz.prog 189 [.val false [.u (ul SrvCopy.c 6 t0_0 a0)], .val false [.u (ul SrvCopy.c 6 t1_0 a1)]] [] (vbool r) [] := by
 refine Con.of_Dz tabOk Tryz.func189 rfl rfl rfl ?_
 delta l_eqSrvCopyS at hF
 refine Dz.seq (Dz.reg (Dz.seq (Dz.seq (Dz.reg ?_))))
 intro hb1; replace hb1 : a0.length ≤ 140737488355328 := hb1
 intro hb2; replace hb2 : a1.length ≤ 140737488355328 := hb2
 refine Dz.ite rfl hF (fun _ hF => ?_) (fun _ hF => ?_)
 ·refine Dz.seq (Dz.reg (Dz.ret ?_))
  cases hF
  exact finG [] [] rfl rfl (mv rfl) tv rfl
 ·refine Dz.skip (Dz.seq (Dz.seq (Dz.reg (Dz.blk ?_))))
  refine Dz.cnt hF (fun i3 v8 => ([(0, .val false [.u (ul SrvCopy.c 6 t0_0 a0)]), (1, .val false [.u (ul SrvCopy.c 6 t1_0 a1)]), (5, vint .i64 ((i3 : Nat) : Int))], [])) (entG [] ⟨mv rfl, mv rfl, mv rfl, tv⟩ tv rfl) (fun v8 hF => ?_) (fun i3 v8 κ9 hi0i3 hi1i3 hF => ?_)
  ·refine Dz.seq (Dz.seq (Dz.reg ?_))
   intro hb14; replace hb14 : a0.length ≤ 140737488355328 := hb14
   refine Dz.ff (b := decide (((0 + a0.length : Nat) : Int) < ((a0.length : Nat) : Int))) rfl (decide_eq_false (by omega)) ?_
   refine Dz.exit (Dz.seq (Dz.reg (Dz.ret ?_)))
   cases hF
   exact finG [] [] rfl rfl (mv rfl) tv rfl
  ·refine Dz.seq (Dz.seq (Dz.reg ?_))
   intro hb10; replace hb10 : a0.length ≤ 140737488355328 := hb10
   refine Dz.tt (b := decide (((i3 : Nat) : Int) < ((a0.length : Nat) : Int))) rfl (decide_eq_true (by omega)) ?_
   refine Dz.skip (Dz.seq (Dz.blk (Dz.seq ?_)))
   refine Dz.drw 0 [⟨[18,21,22,23,24], [], 0, 0⟩, ⟨[17,21,22,23,24], [], 0, 0⟩, ⟨[21,22,23,24], [], 0, 0⟩, ⟨[21,22,23,24], [], 0, 0⟩, ⟨[17,18,19,20,22], [], 0, 0⟩, ⟨[17,18,19,20,21], [], 0, 0⟩, ⟨[17,18,19,20], [], 0, 0⟩, ⟨[17,18,19,20], [], 0, 0⟩, ⟨[], [], 0, 0⟩, ⟨[], [], 0, 0⟩] ⟨by kernel_rfl, by kernel_rfl, rfl⟩ ?_
   refine vge (n := ((i3 : Nat) : Int)) (hi := (a0.length : Int)) (by omega) (by omega) ?_
   have hF := ltE hF
   refine vix hF (fun _ _ hF => ?_)
   refine bdE hF (fun y13 hy13 hF => ?_)
   refine callG [] (l_eqSrvCopy_c hy13) ⟨mv rfl, mv rfl, tv⟩ tv rfl ?_
   refine Dz.ite rfl hF (fun _ hF => ?_) (fun _ hF => ?_)
   ·refine Dz.seq (Dz.reg (Dz.ret ?_))
    cases hF
    exact finG [] [] rfl rfl (mv rfl) tv rfl
   ·refine Dz.skip (Dz.reg ?_)
    refine vsucc (by omega) ?_
    exact ⟨(), entG [] ⟨mv rfl, mv rfl, mv rfl, tv⟩ tv rfl, hF⟩
def l_eqIntS (a0 : (List Int)) (a1 : (List Int)) : Option (Bool) :=
 cond (!decide (((a0.length : Nat) : Int) = ((a1.length : Nat) : Int))) (some false) (loopN (fun i3 (v6 : Unit) κ7 => ix a1 ((i3 : Nat) : Int) (fun x9 => cond (!decide ((a0.getD i3 default) = x9)) (some false) (κ7 ()))) (fun (v6 : Unit) => some true) a0.length 0 ())
theorem l_eqIntS_c {t0_0 t1_0 : Bool} {a0 : (List Int)} {a1 : (List Int)} {r : Bool} (hF : l_eqIntS a0 a1 = some r) : Con Tryz.prog 239 [.val false [.u (ul cInt 1 t0_0 a0)], .val false [.u (ul cInt 1 t1_0 a1)]] [] (vbool r) [] := by
 refine Con.of_Dz tabOk Tryz.func239 rfl rfl rfl ?_
 delta l_eqIntS at hF
 refine Dz.seq (Dz.reg (Dz.seq (Dz.seq (Dz.reg ?_))))
 intro hb1; replace hb1 : a0.length ≤ 140737488355328 := hb1
 intro hb2; replace hb2 : a1.length ≤ 140737488355328 := hb2
 refine Dz.ite rfl hF (fun _ hF => ?_) (fun _ hF => ?_)
 ·refine Dz.seq (Dz.reg (Dz.ret ?_))
  cases hF
  exact finG [] [] rfl rfl (mv rfl) tv rfl
 ·refine Dz.skip (Dz.seq (Dz.seq (Dz.reg (Dz.blk ?_))))
  refine Dz.cnt hF (fun i3 v6 => ([(0, .val false [.u (ul cInt 1 t0_0 a0)]), (1, .val false [.u (ul cInt 1 t1_0 a1)]), (5, vint .i64 ((i3 : Nat) : Int))], [])) (entG [] ⟨mv rfl, mv rfl, mv rfl, tv⟩ tv rfl) (fun v6 hF => ?_) (fun i3 v6 κ7 hi0i3 hi1i3 hF => ?_)
  ·refine Dz.seq (Dz.seq (Dz.reg ?_))
   intro hb10; replace hb10 : a0.length ≤ 140737488355328 := hb10
   refine Dz.ff (b := decide (((0 + a0.length : Nat) : Int) < ((a0.length : Nat) : Int))) rfl (decide_eq_false (by omega)) ?_
   refine Dz.exit (Dz.seq (Dz.reg (Dz.ret ?_)))
   cases hF
   exact finG [] [] rfl rfl (mv rfl) tv rfl
  ·refine Dz.seq (Dz.seq (Dz.reg ?_))
   intro hb8; replace hb8 : a0.length ≤ 140737488355328 := hb8
   refine Dz.tt (b := decide (((i3 : Nat) : Int) < ((a0.length : Nat) : Int))) rfl (decide_eq_true (by omega)) ?_
   refine Dz.skip (Dz.seq (Dz.blk (Dz.seq ?_)))
   refine Dz.drw 0 [⟨[18,21,22,23,24], [], 0, 0⟩, ⟨[17,21,22,23,24], [], 0, 0⟩, ⟨[21,22,23,24], [], 0, 0⟩, ⟨[21,22,23,24], [], 0, 0⟩, ⟨[17,18,19,20,22], [], 0, 0⟩, ⟨[17,18,19,20,21], [], 0, 0⟩, ⟨[17,18,19,20], [], 0, 0⟩, ⟨[17,18,19,20], [], 0, 0⟩, ⟨[], [], 0, 0⟩] ⟨by kernel_rfl, by kernel_rfl, rfl⟩ ?_
   refine vge (n := ((i3 : Nat) : Int)) (hi := (a0.length : Int)) (by omega) (by omega) ?_
   refine vix hF (fun _ _ hF => ?_)
   refine Dz.ite rfl hF (fun _ hF => ?_) (fun _ hF => ?_)
   ·refine Dz.seq (Dz.reg (Dz.ret ?_))
    cases hF
    exact finG [] [] rfl rfl (mv rfl) tv rfl
   ·refine Dz.skip (Dz.reg ?_)
    refine vsucc (by omega) ?_
    exact ⟨(), entG [] ⟨mv rfl, mv rfl, mv rfl, tv⟩ tv rfl, hF⟩
def l_eqSynSeeker (a0 : SynSeeker) (a1 : SynSeeker) : Option (Bool) :=
 cond (!decide (a0.Slot = a1.Slot)) (some false) (cond (!decide (a0.Ballot = a1.Ballot)) (some false) (cond (!decide (a0.Phase = a1.Phase)) (some false) ((l_eqCmd a0.Mine a1.Mine).bind (fun y1 => cond (!y1) (some false) ((l_eqSynPaper a0.Best a1.Best).bind (fun y2 => cond (!y2) (some false) ((l_eqIntS a0.Yes a1.Yes).bind (fun y3 => cond (!y3) (some false) (some true)))))))))
theorem l_eqSynSeeker_c {t0_25 t1_25 : Bool} {a0 : SynSeeker} {a1 : SynSeeker} {r : Bool} (hF : l_eqSynSeeker a0 a1 = some r) : Con Tryz.prog 190 [.val true [.u (cI a0.Slot), .u (cI a0.Ballot), .u (cI a0.Phase), .u (cI a0.Mine.Kind), .u (cI a0.Mine.Client), .u (cI a0.Mine.Call), .u (cI a0.Mine.Disk), .u (cI a0.Mine.Arg), .u (cI a0.Mine.Epoch), .u (cI a0.Mine.Range), .u (cI a0.Mine.Num), .u (cI a0.Mine.A), .u (cI a0.Mine.B), .u (cI a0.Best.Slot), .u (cI a0.Best.Ballot), .u (cI a0.Best.Cmd.Kind), .u (cI a0.Best.Cmd.Client), .u (cI a0.Best.Cmd.Call), .u (cI a0.Best.Cmd.Disk), .u (cI a0.Best.Cmd.Arg), .u (cI a0.Best.Cmd.Epoch), .u (cI a0.Best.Cmd.Range), .u (cI a0.Best.Cmd.Num), .u (cI a0.Best.Cmd.A), .u (cI a0.Best.Cmd.B), .u (ul cInt 1 t0_25 a0.Yes)], .val true [.u (cI a1.Slot), .u (cI a1.Ballot), .u (cI a1.Phase), .u (cI a1.Mine.Kind), .u (cI a1.Mine.Client), .u (cI a1.Mine.Call), .u (cI a1.Mine.Disk), .u (cI a1.Mine.Arg), .u (cI a1.Mine.Epoch), .u (cI a1.Mine.Range), .u (cI a1.Mine.Num), .u (cI a1.Mine.A), .u (cI a1.Mine.B), .u (cI a1.Best.Slot), .u (cI a1.Best.Ballot), .u (cI a1.Best.Cmd.Kind), .u (cI a1.Best.Cmd.Client), .u (cI a1.Best.Cmd.Call), .u (cI a1.Best.Cmd.Disk), .u (cI a1.Best.Cmd.Arg), .u (cI a1.Best.Cmd.Epoch), .u (cI a1.Best.Cmd.Range), .u (cI a1.Best.Cmd.Num), .u (cI a1.Best.Cmd.A), .u (cI a1.Best.Cmd.B), .u (ul cInt 1 t1_25 a1.Yes)]] [] (vbool r) [] := by
 refine Con.of_Dz tabOk Tryz.func190 rfl rfl rfl ?_
 delta l_eqSynSeeker at hF
 refine Dz.seq (Dz.reg (Dz.seq (Dz.seq (Dz.reg ?_))))
 refine Dz.ite rfl hF (fun _ hF => ?_) (fun _ hF => ?_)
 ·refine Dz.seq (Dz.reg (Dz.ret ?_))
  cases hF
  exact finG [] [] rfl rfl (mv rfl) tv rfl
 ·refine Dz.skip (Dz.seq (Dz.seq (Dz.reg ?_)))
  refine Dz.ite rfl hF (fun _ hF => ?_) (fun _ hF => ?_)
  ·refine Dz.seq (Dz.reg (Dz.ret ?_))
   cases hF
   exact finG [] [] rfl rfl (mv rfl) tv rfl
  ·refine Dz.skip (Dz.seq (Dz.seq (Dz.reg ?_)))
   refine Dz.ite rfl hF (fun _ hF => ?_) (fun _ hF => ?_)
   ·refine Dz.seq (Dz.reg (Dz.ret ?_))
    cases hF
    exact finG [] [] rfl rfl (mv rfl) tv rfl
   ·refine Dz.skip (Dz.seq (Dz.seq (Dz.reg ?_)))
    refine bdE hF (fun y1 hy1 hF => ?_)
    refine callG [] (l_eqCmd_c hy1) ⟨mv rfl, mv rfl, tv⟩ tv rfl ?_
    refine Dz.ite rfl hF (fun _ hF => ?_) (fun _ hF => ?_)
    ·refine Dz.seq (Dz.reg (Dz.ret ?_))
     cases hF
     exact finG [] [] rfl rfl (mv rfl) tv rfl
    ·refine Dz.skip (Dz.seq (Dz.seq (Dz.reg ?_)))
     refine bdE hF (fun y2 hy2 hF => ?_)
     refine callG [] (l_eqSynPaper_c hy2) ⟨mv rfl, mv rfl, tv⟩ tv rfl ?_
     refine Dz.ite rfl hF (fun _ hF => ?_) (fun _ hF => ?_)
     ·refine Dz.seq (Dz.reg (Dz.ret ?_))
      cases hF
      exact finG [] [] rfl rfl (mv rfl) tv rfl
     ·refine Dz.skip (Dz.seq (Dz.seq (Dz.reg ?_)))
      refine bdE hF (fun y3 hy3 hF => ?_)
      refine callG [] (l_eqIntS_c hy3) ⟨mv rfl, mv rfl, tv⟩ tv rfl ?_
      refine Dz.ite rfl hF (fun _ hF => ?_) (fun _ hF => ?_)
      ·refine Dz.seq (Dz.reg (Dz.ret ?_))
       cases hF
       exact finG [] [] rfl rfl (mv rfl) tv rfl
      ·refine Dz.skip (Dz.seq (Dz.reg (Dz.ret ?_)))
       cases hF
       exact finG [] [] rfl rfl (mv rfl) tv rfl
def l_eqSrvDoing (a0 : SrvDoing) (a1 : SrvDoing) : Option (Bool) :=
 cond (!decide (a0.Range = a1.Range)) (some false) (cond (!decide (a0.View = a1.View)) (some false) (cond (!(a0.Write == a1.Write)) (some false) (cond (!decide (a0.Client = a1.Client)) (some false) (cond (!decide (a0.Call = a1.Call)) (some false) (cond (!decide (a0.Disk = a1.Disk)) (some false) (cond (!decide (a0.Block = a1.Block)) (some false) (cond (!decide (a0.Epoch = a1.Epoch)) (some false) (some true))))))))
theorem l_eqSrvDoing_c {a0 : SrvDoing} {a1 : SrvDoing} {r : Bool} (hF : l_eqSrvDoing a0 a1 = some r) : Con Tryz.prog 240 [.val true (SrvDoing.L a0), .val true (SrvDoing.L a1)] [] (vbool r) [] := by
 refine Con.of_Dz tabOk Tryz.func240 rfl rfl rfl ?_
 delta l_eqSrvDoing at hF
 refine Dz.seq (Dz.reg (Dz.seq (Dz.seq (Dz.reg ?_))))
 refine Dz.ite rfl hF (fun _ hF => ?_) (fun _ hF => ?_)
 ·refine Dz.seq (Dz.reg (Dz.ret ?_))
  cases hF
  exact finG [] [] rfl rfl (mv rfl) tv rfl
 ·refine Dz.skip (Dz.seq (Dz.seq (Dz.reg ?_)))
  refine Dz.ite rfl hF (fun _ hF => ?_) (fun _ hF => ?_)
  ·refine Dz.seq (Dz.reg (Dz.ret ?_))
   cases hF
   exact finG [] [] rfl rfl (mv rfl) tv rfl
  ·refine Dz.skip (Dz.seq (Dz.seq (Dz.reg ?_)))
   refine Dz.ite rfl hF (fun _ hF => ?_) (fun _ hF => ?_)
   ·refine Dz.seq (Dz.reg (Dz.ret ?_))
    cases hF
    exact finG [] [] rfl rfl (mv rfl) tv rfl
   ·refine Dz.skip (Dz.seq (Dz.seq (Dz.reg ?_)))
    refine Dz.ite rfl hF (fun _ hF => ?_) (fun _ hF => ?_)
    ·refine Dz.seq (Dz.reg (Dz.ret ?_))
     cases hF
     exact finG [] [] rfl rfl (mv rfl) tv rfl
    ·refine Dz.skip (Dz.seq (Dz.seq (Dz.reg ?_)))
     refine Dz.ite rfl hF (fun _ hF => ?_) (fun _ hF => ?_)
     ·refine Dz.seq (Dz.reg (Dz.ret ?_))
      cases hF
      exact finG [] [] rfl rfl (mv rfl) tv rfl
     ·refine Dz.skip (Dz.seq (Dz.seq (Dz.reg ?_)))
      refine Dz.ite rfl hF (fun _ hF => ?_) (fun _ hF => ?_)
      ·refine Dz.seq (Dz.reg (Dz.ret ?_))
       cases hF
       exact finG [] [] rfl rfl (mv rfl) tv rfl
      ·refine Dz.skip (Dz.seq (Dz.seq (Dz.reg ?_)))
       refine Dz.ite rfl hF (fun _ hF => ?_) (fun _ hF => ?_)
       ·refine Dz.seq (Dz.reg (Dz.ret ?_))
        cases hF
        exact finG [] [] rfl rfl (mv rfl) tv rfl
       ·refine Dz.skip (Dz.seq (Dz.seq (Dz.reg ?_)))
        refine Dz.ite rfl hF (fun _ hF => ?_) (fun _ hF => ?_)
        ·refine Dz.seq (Dz.reg (Dz.ret ?_))
         cases hF
         exact finG [] [] rfl rfl (mv rfl) tv rfl
        ·refine Dz.skip (Dz.seq (Dz.reg (Dz.ret ?_)))
         cases hF
         exact finG [] [] rfl rfl (mv rfl) tv rfl
def l_eqSrvDoingS (a0 : (List SrvDoing)) (a1 : (List SrvDoing)) : Option (Bool) :=
 cond (!decide (((a0.length : Nat) : Int) = ((a1.length : Nat) : Int))) (some false) (loopN (fun i3 (v8 : Unit) κ9 => lt (a0.getD i3 default) (fun x11 => ix a1 ((i3 : Nat) : Int) (fun x12 => (l_eqSrvDoing x11 x12).bind (fun y13 => cond (!y13) (some false) (κ9 ()))))) (fun (v8 : Unit) => some true) a0.length 0 ())
theorem l_eqSrvDoingS_c {t0_0 t1_0 : Bool} {a0 : (List SrvDoing)} {a1 : (List SrvDoing)} {r : Bool} (hF : l_eqSrvDoingS a0 a1 = some r) : Con Tryz.prog 191 [.val false [.u (ul SrvDoing.c 8 t0_0 a0)], .val false [.u (ul SrvDoing.c 8 t1_0 a1)]] [] (vbool r) [] := by
 refine Con.of_Dz tabOk Tryz.func191 rfl rfl rfl ?_
 delta l_eqSrvDoingS at hF
 refine Dz.seq (Dz.reg (Dz.seq (Dz.seq (Dz.reg ?_))))
 intro hb1; replace hb1 : a0.length ≤ 140737488355328 := hb1
 intro hb2; replace hb2 : a1.length ≤ 140737488355328 := hb2
 refine Dz.ite rfl hF (fun _ hF => ?_) (fun _ hF => ?_)
 ·refine Dz.seq (Dz.reg (Dz.ret ?_))
  cases hF
  exact finG [] [] rfl rfl (mv rfl) tv rfl
 ·refine Dz.skip (Dz.seq (Dz.seq (Dz.reg (Dz.blk ?_))))
  refine Dz.cnt hF (fun i3 v8 => ([(0, .val false [.u (ul SrvDoing.c 8 t0_0 a0)]), (1, .val false [.u (ul SrvDoing.c 8 t1_0 a1)]), (5, vint .i64 ((i3 : Nat) : Int))], [])) (entG [] ⟨mv rfl, mv rfl, mv rfl, tv⟩ tv rfl) (fun v8 hF => ?_) (fun i3 v8 κ9 hi0i3 hi1i3 hF => ?_)
  ·refine Dz.seq (Dz.seq (Dz.reg ?_))
   intro hb14; replace hb14 : a0.length ≤ 140737488355328 := hb14
   refine Dz.ff (b := decide (((0 + a0.length : Nat) : Int) < ((a0.length : Nat) : Int))) rfl (decide_eq_false (by omega)) ?_
   refine Dz.exit (Dz.seq (Dz.reg (Dz.ret ?_)))
   cases hF
   exact finG [] [] rfl rfl (mv rfl) tv rfl
  ·refine Dz.seq (Dz.seq (Dz.reg ?_))
   intro hb10; replace hb10 : a0.length ≤ 140737488355328 := hb10
   refine Dz.tt (b := decide (((i3 : Nat) : Int) < ((a0.length : Nat) : Int))) rfl (decide_eq_true (by omega)) ?_
   refine Dz.skip (Dz.seq (Dz.blk (Dz.seq ?_)))
   refine Dz.drw 0 [⟨[18,21,22,23,24], [], 0, 0⟩, ⟨[17,21,22,23,24], [], 0, 0⟩, ⟨[21,22,23,24], [], 0, 0⟩, ⟨[21,22,23,24], [], 0, 0⟩, ⟨[17,18,19,20,22], [], 0, 0⟩, ⟨[17,18,19,20,21], [], 0, 0⟩, ⟨[17,18,19,20], [], 0, 0⟩, ⟨[17,18,19,20], [], 0, 0⟩, ⟨[], [], 0, 0⟩, ⟨[], [], 0, 0⟩] ⟨by kernel_rfl, by kernel_rfl, rfl⟩ ?_
   refine vge (n := ((i3 : Nat) : Int)) (hi := (a0.length : Int)) (by omega) (by omega) ?_
   have hF := ltE hF
   refine vix hF (fun _ _ hF => ?_)
   refine bdE hF (fun y13 hy13 hF => ?_)
   refine callG [] (l_eqSrvDoing_c hy13) ⟨mv rfl, mv rfl, tv⟩ tv rfl ?_
   refine Dz.ite rfl hF (fun _ hF => ?_) (fun _ hF => ?_)
   ·refine Dz.seq (Dz.reg (Dz.ret ?_))
    cases hF
    exact finG [] [] rfl rfl (mv rfl) tv rfl
   ·refine Dz.skip (Dz.reg ?_)
    refine vsucc (by omega) ?_
    exact ⟨(), entG [] ⟨mv rfl, mv rfl, mv rfl, tv⟩ tv rfl, hF⟩
def l_eqServer (a0 : Server) (a1 : Server) : Option (Bool) :=
 cond (!decide (a0.Id = a1.Id)) (some false) (cond (!(a0.Up == a1.Up)) (some false) (cond (!(a0.Gone == a1.Gone)) (some false) (cond (!decide (a0.Round = a1.Round)) (some false) ((l_eqSynVoter a0.Voter a1.Voter).bind (fun y1 => cond (!y1) (some false) ((l_eqCmdS a0.Log a1.Log).bind (fun y2 => cond (!y2) (some false) ((l_eqSrvCopyS a0.Copies a1.Copies).bind (fun y3 => cond (!y3) (some false) ((l_eqSynSeeker a0.Seek a1.Seek).bind (fun y4 => cond (!y4) (some false) ((l_eqCmdS a0.Wants a1.Wants).bind (fun y5 => cond (!y5) (some false) ((l_eqSrvDoingS a0.Doing a1.Doing).bind (fun y6 => cond (!y6) (some false) (some true))))))))))))))))
theorem l_eqServer_c {t0_33 t0_34 t0_35 t0_5 t0_6 t0_7 t1_33 t1_34 t1_35 t1_5 t1_6 t1_7 : Bool} {a0 : Server} {a1 : Server} {r : Bool} (hF : l_eqServer a0 a1 = some r) : Con Tryz.prog 112 [.val true (.u (cI a0.Id) :: .u (.bool a0.Up) :: .u (.bool a0.Gone) :: .u (cI a0.Round) :: .u (cI a0.Voter.Promised) :: .u (ul SynPaper.c 12 t0_5 a0.Voter.Papers) :: .u (ul Cmd.c 10 t0_6 a0.Log) :: .u (ul SrvCopy.c 6 t0_7 a0.Copies) :: .u (cI a0.Seek.Slot) :: .u (cI a0.Seek.Ballot) :: .u (cI a0.Seek.Phase) :: .u (cI a0.Seek.Mine.Kind) :: .u (cI a0.Seek.Mine.Client) :: .u (cI a0.Seek.Mine.Call) :: .u (cI a0.Seek.Mine.Disk) :: .u (cI a0.Seek.Mine.Arg) :: .u (cI a0.Seek.Mine.Epoch) :: .u (cI a0.Seek.Mine.Range) :: .u (cI a0.Seek.Mine.Num) :: .u (cI a0.Seek.Mine.A) :: .u (cI a0.Seek.Mine.B) :: .u (cI a0.Seek.Best.Slot) :: .u (cI a0.Seek.Best.Ballot) :: .u (cI a0.Seek.Best.Cmd.Kind) :: .u (cI a0.Seek.Best.Cmd.Client) :: .u (cI a0.Seek.Best.Cmd.Call) :: .u (cI a0.Seek.Best.Cmd.Disk) :: .u (cI a0.Seek.Best.Cmd.Arg) :: .u (cI a0.Seek.Best.Cmd.Epoch) :: .u (cI a0.Seek.Best.Cmd.Range) :: .u (cI a0.Seek.Best.Cmd.Num) :: .u (cI a0.Seek.Best.Cmd.A) :: .u (cI a0.Seek.Best.Cmd.B) :: .u (ul cInt 1 t0_33 a0.Seek.Yes) :: .u (ul Cmd.c 10 t0_34 a0.Wants) :: .u (ul SrvDoing.c 8 t0_35 a0.Doing) :: []), .val true (.u (cI a1.Id) :: .u (.bool a1.Up) :: .u (.bool a1.Gone) :: .u (cI a1.Round) :: .u (cI a1.Voter.Promised) :: .u (ul SynPaper.c 12 t1_5 a1.Voter.Papers) :: .u (ul Cmd.c 10 t1_6 a1.Log) :: .u (ul SrvCopy.c 6 t1_7 a1.Copies) :: .u (cI a1.Seek.Slot) :: .u (cI a1.Seek.Ballot) :: .u (cI a1.Seek.Phase) :: .u (cI a1.Seek.Mine.Kind) :: .u (cI a1.Seek.Mine.Client) :: .u (cI a1.Seek.Mine.Call) :: .u (cI a1.Seek.Mine.Disk) :: .u (cI a1.Seek.Mine.Arg) :: .u (cI a1.Seek.Mine.Epoch) :: .u (cI a1.Seek.Mine.Range) :: .u (cI a1.Seek.Mine.Num) :: .u (cI a1.Seek.Mine.A) :: .u (cI a1.Seek.Mine.B) :: .u (cI a1.Seek.Best.Slot) :: .u (cI a1.Seek.Best.Ballot) :: .u (cI a1.Seek.Best.Cmd.Kind) :: .u (cI a1.Seek.Best.Cmd.Client) :: .u (cI a1.Seek.Best.Cmd.Call) :: .u (cI a1.Seek.Best.Cmd.Disk) :: .u (cI a1.Seek.Best.Cmd.Arg) :: .u (cI a1.Seek.Best.Cmd.Epoch) :: .u (cI a1.Seek.Best.Cmd.Range) :: .u (cI a1.Seek.Best.Cmd.Num) :: .u (cI a1.Seek.Best.Cmd.A) :: .u (cI a1.Seek.Best.Cmd.B) :: .u (ul cInt 1 t1_33 a1.Seek.Yes) :: .u (ul Cmd.c 10 t1_34 a1.Wants) :: .u (ul SrvDoing.c 8 t1_35 a1.Doing) :: [])] [] (vbool r) [] := by
 refine Con.of_Dz tabOk Tryz.func112 rfl rfl rfl ?_
 delta l_eqServer at hF
 refine Dz.seq (Dz.reg (Dz.seq (Dz.seq (Dz.reg ?_))))
 refine Dz.ite rfl hF (fun _ hF => ?_) (fun _ hF => ?_)
 ·refine Dz.seq (Dz.reg (Dz.ret ?_))
  cases hF
  exact finG [] [] rfl rfl (mv rfl) tv rfl
 ·refine Dz.skip (Dz.seq (Dz.seq (Dz.reg ?_)))
  refine Dz.ite rfl hF (fun _ hF => ?_) (fun _ hF => ?_)
  ·refine Dz.seq (Dz.reg (Dz.ret ?_))
   cases hF
   exact finG [] [] rfl rfl (mv rfl) tv rfl
  ·refine Dz.skip (Dz.seq (Dz.seq (Dz.reg ?_)))
   refine Dz.ite rfl hF (fun _ hF => ?_) (fun _ hF => ?_)
   ·refine Dz.seq (Dz.reg (Dz.ret ?_))
    cases hF
    exact finG [] [] rfl rfl (mv rfl) tv rfl
   ·refine Dz.skip (Dz.seq (Dz.seq (Dz.reg ?_)))
    refine Dz.ite rfl hF (fun _ hF => ?_) (fun _ hF => ?_)
    ·refine Dz.seq (Dz.reg (Dz.ret ?_))
     cases hF
     exact finG [] [] rfl rfl (mv rfl) tv rfl
    ·refine Dz.skip (Dz.seq (Dz.seq (Dz.reg ?_)))
     refine bdE hF (fun y1 hy1 hF => ?_)
     refine callG [] (l_eqSynVoter_c hy1) ⟨mv rfl, mv rfl, tv⟩ tv rfl ?_
     refine Dz.ite rfl hF (fun _ hF => ?_) (fun _ hF => ?_)
     ·refine Dz.seq (Dz.reg (Dz.ret ?_))
      cases hF
      exact finG [] [] rfl rfl (mv rfl) tv rfl
     ·refine Dz.skip (Dz.seq (Dz.seq (Dz.reg ?_)))
      refine bdE hF (fun y2 hy2 hF => ?_)
      refine callG [] (l_eqCmdS_c hy2) ⟨mv rfl, mv rfl, tv⟩ tv rfl ?_
      refine Dz.ite rfl hF (fun _ hF => ?_) (fun _ hF => ?_)
      ·refine Dz.seq (Dz.reg (Dz.ret ?_))
       cases hF
       exact finG [] [] rfl rfl (mv rfl) tv rfl
      ·refine Dz.skip (Dz.seq (Dz.seq (Dz.reg ?_)))
       refine bdE hF (fun y3 hy3 hF => ?_)
       refine callG [] (l_eqSrvCopyS_c hy3) ⟨mv rfl, mv rfl, tv⟩ tv rfl ?_
       refine Dz.ite rfl hF (fun _ hF => ?_) (fun _ hF => ?_)
       ·refine Dz.seq (Dz.reg (Dz.ret ?_))
        cases hF
        exact finG [] [] rfl rfl (mv rfl) tv rfl
       ·refine Dz.skip (Dz.seq (Dz.seq (Dz.reg ?_)))
        refine bdE hF (fun y4 hy4 hF => ?_)
        refine callG [] (l_eqSynSeeker_c hy4) ⟨mv rfl, mv rfl, tv⟩ tv rfl ?_
        refine Dz.ite rfl hF (fun _ hF => ?_) (fun _ hF => ?_)
        ·refine Dz.seq (Dz.reg (Dz.ret ?_))
         cases hF
         exact finG [] [] rfl rfl (mv rfl) tv rfl
        ·refine Dz.skip (Dz.seq (Dz.seq (Dz.reg ?_)))
         refine bdE hF (fun y5 hy5 hF => ?_)
         refine callG [] (l_eqCmdS_c hy5) ⟨mv rfl, mv rfl, tv⟩ tv rfl ?_
         refine Dz.ite rfl hF (fun _ hF => ?_) (fun _ hF => ?_)
         ·refine Dz.seq (Dz.reg (Dz.ret ?_))
          cases hF
          exact finG [] [] rfl rfl (mv rfl) tv rfl
         ·refine Dz.skip (Dz.seq (Dz.seq (Dz.reg ?_)))
          refine bdE hF (fun y6 hy6 hF => ?_)
          refine callG [] (l_eqSrvDoingS_c hy6) ⟨mv rfl, mv rfl, tv⟩ tv rfl ?_
          refine Dz.ite rfl hF (fun _ hF => ?_) (fun _ hF => ?_)
          ·refine Dz.seq (Dz.reg (Dz.ret ?_))
           cases hF
           exact finG [] [] rfl rfl (mv rfl) tv rfl
          ·refine Dz.skip (Dz.seq (Dz.reg (Dz.ret ?_)))
           cases hF
           exact finG [] [] rfl rfl (mv rfl) tv rfl
def l_eqServerS (a0 : (List Server)) (a1 : (List Server)) : Option (Bool) :=
 cond (!decide (((a0.length : Nat) : Int) = ((a1.length : Nat) : Int))) (some false) (loopN (fun i3 (v8 : Unit) κ9 => lt (a0.getD i3 default) (fun x11 => ix a1 ((i3 : Nat) : Int) (fun x12 => (l_eqServer x11 x12).bind (fun y13 => cond (!y13) (some false) (κ9 ()))))) (fun (v8 : Unit) => some true) a0.length 0 ())
theorem l_eqServerS_c {t0_0 t1_0 : Bool} {a0 : (List Server)} {a1 : (List Server)} {r : Bool} (hF : l_eqServerS a0 a1 = some r) : Con Tryz.prog 48 [.val false [.u (ul Server.c 36 t0_0 a0)], .val false [.u (ul Server.c 36 t1_0 a1)]] [] (vbool r) [] := by
 refine Con.of_Dz tabOk Tryz.func48 rfl rfl rfl ?_
 delta l_eqServerS at hF
 refine Dz.seq (Dz.reg (Dz.seq (Dz.seq (Dz.reg ?_))))
 intro hb1; replace hb1 : a0.length ≤ 140737488355328 := hb1
 intro hb2; replace hb2 : a1.length ≤ 140737488355328 := hb2
 refine Dz.ite rfl hF (fun _ hF => ?_) (fun _ hF => ?_)
 ·refine Dz.seq (Dz.reg (Dz.ret ?_))
  cases hF
  exact finG [] [] rfl rfl (mv rfl) tv rfl
 ·refine Dz.skip (Dz.seq (Dz.seq (Dz.reg (Dz.blk ?_))))
  refine Dz.cnt hF (fun i3 v8 => ([(0, .val false [.u (ul Server.c 36 t0_0 a0)]), (1, .val false [.u (ul Server.c 36 t1_0 a1)]), (5, vint .i64 ((i3 : Nat) : Int))], [])) (entG [] ⟨mv rfl, mv rfl, mv rfl, tv⟩ tv rfl) (fun v8 hF => ?_) (fun i3 v8 κ9 hi0i3 hi1i3 hF => ?_)
  ·refine Dz.seq (Dz.seq (Dz.reg ?_))
   intro hb14; replace hb14 : a0.length ≤ 140737488355328 := hb14
   refine Dz.ff (b := decide (((0 + a0.length : Nat) : Int) < ((a0.length : Nat) : Int))) rfl (decide_eq_false (by omega)) ?_
   refine Dz.exit (Dz.seq (Dz.reg (Dz.ret ?_)))
   cases hF
   exact finG [] [] rfl rfl (mv rfl) tv rfl
  ·refine Dz.seq (Dz.seq (Dz.reg ?_))
   intro hb10; replace hb10 : a0.length ≤ 140737488355328 := hb10
   refine Dz.tt (b := decide (((i3 : Nat) : Int) < ((a0.length : Nat) : Int))) rfl (decide_eq_true (by omega)) ?_
   refine Dz.skip (Dz.seq (Dz.blk (Dz.seq ?_)))
   refine Dz.drw 0 [⟨[18,21,22,23,24], [], 0, 0⟩, ⟨[17,21,22,23,24], [], 0, 0⟩, ⟨[21,22,23,24], [], 0, 0⟩, ⟨[21,22,23,24], [], 0, 0⟩, ⟨[17,18,19,20,22], [], 0, 0⟩, ⟨[17,18,19,20,21], [], 0, 0⟩, ⟨[17,18,19,20], [], 0, 0⟩, ⟨[17,18,19,20], [], 0, 0⟩, ⟨[], [], 0, 0⟩, ⟨[], [], 0, 0⟩] ⟨by kernel_rfl, by kernel_rfl, rfl⟩ ?_
   refine vge (n := ((i3 : Nat) : Int)) (hi := (a0.length : Int)) (by omega) (by omega) ?_
   have hF := ltE hF
   refine vix hF (fun _ _ hF => ?_)
   refine bdE hF (fun y13 hy13 hF => ?_)
   refine callG [] (l_eqServer_c hy13) ⟨mv rfl, mv rfl, tv⟩ tv rfl ?_
   refine Dz.ite rfl hF (fun _ hF => ?_) (fun _ hF => ?_)
   ·refine Dz.seq (Dz.reg (Dz.ret ?_))
    cases hF
    exact finG [] [] rfl rfl (mv rfl) tv rfl
   ·refine Dz.skip (Dz.reg ?_)
    refine vsucc (by omega) ?_
    exact ⟨(), entG [] ⟨mv rfl, mv rfl, mv rfl, tv⟩ tv rfl, hF⟩
def l_eqWord (a0 : Word) (a1 : Word) : Option (Bool) :=
 cond (!decide (a0.Kind = a1.Kind)) (some false) (cond (!decide (a0.From = a1.From)) (some false) (cond (!decide (a0.To = a1.To)) (some false) (cond (!decide (a0.Ballot = a1.Ballot)) (some false) (cond (!decide (a0.Slot = a1.Slot)) (some false) (cond (!decide (a0.Was = a1.Was)) (some false) ((l_eqCmd a0.Cmd a1.Cmd).bind (fun y1 => cond (!y1) (some false) (cond (!decide (a0.Range = a1.Range)) (some false) (cond (!decide (a0.View = a1.View)) (some false) (cond (!decide (a0.Client = a1.Client)) (some false) (cond (!decide (a0.Call = a1.Call)) (some false) (cond (!decide (a0.Disk = a1.Disk)) (some false) (cond (!decide (a0.Block = a1.Block)) (some false) (cond (!decide (a0.Epoch = a1.Epoch)) (some false) (cond (!decide (a0.Data = a1.Data)) (some false) ((l_eqBlkPieceS a0.Pieces a1.Pieces).bind (fun y2 => cond (!y2) (some false) ((l_eqBlkLastS a0.Last a1.Last).bind (fun y3 => cond (!y3) (some false) (some true))))))))))))))))))))
theorem l_eqWord_c {t0_24 t0_25 t1_24 t1_25 : Bool} {a0 : Word} {a1 : Word} {r : Bool} (hF : l_eqWord a0 a1 = some r) : Con Tryz.prog 113 [.val true [.u (cI a0.Kind), .u (cI a0.From), .u (cI a0.To), .u (cI a0.Ballot), .u (cI a0.Slot), .u (cI a0.Was), .u (cI a0.Cmd.Kind), .u (cI a0.Cmd.Client), .u (cI a0.Cmd.Call), .u (cI a0.Cmd.Disk), .u (cI a0.Cmd.Arg), .u (cI a0.Cmd.Epoch), .u (cI a0.Cmd.Range), .u (cI a0.Cmd.Num), .u (cI a0.Cmd.A), .u (cI a0.Cmd.B), .u (cI a0.Range), .u (cI a0.View), .u (cI a0.Client), .u (cI a0.Call), .u (cI a0.Disk), .u (cI a0.Block), .u (cI a0.Epoch), .u (cI a0.Data), .u (ul BlkPiece.c 4 t0_24 a0.Pieces), .u (ul BlkLast.c 2 t0_25 a0.Last)], .val true [.u (cI a1.Kind), .u (cI a1.From), .u (cI a1.To), .u (cI a1.Ballot), .u (cI a1.Slot), .u (cI a1.Was), .u (cI a1.Cmd.Kind), .u (cI a1.Cmd.Client), .u (cI a1.Cmd.Call), .u (cI a1.Cmd.Disk), .u (cI a1.Cmd.Arg), .u (cI a1.Cmd.Epoch), .u (cI a1.Cmd.Range), .u (cI a1.Cmd.Num), .u (cI a1.Cmd.A), .u (cI a1.Cmd.B), .u (cI a1.Range), .u (cI a1.View), .u (cI a1.Client), .u (cI a1.Call), .u (cI a1.Disk), .u (cI a1.Block), .u (cI a1.Epoch), .u (cI a1.Data), .u (ul BlkPiece.c 4 t1_24 a1.Pieces), .u (ul BlkLast.c 2 t1_25 a1.Last)]] [] (vbool r) [] := by
 refine Con.of_Dz tabOk Tryz.func113 rfl rfl rfl ?_
 delta l_eqWord at hF
 refine Dz.seq (Dz.reg (Dz.seq (Dz.seq (Dz.reg ?_))))
 refine Dz.ite rfl hF (fun _ hF => ?_) (fun _ hF => ?_)
 ·refine Dz.seq (Dz.reg (Dz.ret ?_))
  cases hF
  exact finG [] [] rfl rfl (mv rfl) tv rfl
 ·refine Dz.skip (Dz.seq (Dz.seq (Dz.reg ?_)))
  refine Dz.ite rfl hF (fun _ hF => ?_) (fun _ hF => ?_)
  ·refine Dz.seq (Dz.reg (Dz.ret ?_))
   cases hF
   exact finG [] [] rfl rfl (mv rfl) tv rfl
  ·refine Dz.skip (Dz.seq (Dz.seq (Dz.reg ?_)))
   refine Dz.ite rfl hF (fun _ hF => ?_) (fun _ hF => ?_)
   ·refine Dz.seq (Dz.reg (Dz.ret ?_))
    cases hF
    exact finG [] [] rfl rfl (mv rfl) tv rfl
   ·refine Dz.skip (Dz.seq (Dz.seq (Dz.reg ?_)))
    refine Dz.ite rfl hF (fun _ hF => ?_) (fun _ hF => ?_)
    ·refine Dz.seq (Dz.reg (Dz.ret ?_))
     cases hF
     exact finG [] [] rfl rfl (mv rfl) tv rfl
    ·refine Dz.skip (Dz.seq (Dz.seq (Dz.reg ?_)))
     refine Dz.ite rfl hF (fun _ hF => ?_) (fun _ hF => ?_)
     ·refine Dz.seq (Dz.reg (Dz.ret ?_))
      cases hF
      exact finG [] [] rfl rfl (mv rfl) tv rfl
     ·refine Dz.skip (Dz.seq (Dz.seq (Dz.reg ?_)))
      refine Dz.ite rfl hF (fun _ hF => ?_) (fun _ hF => ?_)
      ·refine Dz.seq (Dz.reg (Dz.ret ?_))
       cases hF
       exact finG [] [] rfl rfl (mv rfl) tv rfl
      ·refine Dz.skip (Dz.seq (Dz.seq (Dz.reg ?_)))
       refine bdE hF (fun y1 hy1 hF => ?_)
       refine callG [] (l_eqCmd_c hy1) ⟨mv rfl, mv rfl, tv⟩ tv rfl ?_
       refine Dz.ite rfl hF (fun _ hF => ?_) (fun _ hF => ?_)
       ·refine Dz.seq (Dz.reg (Dz.ret ?_))
        cases hF
        exact finG [] [] rfl rfl (mv rfl) tv rfl
       ·refine Dz.skip (Dz.seq (Dz.seq (Dz.reg ?_)))
        refine Dz.ite rfl hF (fun _ hF => ?_) (fun _ hF => ?_)
        ·refine Dz.seq (Dz.reg (Dz.ret ?_))
         cases hF
         exact finG [] [] rfl rfl (mv rfl) tv rfl
        ·refine Dz.skip (Dz.seq (Dz.seq (Dz.reg ?_)))
         refine Dz.ite rfl hF (fun _ hF => ?_) (fun _ hF => ?_)
         ·refine Dz.seq (Dz.reg (Dz.ret ?_))
          cases hF
          exact finG [] [] rfl rfl (mv rfl) tv rfl
         ·refine Dz.skip (Dz.seq (Dz.seq (Dz.reg ?_)))
          refine Dz.ite rfl hF (fun _ hF => ?_) (fun _ hF => ?_)
          ·refine Dz.seq (Dz.reg (Dz.ret ?_))
           cases hF
           exact finG [] [] rfl rfl (mv rfl) tv rfl
          ·refine Dz.skip (Dz.seq (Dz.seq (Dz.reg ?_)))
           refine Dz.ite rfl hF (fun _ hF => ?_) (fun _ hF => ?_)
           ·refine Dz.seq (Dz.reg (Dz.ret ?_))
            cases hF
            exact finG [] [] rfl rfl (mv rfl) tv rfl
           ·refine Dz.skip (Dz.seq (Dz.seq (Dz.reg ?_)))
            refine Dz.ite rfl hF (fun _ hF => ?_) (fun _ hF => ?_)
            ·refine Dz.seq (Dz.reg (Dz.ret ?_))
             cases hF
             exact finG [] [] rfl rfl (mv rfl) tv rfl
            ·refine Dz.skip (Dz.seq (Dz.seq (Dz.reg ?_)))
             refine Dz.ite rfl hF (fun _ hF => ?_) (fun _ hF => ?_)
             ·refine Dz.seq (Dz.reg (Dz.ret ?_))
              cases hF
              exact finG [] [] rfl rfl (mv rfl) tv rfl
             ·refine Dz.skip (Dz.seq (Dz.seq (Dz.reg ?_)))
              refine Dz.ite rfl hF (fun _ hF => ?_) (fun _ hF => ?_)
              ·refine Dz.seq (Dz.reg (Dz.ret ?_))
               cases hF
               exact finG [] [] rfl rfl (mv rfl) tv rfl
              ·refine Dz.skip (Dz.seq (Dz.seq (Dz.reg ?_)))
               refine Dz.ite rfl hF (fun _ hF => ?_) (fun _ hF => ?_)
               ·refine Dz.seq (Dz.reg (Dz.ret ?_))
                cases hF
                exact finG [] [] rfl rfl (mv rfl) tv rfl
               ·refine Dz.skip (Dz.seq (Dz.seq (Dz.reg ?_)))
                refine bdE hF (fun y2 hy2 hF => ?_)
                refine callG [] (l_eqBlkPieceS_c hy2) ⟨mv rfl, mv rfl, tv⟩ tv rfl ?_
                refine Dz.ite rfl hF (fun _ hF => ?_) (fun _ hF => ?_)
                ·refine Dz.seq (Dz.reg (Dz.ret ?_))
                 cases hF
                 exact finG [] [] rfl rfl (mv rfl) tv rfl
                ·refine Dz.skip (Dz.seq (Dz.seq (Dz.reg ?_)))
                 refine bdE hF (fun y3 hy3 hF => ?_)
                 refine callG [] (l_eqBlkLastS_c hy3) ⟨mv rfl, mv rfl, tv⟩ tv rfl ?_
                 refine Dz.ite rfl hF (fun _ hF => ?_) (fun _ hF => ?_)
                 ·refine Dz.seq (Dz.reg (Dz.ret ?_))
                  cases hF
                  exact finG [] [] rfl rfl (mv rfl) tv rfl
                 ·refine Dz.skip (Dz.seq (Dz.reg (Dz.ret ?_)))
                  cases hF
                  exact finG [] [] rfl rfl (mv rfl) tv rfl
def l_eqWordS (a0 : (List Word)) (a1 : (List Word)) : Option (Bool) :=
 cond (!decide (((a0.length : Nat) : Int) = ((a1.length : Nat) : Int))) (some false) (loopN (fun i3 (v8 : Unit) κ9 => lt (a0.getD i3 default) (fun x11 => ix a1 ((i3 : Nat) : Int) (fun x12 => (l_eqWord x11 x12).bind (fun y13 => cond (!y13) (some false) (κ9 ()))))) (fun (v8 : Unit) => some true) a0.length 0 ())
theorem l_eqWordS_c {t0_0 t1_0 : Bool} {a0 : (List Word)} {a1 : (List Word)} {r : Bool} (hF : l_eqWordS a0 a1 = some r) : Con Tryz.prog 49 [.val false [.u (ul Word.c 26 t0_0 a0)], .val false [.u (ul Word.c 26 t1_0 a1)]] [] (vbool r) [] := by
 refine Con.of_Dz tabOk Tryz.func49 rfl rfl rfl ?_
 delta l_eqWordS at hF
 refine Dz.seq (Dz.reg (Dz.seq (Dz.seq (Dz.reg ?_))))
 intro hb1; replace hb1 : a0.length ≤ 140737488355328 := hb1
 intro hb2; replace hb2 : a1.length ≤ 140737488355328 := hb2
 refine Dz.ite rfl hF (fun _ hF => ?_) (fun _ hF => ?_)
 ·refine Dz.seq (Dz.reg (Dz.ret ?_))
  cases hF
  exact finG [] [] rfl rfl (mv rfl) tv rfl
 ·refine Dz.skip (Dz.seq (Dz.seq (Dz.reg (Dz.blk ?_))))
  refine Dz.cnt hF (fun i3 v8 => ([(0, .val false [.u (ul Word.c 26 t0_0 a0)]), (1, .val false [.u (ul Word.c 26 t1_0 a1)]), (5, vint .i64 ((i3 : Nat) : Int))], [])) (entG [] ⟨mv rfl, mv rfl, mv rfl, tv⟩ tv rfl) (fun v8 hF => ?_) (fun i3 v8 κ9 hi0i3 hi1i3 hF => ?_)
  ·refine Dz.seq (Dz.seq (Dz.reg ?_))
   intro hb14; replace hb14 : a0.length ≤ 140737488355328 := hb14
   refine Dz.ff (b := decide (((0 + a0.length : Nat) : Int) < ((a0.length : Nat) : Int))) rfl (decide_eq_false (by omega)) ?_
   refine Dz.exit (Dz.seq (Dz.reg (Dz.ret ?_)))
   cases hF
   exact finG [] [] rfl rfl (mv rfl) tv rfl
  ·refine Dz.seq (Dz.seq (Dz.reg ?_))
   intro hb10; replace hb10 : a0.length ≤ 140737488355328 := hb10
   refine Dz.tt (b := decide (((i3 : Nat) : Int) < ((a0.length : Nat) : Int))) rfl (decide_eq_true (by omega)) ?_
   refine Dz.skip (Dz.seq (Dz.blk (Dz.seq ?_)))
   refine Dz.drw 0 [⟨[18,21,22,23,24], [], 0, 0⟩, ⟨[17,21,22,23,24], [], 0, 0⟩, ⟨[21,22,23,24], [], 0, 0⟩, ⟨[21,22,23,24], [], 0, 0⟩, ⟨[17,18,19,20,22], [], 0, 0⟩, ⟨[17,18,19,20,21], [], 0, 0⟩, ⟨[17,18,19,20], [], 0, 0⟩, ⟨[17,18,19,20], [], 0, 0⟩, ⟨[], [], 0, 0⟩, ⟨[], [], 0, 0⟩] ⟨by kernel_rfl, by kernel_rfl, rfl⟩ ?_
   refine vge (n := ((i3 : Nat) : Int)) (hi := (a0.length : Int)) (by omega) (by omega) ?_
   have hF := ltE hF
   refine vix hF (fun _ _ hF => ?_)
   refine bdE hF (fun y13 hy13 hF => ?_)
   refine callG [] (l_eqWord_c hy13) ⟨mv rfl, mv rfl, tv⟩ tv rfl ?_
   refine Dz.ite rfl hF (fun _ hF => ?_) (fun _ hF => ?_)
   ·refine Dz.seq (Dz.reg (Dz.ret ?_))
    cases hF
    exact finG [] [] rfl rfl (mv rfl) tv rfl
   ·refine Dz.skip (Dz.reg ?_)
    refine vsucc (by omega) ?_
    exact ⟨(), entG [] ⟨mv rfl, mv rfl, mv rfl, tv⟩ tv rfl, hF⟩
def l_eqPanCall (a0 : PanCall) (a1 : PanCall) : Option (Bool) :=
 cond (!decide (a0.Client = a1.Client)) (some false) (cond (!decide (a0.Call = a1.Call)) (some false) (cond (!decide (a0.Op = a1.Op)) (some false) (cond (!decide (a0.Disk = a1.Disk)) (some false) (cond (!decide (a0.Block = a1.Block)) (some false) (cond (!decide (a0.Epoch = a1.Epoch)) (some false) (cond (!decide (a0.Data = a1.Data)) (some false) (cond (!decide (a0.Begin = a1.Begin)) (some false) (cond (!decide (a0.End = a1.End)) (some false) (cond (!(a0.Over == a1.Over)) (some false) (cond (!decide (a0.Code = a1.Code)) (some false) (cond (!decide (a0.Value = a1.Value)) (some false) (some true))))))))))))
theorem l_eqPanCall_c {a0 : PanCall} {a1 : PanCall} {r : Bool} (hF : l_eqPanCall a0 a1 = some r) : Con Tryz.prog 114 [.val true (PanCall.L a0), .val true (PanCall.L a1)] [] (vbool r) [] := by
 refine Con.of_Dz tabOk Tryz.func114 rfl rfl rfl ?_
 delta l_eqPanCall at hF
 refine Dz.seq (Dz.reg (Dz.seq (Dz.seq (Dz.reg ?_))))
 refine Dz.ite rfl hF (fun _ hF => ?_) (fun _ hF => ?_)
 ·refine Dz.seq (Dz.reg (Dz.ret ?_))
  cases hF
  exact finG [] [] rfl rfl (mv rfl) tv rfl
 ·refine Dz.skip (Dz.seq (Dz.seq (Dz.reg ?_)))
  refine Dz.ite rfl hF (fun _ hF => ?_) (fun _ hF => ?_)
  ·refine Dz.seq (Dz.reg (Dz.ret ?_))
   cases hF
   exact finG [] [] rfl rfl (mv rfl) tv rfl
  ·refine Dz.skip (Dz.seq (Dz.seq (Dz.reg ?_)))
   refine Dz.ite rfl hF (fun _ hF => ?_) (fun _ hF => ?_)
   ·refine Dz.seq (Dz.reg (Dz.ret ?_))
    cases hF
    exact finG [] [] rfl rfl (mv rfl) tv rfl
   ·refine Dz.skip (Dz.seq (Dz.seq (Dz.reg ?_)))
    refine Dz.ite rfl hF (fun _ hF => ?_) (fun _ hF => ?_)
    ·refine Dz.seq (Dz.reg (Dz.ret ?_))
     cases hF
     exact finG [] [] rfl rfl (mv rfl) tv rfl
    ·refine Dz.skip (Dz.seq (Dz.seq (Dz.reg ?_)))
     refine Dz.ite rfl hF (fun _ hF => ?_) (fun _ hF => ?_)
     ·refine Dz.seq (Dz.reg (Dz.ret ?_))
      cases hF
      exact finG [] [] rfl rfl (mv rfl) tv rfl
     ·refine Dz.skip (Dz.seq (Dz.seq (Dz.reg ?_)))
      refine Dz.ite rfl hF (fun _ hF => ?_) (fun _ hF => ?_)
      ·refine Dz.seq (Dz.reg (Dz.ret ?_))
       cases hF
       exact finG [] [] rfl rfl (mv rfl) tv rfl
      ·refine Dz.skip (Dz.seq (Dz.seq (Dz.reg ?_)))
       refine Dz.ite rfl hF (fun _ hF => ?_) (fun _ hF => ?_)
       ·refine Dz.seq (Dz.reg (Dz.ret ?_))
        cases hF
        exact finG [] [] rfl rfl (mv rfl) tv rfl
       ·refine Dz.skip (Dz.seq (Dz.seq (Dz.reg ?_)))
        refine Dz.ite rfl hF (fun _ hF => ?_) (fun _ hF => ?_)
        ·refine Dz.seq (Dz.reg (Dz.ret ?_))
         cases hF
         exact finG [] [] rfl rfl (mv rfl) tv rfl
        ·refine Dz.skip (Dz.seq (Dz.seq (Dz.reg ?_)))
         refine Dz.ite rfl hF (fun _ hF => ?_) (fun _ hF => ?_)
         ·refine Dz.seq (Dz.reg (Dz.ret ?_))
          cases hF
          exact finG [] [] rfl rfl (mv rfl) tv rfl
         ·refine Dz.skip (Dz.seq (Dz.seq (Dz.reg ?_)))
          refine Dz.ite rfl hF (fun _ hF => ?_) (fun _ hF => ?_)
          ·refine Dz.seq (Dz.reg (Dz.ret ?_))
           cases hF
           exact finG [] [] rfl rfl (mv rfl) tv rfl
          ·refine Dz.skip (Dz.seq (Dz.seq (Dz.reg ?_)))
           refine Dz.ite rfl hF (fun _ hF => ?_) (fun _ hF => ?_)
           ·refine Dz.seq (Dz.reg (Dz.ret ?_))
            cases hF
            exact finG [] [] rfl rfl (mv rfl) tv rfl
           ·refine Dz.skip (Dz.seq (Dz.seq (Dz.reg ?_)))
            refine Dz.ite rfl hF (fun _ hF => ?_) (fun _ hF => ?_)
            ·refine Dz.seq (Dz.reg (Dz.ret ?_))
             cases hF
             exact finG [] [] rfl rfl (mv rfl) tv rfl
            ·refine Dz.skip (Dz.seq (Dz.reg (Dz.ret ?_)))
             cases hF
             exact finG [] [] rfl rfl (mv rfl) tv rfl
def l_eqPanCallS (a0 : (List PanCall)) (a1 : (List PanCall)) : Option (Bool) :=
 cond (!decide (((a0.length : Nat) : Int) = ((a1.length : Nat) : Int))) (some false) (loopN (fun i3 (v8 : Unit) κ9 => lt (a0.getD i3 default) (fun x11 => ix a1 ((i3 : Nat) : Int) (fun x12 => (l_eqPanCall x11 x12).bind (fun y13 => cond (!y13) (some false) (κ9 ()))))) (fun (v8 : Unit) => some true) a0.length 0 ())
theorem l_eqPanCallS_c {t0_0 t1_0 : Bool} {a0 : (List PanCall)} {a1 : (List PanCall)} {r : Bool} (hF : l_eqPanCallS a0 a1 = some r) : Con Tryz.prog 50 [.val false [.u (ul PanCall.c 12 t0_0 a0)], .val false [.u (ul PanCall.c 12 t1_0 a1)]] [] (vbool r) [] := by
 refine Con.of_Dz tabOk Tryz.func50 rfl rfl rfl ?_
 delta l_eqPanCallS at hF
 refine Dz.seq (Dz.reg (Dz.seq (Dz.seq (Dz.reg ?_))))
 intro hb1; replace hb1 : a0.length ≤ 140737488355328 := hb1
 intro hb2; replace hb2 : a1.length ≤ 140737488355328 := hb2
 refine Dz.ite rfl hF (fun _ hF => ?_) (fun _ hF => ?_)
 ·refine Dz.seq (Dz.reg (Dz.ret ?_))
  cases hF
  exact finG [] [] rfl rfl (mv rfl) tv rfl
 ·refine Dz.skip (Dz.seq (Dz.seq (Dz.reg (Dz.blk ?_))))
  refine Dz.cnt hF (fun i3 v8 => ([(0, .val false [.u (ul PanCall.c 12 t0_0 a0)]), (1, .val false [.u (ul PanCall.c 12 t1_0 a1)]), (5, vint .i64 ((i3 : Nat) : Int))], [])) (entG [] ⟨mv rfl, mv rfl, mv rfl, tv⟩ tv rfl) (fun v8 hF => ?_) (fun i3 v8 κ9 hi0i3 hi1i3 hF => ?_)
  ·refine Dz.seq (Dz.seq (Dz.reg ?_))
   intro hb14; replace hb14 : a0.length ≤ 140737488355328 := hb14
   refine Dz.ff (b := decide (((0 + a0.length : Nat) : Int) < ((a0.length : Nat) : Int))) rfl (decide_eq_false (by omega)) ?_
   refine Dz.exit (Dz.seq (Dz.reg (Dz.ret ?_)))
   cases hF
   exact finG [] [] rfl rfl (mv rfl) tv rfl
  ·refine Dz.seq (Dz.seq (Dz.reg ?_))
   intro hb10; replace hb10 : a0.length ≤ 140737488355328 := hb10
   refine Dz.tt (b := decide (((i3 : Nat) : Int) < ((a0.length : Nat) : Int))) rfl (decide_eq_true (by omega)) ?_
   refine Dz.skip (Dz.seq (Dz.blk (Dz.seq ?_)))
   refine Dz.drw 0 [⟨[18,21,22,23,24], [], 0, 0⟩, ⟨[17,21,22,23,24], [], 0, 0⟩, ⟨[21,22,23,24], [], 0, 0⟩, ⟨[21,22,23,24], [], 0, 0⟩, ⟨[17,18,19,20,22], [], 0, 0⟩, ⟨[17,18,19,20,21], [], 0, 0⟩, ⟨[17,18,19,20], [], 0, 0⟩, ⟨[17,18,19,20], [], 0, 0⟩, ⟨[], [], 0, 0⟩, ⟨[], [], 0, 0⟩] ⟨by kernel_rfl, by kernel_rfl, rfl⟩ ?_
   refine vge (n := ((i3 : Nat) : Int)) (hi := (a0.length : Int)) (by omega) (by omega) ?_
   have hF := ltE hF
   refine vix hF (fun _ _ hF => ?_)
   refine bdE hF (fun y13 hy13 hF => ?_)
   refine callG [] (l_eqPanCall_c hy13) ⟨mv rfl, mv rfl, tv⟩ tv rfl ?_
   refine Dz.ite rfl hF (fun _ hF => ?_) (fun _ hF => ?_)
   ·refine Dz.seq (Dz.reg (Dz.ret ?_))
    cases hF
    exact finG [] [] rfl rfl (mv rfl) tv rfl
   ·refine Dz.skip (Dz.reg ?_)
    refine vsucc (by omega) ?_
    exact ⟨(), entG [] ⟨mv rfl, mv rfl, mv rfl, tv⟩ tv rfl, hF⟩
def l_eqPanWorld (a0 : PanWorld) (a1 : PanWorld) : Option (Bool) :=
 cond (!decide (a0.Time = a1.Time)) (some false) ((l_eqServerS a0.Servers a1.Servers).bind (fun y1 => cond (!y1) (some false) ((l_eqWordS a0.Radio a1.Radio).bind (fun y2 => cond (!y2) (some false) ((l_eqPanCallS a0.Calls a1.Calls).bind (fun y3 => cond (!y3) (some false) (some true)))))))
theorem l_eqPanWorld_c {t0_1 t0_2 t0_3 t1_1 t1_2 t1_3 : Bool} {a0 : PanWorld} {a1 : PanWorld} {r : Bool} (hF : l_eqPanWorld a0 a1 = some r) : Con Tryz.prog 12 [.val true [.u (cI a0.Time), .u (ul Server.c 36 t0_1 a0.Servers), .u (ul Word.c 26 t0_2 a0.Radio), .u (ul PanCall.c 12 t0_3 a0.Calls)], .val true [.u (cI a1.Time), .u (ul Server.c 36 t1_1 a1.Servers), .u (ul Word.c 26 t1_2 a1.Radio), .u (ul PanCall.c 12 t1_3 a1.Calls)]] [] (vbool r) [] := by
 refine Con.of_Dz tabOk Tryz.func12 rfl rfl rfl ?_
 delta l_eqPanWorld at hF
 refine Dz.seq (Dz.reg (Dz.seq (Dz.seq (Dz.reg ?_))))
 refine Dz.ite rfl hF (fun _ hF => ?_) (fun _ hF => ?_)
 ·refine Dz.seq (Dz.reg (Dz.ret ?_))
  cases hF
  exact finG [] [] rfl rfl (mv rfl) tv rfl
 ·refine Dz.skip (Dz.seq (Dz.seq (Dz.reg ?_)))
  refine bdE hF (fun y1 hy1 hF => ?_)
  refine callG [] (l_eqServerS_c hy1) ⟨mv rfl, mv rfl, tv⟩ tv rfl ?_
  refine Dz.ite rfl hF (fun _ hF => ?_) (fun _ hF => ?_)
  ·refine Dz.seq (Dz.reg (Dz.ret ?_))
   cases hF
   exact finG [] [] rfl rfl (mv rfl) tv rfl
  ·refine Dz.skip (Dz.seq (Dz.seq (Dz.reg ?_)))
   refine bdE hF (fun y2 hy2 hF => ?_)
   refine callG [] (l_eqWordS_c hy2) ⟨mv rfl, mv rfl, tv⟩ tv rfl ?_
   refine Dz.ite rfl hF (fun _ hF => ?_) (fun _ hF => ?_)
   ·refine Dz.seq (Dz.reg (Dz.ret ?_))
    cases hF
    exact finG [] [] rfl rfl (mv rfl) tv rfl
   ·refine Dz.skip (Dz.seq (Dz.seq (Dz.reg ?_)))
    refine bdE hF (fun y3 hy3 hF => ?_)
    refine callG [] (l_eqPanCallS_c hy3) ⟨mv rfl, mv rfl, tv⟩ tv rfl ?_
    refine Dz.ite rfl hF (fun _ hF => ?_) (fun _ hF => ?_)
    ·refine Dz.seq (Dz.reg (Dz.ret ?_))
     cases hF
     exact finG [] [] rfl rfl (mv rfl) tv rfl
    ·refine Dz.skip (Dz.seq (Dz.reg (Dz.ret ?_)))
     cases hF
     exact finG [] [] rfl rfl (mv rfl) tv rfl
def l_FnExactPanSafe (a0 : PanWorld) : Option (Bool) :=
 (l_szPanWorld a0 1048576).bind (fun y1 => cond (decide (y1 < 0)) (some true) ((l_toPanWorld a0).bind (fun y2 => (s_PanSafe y2).bind (fun y3 => (l_toPanWorld a0).bind (fun y4 => (i_PanSafe y4).bind (fun y5 => cond (!(y5 == y3)) (some false) ((l_toPanWorld a0).bind (fun y6 => (l_eqPanWorld y4 y6).bind (fun y7 => cond (!y7) (some false) (some true))))))))))
theorem l_FnExactPanSafe_c {t0_1 t0_2 t0_3 : Bool} {a0 : PanWorld} {r : Bool} (hF : l_FnExactPanSafe a0 = some r) : Con Tryz.prog 3 [.val true [.u (cI a0.Time), .u (ul Server.c 36 t0_1 a0.Servers), .u (ul Word.c 26 t0_2 a0.Radio), .u (ul PanCall.c 12 t0_3 a0.Calls)]] [] (vbool r) [] := by
 refine Con.of_Dz tabOk Tryz.func3 rfl rfl rfl ?_
 delta l_FnExactPanSafe at hF
 refine Dz.seq (Dz.reg (Dz.seq (Dz.reg (Dz.seq (Dz.reg ?_)))))
 refine bdE hF (fun y1 hy1 hF => ?_)
 refine callG [] (l_szPanWorld_c hy1) ⟨mv rfl, mv rfl, tv⟩ tv rfl ?_
 refine Dz.seq (Dz.seq (Dz.reg ?_))
 refine Dz.ite rfl hF (fun _ hF => ?_) (fun _ hF => ?_)
 ·refine Dz.seq (Dz.reg (Dz.ret ?_))
  cases hF
  exact finG [] [] rfl rfl (mv rfl) tv rfl
 ·refine Dz.skip (Dz.seq (Dz.reg ?_))
  refine bdE hF (fun y2 hy2 hF => ?_)
  refine callG [] (l_toPanWorld_c hy2) ⟨mv rfl, tv⟩ tv rfl ?_
  refine bdE hF (fun y3 hy3 hF => ?_)
  refine callL [] (s_PanSafe_c hy3) ⟨⟨rfl, lr, ⟨rfl, rfl, lr⟩, ⟨rfl, rfl, lr⟩, ⟨rfl, rfl, lr⟩, tv⟩, tv⟩ tv rfl ⟨⟨tv, tv⟩, tv⟩ ?_
  refine Dz.seq (Dz.reg ?_)
  refine bdE hF (fun y4 hy4 hF => ?_)
  refine callG [] (l_toPanWorld_c hy4) ⟨mv rfl, tv⟩ tv rfl ?_
  refine Dz.seq (Dz.reg ?_)
  refine bdE hF (fun y5 hy5 hF => ?_)
  refine callL [] (i_PanSafe_c hy5) ⟨⟨rfl, lr, ⟨rfl, rfl, lr⟩, ⟨rfl, rfl, lr⟩, ⟨rfl, rfl, lr⟩, tv⟩, tv⟩ tv rfl ⟨⟨tv, tv⟩, tv⟩ ?_
  refine Dz.seq (Dz.seq (Dz.reg ?_))
  refine Dz.ite rfl hF (fun _ hF => ?_) (fun _ hF => ?_)
  ·refine Dz.seq (Dz.reg (Dz.ret ?_))
   cases hF
   exact finG [] [] rfl rfl (mv rfl) tv rfl
  ·refine Dz.skip (Dz.seq (Dz.seq ?_))
   refine Dz.drw 8 [⟨[23,24], [7], 8, 8⟩, ⟨[22], [0], 8, 8⟩, ⟨[22], [], 8, 11⟩, ⟨[], [4,5,6,8,9,10], 11, 11⟩, ⟨[], [], 11, 11⟩] ⟨by kernel_rfl, by kernel_rfl, rfl⟩ ?_
   refine bdE hF (fun y6 hy6 hF => ?_)
   refine callG [] (l_toPanWorld_c hy6) ⟨mv rfl, tv⟩ tv rfl ?_
   refine bdE hF (fun y7 hy7 hF => ?_)
   refine callL [] (l_eqPanWorld_c hy7) ⟨⟨rfl, lr, ⟨rfl, rfl, lr⟩, ⟨rfl, rfl, lr⟩, ⟨rfl, rfl, lr⟩, tv⟩, ⟨rfl, lr, ⟨rfl, rfl, lr⟩, ⟨rfl, rfl, lr⟩, ⟨rfl, rfl, lr⟩, tv⟩, tv⟩ tv rfl ⟨⟨tv, tv⟩, tv⟩ ?_
   refine Dz.ite rfl hF (fun _ hF => ?_) (fun _ hF => ?_)
   ·refine Dz.seq (Dz.reg (Dz.ret ?_))
    cases hF
    exact finG [] [] rfl rfl (mv rfl) tv rfl
   ·refine Dz.skip (Dz.seq (Dz.reg (Dz.ret ?_)))
    cases hF
    exact finG [] [] rfl rfl (mv rfl) tv rfl
def s_MapTarget (a0 : MapState) (a1 : Int) : Option (Int × Int) :=
 (s_MapOk a0).bind (fun y1 => cond (!y1) (some (0, 0)) ((s_l6In a1 0 2).bind (fun y2 => cond (!y2) (some (0, 0)) (ck (a0.Servers ≠ 0) (ck (a0.Servers ≠ 0) (some ((Int.tmod a1 a0.Servers), (Int.tmod (w64 (a1 + 1)) a0.Servers))))))))
theorem s_MapTarget_c {t0_3 t0_4 t0_5 : Bool} {a0 : MapState} {a1 : Int} {r : Int × Int} (hF : s_MapTarget a0 a1 = some r) : Con Tryz.prog 116 [.val true [.u (cI a0.Slots), .u (cI a0.Servers), .u (cI a0.Next), .u (ul MapDisk.c 7 t0_3 a0.Disks), .u (ul MapView.c 3 t0_4 a0.Views), .u (ul MapDone.c 4 t0_5 a0.Done)], vint .i64 a1] [] (.tup [(false, [.u (cI r.1)]), (false, [.u (cI r.2)])]) [] := by
 refine Con.of_Dz tabOk Tryz.func116 rfl rfl rfl ?_
 delta s_MapTarget at hF
 refine Dz.seq (Dz.reg (Dz.seq (Dz.seq (Dz.reg ?_))))
 refine bdE hF (fun y1 hy1 hF => ?_)
 refine callG [] (s_MapOk_c hy1) ⟨mv rfl, tv⟩ tv rfl ?_
 refine vif hF (fun _ hF => ?_) (fun _ hF => ?_)
 ·refine Dz.tt (b := true) rfl rfl ?_
  refine Dz.seq (Dz.reg (Dz.ret ?_))
  cases hF
  exact finG [] [] rfl rfl ⟨⟨rfl, mls_same rfl⟩, ⟨rfl, mls_same rfl⟩, tv⟩ tv rfl
 ·refine bdE hF (fun y2 hy2 hF => ?_)
  refine callG [] (s_l6In_c hy2) ⟨mv rfl, mv rfl, mv rfl, tv⟩ tv rfl ?_
  refine Dz.ite rfl hF (fun _ hF => ?_) (fun _ hF => ?_)
  ·refine Dz.seq (Dz.reg (Dz.ret ?_))
   cases hF
   exact finG [] [] rfl rfl ⟨⟨rfl, mls_same rfl⟩, ⟨rfl, mls_same rfl⟩, tv⟩ tv rfl
  ·refine Dz.skip (Dz.seq ?_)
   refine Dz.drw 1 [⟨[15,16,18,19,20,21,22], [], 1, 1⟩, ⟨[14,18,19,20,21,22], [], 1, 1⟩, ⟨[14,18,19,20,21,22], [0], 1, 1⟩, ⟨[18,19,20,21,22], [], 1, 1⟩, ⟨[14,15,16,17,20,21,4], [], 1, 1⟩, ⟨[14,15,16,17,20,21,4], [], 1, 1⟩, ⟨[14,15,16,17,18,19,4], [], 1, 1⟩, ⟨[14,15,16,17,18,19,4], [0], 1, 1⟩, ⟨[14,15,16,17,4], [], 1, 1⟩, ⟨[18,19,20,21,22], [], 1, 1⟩, ⟨[], [], 1, 1⟩] ⟨by kernel_rfl, by kernel_rfl, rfl⟩ ?_
   refine vck hF id (fun _ hF => ⟨_, rfl, ?_⟩)
   refine vw64 ?_
   refine vck hF id (fun _ hF => ⟨_, rfl, ?_⟩)
   refine Dz.ret ?_
   cases hF
   exact finG [] [] rfl rfl ⟨⟨rfl, mls_same rfl⟩, ⟨rfl, mls_same rfl⟩, tv⟩ tv rfl
def s_MapSettled (a0 : MapState) : Option (Bool) :=
 (s_MapOk a0).bind (fun y1 => cond (!y1) (some false) (loopN (fun i2 (v5 : Unit) κ6 => (s_MapTarget a0 ((i2 : Nat) : Int)).bind (fun y7 => ix a0.Views ((i2 : Nat) : Int) (fun x8 => cond (decide (x8.A = y7.1)) (cond (decide (x8.B = y7.2)) (κ6 ()) (cond (decide (x8.A = y7.2)) (cond (!(decide (x8.B = y7.1))) (some false) (κ6 ())) (some false))) (cond (decide (x8.A = y7.2)) (cond (!(decide (x8.B = y7.1))) (some false) (κ6 ())) (some false))))) (fun (v5 : Unit) => loopN (fun i9 (v11 : Unit) κ12 => cond (!decide ((a0.Disks.getD i9 default).Frozen = 0)) (some false) (κ12 ())) (fun (v11 : Unit) => some true) a0.Disks.length 0 ()) 3 0 ()))
theorem s_MapSettled_c {t0_3 t0_4 t0_5 : Bool} {a0 : MapState} {r : Bool} (hF : s_MapSettled a0 = some r) : Con Tryz.prog 51 [.val true [.u (cI a0.Slots), .u (cI a0.Servers), .u (cI a0.Next), .u (ul MapDisk.c 7 t0_3 a0.Disks), .u (ul MapView.c 3 t0_4 a0.Views), .u (ul MapDone.c 4 t0_5 a0.Done)]] [] (vbool r) [] := by
 refine Con.of_Dz tabOk Tryz.func51 rfl rfl rfl ?_
 delta s_MapSettled at hF
 refine Dz.seq (Dz.reg (Dz.seq (Dz.seq (Dz.reg ?_))))
 refine bdE hF (fun y1 hy1 hF => ?_)
 refine callG [] (s_MapOk_c hy1) ⟨mv rfl, tv⟩ tv rfl ?_
 refine Dz.ite rfl hF (fun _ hF => ?_) (fun _ hF => ?_)
 ·refine Dz.seq (Dz.reg (Dz.ret ?_))
  cases hF
  exact finG [] [] rfl rfl (mv rfl) tv rfl
 ·refine Dz.skip (Dz.seq (Dz.seq (Dz.reg (Dz.blk ?_))))
  refine Dz.cnt hF (fun i2 v5 => ([(1, .ptr 0 0), (3, vint .i64 ((i2 : Nat) : Int))], [.box 78 [.u (cI a0.Slots), .u (cI a0.Servers), .u (cI a0.Next), .u (ul MapDisk.c 7 t0_3 a0.Disks), .u (ul MapView.c 3 t0_4 a0.Views), .u (ul MapDone.c 4 t0_5 a0.Done)]])) (entG [0] ⟨mp rfl, mv rfl, tv⟩ ⟨⟨rfl, o_box rfl⟩, tv⟩ rfl) (fun v5 hF => ?_) (fun i2 v5 κ6 hi0i2 hi1i2 hF => ?_)
  ·refine Dz.seq (Dz.seq (Dz.reg ?_))
   refine Dz.ff (b := decide (((0 + 3 : Nat) : Int) < 3)) rfl (decide_eq_false (by omega)) ?_
   refine Dz.exit (Dz.seq (Dz.seq (Dz.reg (Dz.blk ?_))))
   refine Dz.cnt hF (fun i9 v11 => ([(1, .ptr 0 0), (7, vint .i64 ((i9 : Nat) : Int))], [.box 78 [.u (cI a0.Slots), .u (cI a0.Servers), .u (cI a0.Next), .u (ul MapDisk.c 7 t0_3 a0.Disks), .u (ul MapView.c 3 t0_4 a0.Views), .u (ul MapDone.c 4 t0_5 a0.Done)]])) (entG [0] ⟨mp rfl, mv rfl, tv⟩ ⟨⟨rfl, o_box rfl⟩, tv⟩ rfl) (fun v11 hF => ?_) (fun i9 v11 κ12 hi0i9 hi1i9 hF => ?_)
   ·refine Dz.seq (Dz.seq (Dz.reg ?_))
    intro hb14; replace hb14 : a0.Disks.length ≤ 140737488355328 := hb14
    refine Dz.ff (b := decide (((0 + a0.Disks.length : Nat) : Int) < ((a0.Disks.length : Nat) : Int))) rfl (decide_eq_false (by omega)) ?_
    refine Dz.exit (Dz.seq (Dz.reg (Dz.ret ?_)))
    cases hF
    exact finG [] [] rfl rfl (mv rfl) tv rfl
   ·refine Dz.seq (Dz.seq (Dz.reg ?_))
    intro hb13; replace hb13 : a0.Disks.length ≤ 140737488355328 := hb13
    refine Dz.tt (b := decide (((i9 : Nat) : Int) < ((a0.Disks.length : Nat) : Int))) rfl (decide_eq_true (by omega)) ?_
    refine Dz.skip (Dz.seq (Dz.blk (Dz.seq (Dz.reg ?_))))
    refine vge (n := ((i9 : Nat) : Int)) (hi := (a0.Disks.length : Int)) (by omega) (by omega) ?_
    refine Dz.ite rfl hF (fun _ hF => ?_) (fun _ hF => ?_)
    ·refine Dz.seq (Dz.reg (Dz.ret ?_))
     cases hF
     exact finG [] [] rfl rfl (mv rfl) tv rfl
    ·refine Dz.skip (Dz.reg ?_)
     refine vsucc (by omega) ?_
     exact ⟨(), entG [0] ⟨mp rfl, mv rfl, tv⟩ ⟨⟨rfl, o_box rfl⟩, tv⟩ rfl, hF⟩
  ·refine Dz.seq (Dz.seq (Dz.reg ?_))
   refine Dz.tt (b := decide (((i2 : Nat) : Int) < 3)) rfl (decide_eq_true (by omega)) ?_
   refine Dz.skip (Dz.seq (Dz.blk (Dz.seq (Dz.reg ?_))))
   refine bdE hF (fun y7 hy7 hF => ?_)
   refine callG [] (s_MapTarget_c hy7) ⟨mv rfl, mv rfl, tv⟩ tv rfl ?_
   refine Dz.seq (Dz.reg ?_)
   refine vix hF (fun _ _ hF => ?_)
   refine Dz.seq (Dz.reg ?_)
   refine vif hF (fun _ hF => ?_) (fun _ hF => ?_)
   ·refine vif hF (fun _ hF => ?_) (fun _ hF => ?_)
    ·refine Dz.ff (b := false) rfl rfl ?_
     refine Dz.skip (Dz.reg ?_)
     refine vsucc (by omega) ?_
     exact ⟨(), entG [0] ⟨mp rfl, mv rfl, tv⟩ ⟨⟨rfl, o_box rfl⟩, tv⟩ rfl, hF⟩
    ·refine vif hF (fun _ hF => ?_) (fun _ hF => ?_)
     ·refine Dz.ite rfl hF (fun _ hF => ?_) (fun _ hF => ?_)
      ·refine Dz.seq (Dz.reg (Dz.ret ?_))
       cases hF
       exact finG [] [] rfl rfl (mv rfl) tv rfl
      ·refine Dz.skip (Dz.reg ?_)
       refine vsucc (by omega) ?_
       exact ⟨(), entG [0] ⟨mp rfl, mv rfl, tv⟩ ⟨⟨rfl, o_box rfl⟩, tv⟩ rfl, hF⟩
     ·refine Dz.tt (b := true) rfl rfl ?_
      refine Dz.seq (Dz.reg (Dz.ret ?_))
      cases hF
      exact finG [] [] rfl rfl (mv rfl) tv rfl
   ·refine vif hF (fun _ hF => ?_) (fun _ hF => ?_)
    ·refine Dz.ite rfl hF (fun _ hF => ?_) (fun _ hF => ?_)
     ·refine Dz.seq (Dz.reg (Dz.ret ?_))
      cases hF
      exact finG [] [] rfl rfl (mv rfl) tv rfl
     ·refine Dz.skip (Dz.reg ?_)
      refine vsucc (by omega) ?_
      exact ⟨(), entG [0] ⟨mp rfl, mv rfl, tv⟩ ⟨⟨rfl, o_box rfl⟩, tv⟩ rfl, hF⟩
    ·refine Dz.tt (b := true) rfl rfl ?_
     refine Dz.seq (Dz.reg (Dz.ret ?_))
     cases hF
     exact finG [] [] rfl rfl (mv rfl) tv rfl
def s_l64Same (a0 : SrvCopy) (a1 : SrvCopy) : Option (Bool) :=
 cond (!decide (((a0.Pieces.length : Nat) : Int) = ((a1.Pieces.length : Nat) : Int))) (some false) (cond (!decide (((a0.Last.length : Nat) : Int) = ((a1.Last.length : Nat) : Int))) (some false) (loopN (fun i5 (v9 : Unit) κ10 => lt (a0.Pieces.getD i5 default) (fun x12 => ix a1.Pieces ((i5 : Nat) : Int) (fun x13 => cond (!decide (x12 = x13)) (some false) (κ10 ())))) (fun (v9 : Unit) => loopN (fun i15 (v19 : Unit) κ20 => lt (a0.Last.getD i15 default) (fun x22 => ix a1.Last ((i15 : Nat) : Int) (fun x23 => cond (!decide (x22 = x23)) (some false) (κ20 ())))) (fun (v19 : Unit) => some true) a0.Last.length 0 ()) a0.Pieces.length 0 ()))
theorem s_l64Same_c {t0_3 t0_4 t0_5 t1_3 t1_4 t1_5 : Bool} {a0 : SrvCopy} {a1 : SrvCopy} {r : Bool} (hF : s_l64Same a0 a1 = some r) : Con Tryz.prog 118 [.val true [.u (cI a0.Range), .u (cI a0.Valid), .u (cI a0.Asked), .u (ul BlkPiece.c 4 t0_3 a0.Pieces), .u (ul BlkLast.c 2 t0_4 a0.Last), .u (ul SrvBusy.c 6 t0_5 a0.Busy)], .val true [.u (cI a1.Range), .u (cI a1.Valid), .u (cI a1.Asked), .u (ul BlkPiece.c 4 t1_3 a1.Pieces), .u (ul BlkLast.c 2 t1_4 a1.Last), .u (ul SrvBusy.c 6 t1_5 a1.Busy)]] [] (vbool r) [] := by
 refine Con.of_Dz tabOk Tryz.func118 rfl rfl rfl ?_
 delta s_l64Same at hF
 refine Dz.seq (Dz.reg (Dz.seq (Dz.seq (Dz.reg ?_))))
 intro hb1; replace hb1 : a0.Pieces.length ≤ 140737488355328 := hb1
 intro hb2; replace hb2 : a1.Pieces.length ≤ 140737488355328 := hb2
 refine vif hF (fun _ hF => ?_) (fun _ hF => ?_)
 ·refine Dz.tt (b := true) rfl rfl ?_
  refine Dz.seq (Dz.reg (Dz.ret ?_))
  cases hF
  exact finG [] [] rfl rfl (mv rfl) tv rfl
 ·intro hb3; replace hb3 : a0.Last.length ≤ 140737488355328 := hb3
  intro hb4; replace hb4 : a1.Last.length ≤ 140737488355328 := hb4
  refine Dz.ite rfl hF (fun _ hF => ?_) (fun _ hF => ?_)
  ·refine Dz.seq (Dz.reg (Dz.ret ?_))
   cases hF
   exact finG [] [] rfl rfl (mv rfl) tv rfl
  ·refine Dz.skip (Dz.seq (Dz.seq (Dz.reg (Dz.blk ?_))))
   refine Dz.cnt hF (fun i5 v9 => ([(2, .ptr 0 0), (3, .ptr 1 0), (5, vint .i64 ((i5 : Nat) : Int))], [.box 92 [.u (cI a0.Range), .u (cI a0.Valid), .u (cI a0.Asked), .u (ul BlkPiece.c 4 t0_3 a0.Pieces), .u (ul BlkLast.c 2 t0_4 a0.Last), .u (ul SrvBusy.c 6 t0_5 a0.Busy)], .box 92 [.u (cI a1.Range), .u (cI a1.Valid), .u (cI a1.Asked), .u (ul BlkPiece.c 4 t1_3 a1.Pieces), .u (ul BlkLast.c 2 t1_4 a1.Last), .u (ul SrvBusy.c 6 t1_5 a1.Busy)]])) (entG [0, 1] ⟨mp rfl, mp rfl, mv rfl, tv⟩ ⟨⟨rfl, o_box rfl⟩, ⟨rfl, o_box rfl⟩, tv⟩ rfl) (fun v9 hF => ?_) (fun i5 v9 κ10 hi0i5 hi1i5 hF => ?_)
   ·refine Dz.seq (Dz.seq (Dz.reg ?_))
    intro hb14; replace hb14 : a0.Pieces.length ≤ 140737488355328 := hb14
    refine Dz.ff (b := decide (((0 + a0.Pieces.length : Nat) : Int) < ((a0.Pieces.length : Nat) : Int))) rfl (decide_eq_false (by omega)) ?_
    refine Dz.exit (Dz.seq (Dz.seq (Dz.reg (Dz.blk ?_))))
    refine Dz.cnt hF (fun i15 v19 => ([(2, .ptr 0 0), (3, .ptr 1 0), (6, vint .i64 ((i15 : Nat) : Int))], [.box 92 [.u (cI a0.Range), .u (cI a0.Valid), .u (cI a0.Asked), .u (ul BlkPiece.c 4 t0_3 a0.Pieces), .u (ul BlkLast.c 2 t0_4 a0.Last), .u (ul SrvBusy.c 6 t0_5 a0.Busy)], .box 92 [.u (cI a1.Range), .u (cI a1.Valid), .u (cI a1.Asked), .u (ul BlkPiece.c 4 t1_3 a1.Pieces), .u (ul BlkLast.c 2 t1_4 a1.Last), .u (ul SrvBusy.c 6 t1_5 a1.Busy)]])) (entG [0, 1] ⟨mp rfl, mp rfl, mv rfl, tv⟩ ⟨⟨rfl, o_box rfl⟩, ⟨rfl, o_box rfl⟩, tv⟩ rfl) (fun v19 hF => ?_) (fun i15 v19 κ20 hi0i15 hi1i15 hF => ?_)
    ·refine Dz.seq (Dz.seq (Dz.reg ?_))
     intro hb24; replace hb24 : a0.Last.length ≤ 140737488355328 := hb24
     refine Dz.ff (b := decide (((0 + a0.Last.length : Nat) : Int) < ((a0.Last.length : Nat) : Int))) rfl (decide_eq_false (by omega)) ?_
     refine Dz.exit (Dz.seq (Dz.reg (Dz.ret ?_)))
     cases hF
     exact finG [] [] rfl rfl (mv rfl) tv rfl
    ·refine Dz.seq (Dz.seq (Dz.reg ?_))
     intro hb21; replace hb21 : a0.Last.length ≤ 140737488355328 := hb21
     refine Dz.tt (b := decide (((i15 : Nat) : Int) < ((a0.Last.length : Nat) : Int))) rfl (decide_eq_true (by omega)) ?_
     refine Dz.skip (Dz.seq (Dz.blk (Dz.seq ?_)))
     refine Dz.drw 2 [⟨[50,53,54,55,56,57], [], 2, 2⟩, ⟨[50,53,54,55,56,57], [0], 2, 2⟩, ⟨[48,49,53,54,55,56,57], [], 2, 2⟩, ⟨[53,54,55,56,57], [], 2, 2⟩, ⟨[53,54,55,56,57], [], 2, 2⟩, ⟨[48,49,50,51,52,55], [], 2, 2⟩, ⟨[48,49,50,51,52,55], [1], 2, 2⟩, ⟨[48,49,50,51,52,53,54], [], 2, 2⟩, ⟨[48,49,50,51,52], [], 2, 2⟩, ⟨[48,49,50,51,52], [], 2, 2⟩, ⟨[], [], 2, 2⟩] ⟨by kernel_rfl, by kernel_rfl, rfl⟩ ?_
     refine vge (n := ((i15 : Nat) : Int)) (hi := (a0.Last.length : Int)) (by omega) (by omega) ?_
     have hF := ltE hF
     refine vix hF (fun _ _ hF => ?_)
     refine ⟨decide ((a0.Last.getD i15 default) = (a1.Last.getD i15 default)), BlkLast.eqd _ _, ?_⟩
     refine Dz.ite rfl hF (fun _ hF => ?_) (fun _ hF => ?_)
     ·refine Dz.seq (Dz.reg (Dz.ret ?_))
      cases hF
      exact finG [] [] rfl rfl (mv rfl) tv rfl
     ·refine Dz.skip (Dz.reg ?_)
      refine vsucc (by omega) ?_
      exact ⟨(), entG [0, 1] ⟨mp rfl, mp rfl, mv rfl, tv⟩ ⟨⟨rfl, o_box rfl⟩, ⟨rfl, o_box rfl⟩, tv⟩ rfl, hF⟩
   ·refine Dz.seq (Dz.seq (Dz.reg ?_))
    intro hb11; replace hb11 : a0.Pieces.length ≤ 140737488355328 := hb11
    refine Dz.tt (b := decide (((i5 : Nat) : Int) < ((a0.Pieces.length : Nat) : Int))) rfl (decide_eq_true (by omega)) ?_
    refine Dz.skip (Dz.seq (Dz.blk (Dz.seq ?_)))
    refine Dz.drw 2 [⟨[32,35,36,37,38,39], [], 2, 2⟩, ⟨[32,35,36,37,38,39], [0], 2, 2⟩, ⟨[30,31,35,36,37,38,39], [], 2, 2⟩, ⟨[35,36,37,38,39], [], 2, 2⟩, ⟨[35,36,37,38,39], [], 2, 2⟩, ⟨[30,31,32,33,34,37], [], 2, 2⟩, ⟨[30,31,32,33,34,37], [1], 2, 2⟩, ⟨[30,31,32,33,34,35,36], [], 2, 2⟩, ⟨[30,31,32,33,34], [], 2, 2⟩, ⟨[30,31,32,33,34], [], 2, 2⟩, ⟨[], [], 2, 2⟩] ⟨by kernel_rfl, by kernel_rfl, rfl⟩ ?_
    refine vge (n := ((i5 : Nat) : Int)) (hi := (a0.Pieces.length : Int)) (by omega) (by omega) ?_
    have hF := ltE hF
    refine vix hF (fun _ _ hF => ?_)
    refine ⟨decide ((a0.Pieces.getD i5 default) = (a1.Pieces.getD i5 default)), BlkPiece.eqd _ _, ?_⟩
    refine Dz.ite rfl hF (fun _ hF => ?_) (fun _ hF => ?_)
    ·refine Dz.seq (Dz.reg (Dz.ret ?_))
     cases hF
     exact finG [] [] rfl rfl (mv rfl) tv rfl
    ·refine Dz.skip (Dz.reg ?_)
     refine vsucc (by omega) ?_
     exact ⟨(), entG [0, 1] ⟨mp rfl, mp rfl, mv rfl, tv⟩ ⟨⟨rfl, o_box rfl⟩, ⟨rfl, o_box rfl⟩, tv⟩ rfl, hF⟩
def s_l64Kept (a0 : PanWorld) (a1 : MapState) (a2 : Int) : Option (Bool) :=
 (s_MapTarget a1 a2).bind (fun y1 => loopN (fun i2 (v10 : Unit) κ11 => ix a0.Servers ((i2 : Nat) : Int) (fun x12 => (s_l51At x12 a2).bind (fun y13 => jn (fun (v15 : Bool) => cond (!(v15 == (decide ((0 : Int) ≤ y13)))) (some false) (cond v15 (ix a0.Servers ((i2 : Nat) : Int) (fun x16 => (s_l51In x16 a1 a2).bind (fun y17 => cond (!y17) (some false) (ix a0.Servers ((i2 : Nat) : Int) (fun x18 => ix x18.Copies y13 (fun x19 => cond (decide ((0 : Int) < ((x19.Busy.length : Nat) : Int))) (some false) (κ11 ()))))))) (κ11 ()))) (fun j20 => cond (decide (((i2 : Nat) : Int) = y1.1)) (j20 true) (j20 (decide (((i2 : Nat) : Int) = y1.2))))))) (fun (v10 : Unit) => ix a0.Servers y1.1 (fun x21 => ix a0.Servers y1.1 (fun x22 => (s_l51At x22 a2).bind (fun y23 => ix x21.Copies y23 (fun x24 => ix a0.Servers y1.2 (fun x25 => ix a0.Servers y1.2 (fun x26 => (s_l51At x26 a2).bind (fun y27 => ix x25.Copies y27 (fun x28 => loopN (fun i29 (v32 : Unit) κ33 => (s_l31Disk a1 ((x24.Pieces.getD i29 default).Disk)).bind (fun y35 => cond (decide (y35 < 0)) (some false) (κ33 ()))) (fun (v32 : Unit) => (s_l64Same x24 x28).bind (fun y37 => some y37)) x24.Pieces.length 0 ()))))))))) 5 0 ())
theorem s_l64Kept_c {t0_1 t0_2 t0_3 t1_3 t1_4 t1_5 : Bool} {a0 : PanWorld} {a1 : MapState} {a2 : Int} {r : Bool} (hF : s_l64Kept a0 a1 a2 = some r) : Con Tryz.prog 52 [.val true [.u (cI a0.Time), .u (ul Server.c 36 t0_1 a0.Servers), .u (ul Word.c 26 t0_2 a0.Radio), .u (ul PanCall.c 12 t0_3 a0.Calls)], .val true [.u (cI a1.Slots), .u (cI a1.Servers), .u (cI a1.Next), .u (ul MapDisk.c 7 t1_3 a1.Disks), .u (ul MapView.c 3 t1_4 a1.Views), .u (ul MapDone.c 4 t1_5 a1.Done)], vint .i64 a2] [] (vbool r) [] := by
 refine Con.of_Dz tabOk Tryz.func52 rfl rfl rfl ?_
 delta s_l64Kept at hF
 refine Dz.seq (Dz.reg (Dz.seq (Dz.reg ?_)))
 refine bdE hF (fun y1 hy1 hF => ?_)
 refine callG [] (s_MapTarget_c hy1) ⟨mv rfl, mv rfl, tv⟩ tv rfl ?_
 refine Dz.seq (Dz.seq (Dz.reg (Dz.blk ?_)))
 refine Dz.cnt hF (fun i2 v10 => ([(2, vint .i64 a2), (3, .ptr 0 0), (4, .ptr 1 0), (7, vint .i64 y1.1), (8, vint .i64 y1.2), (9, vint .i64 ((i2 : Nat) : Int))], [.box 33 [.u (cI a0.Time), .u (ul Server.c 36 t0_1 a0.Servers), .u (ul Word.c 26 t0_2 a0.Radio), .u (ul PanCall.c 12 t0_3 a0.Calls)], .box 78 [.u (cI a1.Slots), .u (cI a1.Servers), .u (cI a1.Next), .u (ul MapDisk.c 7 t1_3 a1.Disks), .u (ul MapView.c 3 t1_4 a1.Views), .u (ul MapDone.c 4 t1_5 a1.Done)]])) (entG [0, 1] ⟨mv rfl, mp rfl, mp rfl, mv rfl, mv rfl, mv rfl, tv⟩ ⟨⟨rfl, o_box rfl⟩, ⟨rfl, o_box rfl⟩, tv⟩ rfl) (fun v10 hF => ?_) (fun i2 v10 κ11 hi0i2 hi1i2 hF => ?_)
 ·refine Dz.seq (Dz.seq (Dz.reg ?_))
  refine Dz.ff (b := decide (((0 + 5 : Nat) : Int) < 5)) rfl (decide_eq_false (by omega)) ?_
  refine Dz.exit (Dz.seq ?_)
  refine Dz.drw 2 [⟨[72,76,77,78,79,80,81,82,12], [], 2, 2⟩, ⟨[72,76,77,78,79,80,81,82,12], [0], 2, 2⟩, ⟨[70,71,76,77,78,79,80,81,82,12], [], 2, 2⟩, ⟨[76,77,78,79,80,81,82,12], [], 2, 2⟩, ⟨[76,77,78,79,80,81,82,12], [], 2, 2⟩, ⟨[76,77,78,79,80,81,82,12], [], 2, 2⟩, ⟨[70,71,72,73,74,75,78,81,12], [], 2, 2⟩, ⟨[70,71,72,73,74,75,78,81,12], [0], 2, 2⟩, ⟨[70,71,72,73,74,75,76,77,81,12], [], 2, 2⟩, ⟨[70,71,72,73,74,75,81,12], [], 2, 2⟩, ⟨[70,71,72,73,74,75,81,12], [], 2, 2⟩, ⟨[70,71,72,73,74,75,76,77,78,79,80,12], [], 2, 2⟩, ⟨[70,71,72,73,74,75,12], [], 2, 2⟩, ⟨[12], [], 2, 2⟩, ⟨[12], [], 2, 2⟩, ⟨[70,71,72,73,74,75,76,77,78,79,80,81,82,83,84], [], 2, 3⟩, ⟨[], [2], 3, 3⟩] ⟨by kernel_rfl, by kernel_rfl, rfl⟩ ?_
  refine vix hF (fun _ _ hF => ?_)
  refine vix hF (fun _ _ hF => ?_)
  refine bdE hF (fun y23 hy23 hF => ?_)
  refine callG [] (s_l51At_c hy23) ⟨mv rfl, mv rfl, tv⟩ tv rfl ?_
  refine vix hF (fun _ _ hF => ?_)
  refine Dz.seq ?_
  refine Dz.drw 3 [⟨[87,91,92,93,94,95,96,97,13], [], 3, 3⟩, ⟨[87,91,92,93,94,95,96,97,13], [0], 3, 3⟩, ⟨[85,86,91,92,93,94,95,96,97,13], [], 3, 3⟩, ⟨[91,92,93,94,95,96,97,13], [], 3, 3⟩, ⟨[91,92,93,94,95,96,97,13], [], 3, 3⟩, ⟨[91,92,93,94,95,96,97,13], [], 3, 3⟩, ⟨[85,86,87,88,89,90,93,96,13], [], 3, 3⟩, ⟨[85,86,87,88,89,90,93,96,13], [0], 3, 3⟩, ⟨[85,86,87,88,89,90,91,92,96,13], [], 3, 3⟩, ⟨[85,86,87,88,89,90,96,13], [], 3, 3⟩, ⟨[85,86,87,88,89,90,96,13], [], 3, 3⟩, ⟨[85,86,87,88,89,90,91,92,93,94,95,13], [], 3, 3⟩, ⟨[85,86,87,88,89,90,13], [], 3, 3⟩, ⟨[13], [], 3, 3⟩, ⟨[13], [], 3, 3⟩, ⟨[85,86,87,88,89,90,91,92,93,94,95,96,97,98,99], [], 3, 4⟩, ⟨[], [3], 4, 4⟩] ⟨by kernel_rfl, by kernel_rfl, rfl⟩ ?_
  refine vix hF (fun _ _ hF => ?_)
  refine vix hF (fun _ _ hF => ?_)
  refine bdE hF (fun y27 hy27 hF => ?_)
  refine callG [] (s_l51At_c hy27) ⟨mv rfl, mv rfl, tv⟩ tv rfl ?_
  refine vix hF (fun _ _ hF => ?_)
  refine Dz.seq (Dz.seq (Dz.reg (Dz.blk ?_)))
  refine Dz.cnt hF (fun i29 v32 => ([(4, .ptr 0 0), (12, .ptr 1 0), (13, .ptr 2 0), (14, vint .i64 ((i29 : Nat) : Int))], [.box 78 [.u (cI a1.Slots), .u (cI a1.Servers), .u (cI a1.Next), .u (ul MapDisk.c 7 t1_3 a1.Disks), .u (ul MapView.c 3 t1_4 a1.Views), .u (ul MapDone.c 4 t1_5 a1.Done)], .box 92 (SrvCopy.L ((a0.Servers.getD y1.1.toNat default).Copies.getD y23.toNat default)), .box 92 (SrvCopy.L ((a0.Servers.getD y1.2.toNat default).Copies.getD y27.toNat default))])) (entG [1, 2, 3] ⟨mp rfl, mp rfl, mp rfl, mv rfl, tv⟩ ⟨⟨rfl, o_box rfl⟩, ⟨rfl, o_box rfl⟩, ⟨rfl, o_box rfl⟩, tv⟩ rfl) (fun v32 hF => ?_) (fun i29 v32 κ33 hi0i29 hi1i29 hF => ?_)
  ·refine Dz.seq (Dz.seq (Dz.reg ?_))
   intro hb36; replace hb36 : ((a0.Servers.getD y1.1.toNat default).Copies.getD y23.toNat default).Pieces.length ≤ 140737488355328 := hb36
   refine Dz.ff (b := decide (((0 + ((a0.Servers.getD y1.1.toNat default).Copies.getD y23.toNat default).Pieces.length : Nat) : Int) < ((((a0.Servers.getD y1.1.toNat default).Copies.getD y23.toNat default).Pieces.length : Nat) : Int))) rfl (decide_eq_false (by omega)) ?_
   refine Dz.exit (Dz.seq (Dz.reg ?_))
   refine bdE hF (fun y37 hy37 hF => ?_)
   refine callG [] (s_l64Same_c hy37) ⟨mv rfl, mv rfl, tv⟩ tv rfl ?_
   refine Dz.ret ?_
   cases hF
   exact finG [] [] rfl rfl (mv rfl) tv rfl
  ·refine Dz.seq (Dz.seq (Dz.reg ?_))
   intro hb34; replace hb34 : ((a0.Servers.getD y1.1.toNat default).Copies.getD y23.toNat default).Pieces.length ≤ 140737488355328 := hb34
   refine Dz.tt (b := decide (((i29 : Nat) : Int) < ((((a0.Servers.getD y1.1.toNat default).Copies.getD y23.toNat default).Pieces.length : Nat) : Int))) rfl (decide_eq_true (by omega)) ?_
   refine Dz.skip (Dz.seq (Dz.blk (Dz.seq ?_)))
   refine Dz.drw 3 [⟨[108,109,110,111,112,113], [0], 3, 3⟩, ⟨[107,110], [], 3, 3⟩, ⟨[107,110], [1], 3, 3⟩, ⟨[107,108,109], [], 3, 3⟩, ⟨[107], [], 3, 3⟩, ⟨[107], [], 3, 3⟩, ⟨[107], [], 3, 3⟩, ⟨[], [], 3, 3⟩, ⟨[], [], 3, 3⟩] ⟨by kernel_rfl, by kernel_rfl, rfl⟩ ?_
   refine vge (n := ((i29 : Nat) : Int)) (hi := ((((a0.Servers.getD y1.1.toNat default).Copies.getD y23.toNat default).Pieces).length : Int)) (by omega) (by omega) ?_
   refine bdE hF (fun y35 hy35 hF => ?_)
   refine callG [] (s_l31Disk_c hy35) ⟨mv rfl, mv rfl, tv⟩ tv rfl ?_
   refine Dz.ite rfl hF (fun _ hF => ?_) (fun _ hF => ?_)
   ·refine Dz.seq (Dz.reg (Dz.ret ?_))
    cases hF
    exact finG [] [] rfl rfl (mv rfl) tv rfl
   ·refine Dz.skip (Dz.reg ?_)
    refine vsucc (by omega) ?_
    exact ⟨(), entG [0, 1, 2] ⟨mp rfl, mp rfl, mp rfl, mv rfl, tv⟩ ⟨⟨rfl, o_box rfl⟩, ⟨rfl, o_box rfl⟩, ⟨rfl, o_box rfl⟩, tv⟩ rfl, hF⟩
 ·refine Dz.seq (Dz.seq (Dz.reg ?_))
  refine Dz.tt (b := decide (((i2 : Nat) : Int) < 5)) rfl (decide_eq_true (by omega)) ?_
  refine Dz.skip (Dz.seq (Dz.blk (Dz.seq (Dz.reg ?_))))
  refine vix hF (fun _ _ hF => ?_)
  refine bdE hF (fun y13 hy13 hF => ?_)
  refine callG [] (s_l51At_c hy13) ⟨mv rfl, mv rfl, tv⟩ tv rfl ?_
  refine Dz.jn hF (fun v15 => ([(2, vint .i64 a2), (3, .ptr 0 0), (4, .ptr 1 0), (7, vint .i64 y1.1), (8, vint .i64 y1.2), (9, vint .i64 ((i2 : Nat) : Int)), (10, vint .i64 y13), (11, vbool v15)], [.box 33 [.u (cI a0.Time), .u (ul Server.c 36 t0_1 a0.Servers), .u (ul Word.c 26 t0_2 a0.Radio), .u (ul PanCall.c 12 t0_3 a0.Calls)], .box 78 [.u (cI a1.Slots), .u (cI a1.Servers), .u (cI a1.Next), .u (ul MapDisk.c 7 t1_3 a1.Disks), .u (ul MapView.c 3 t1_4 a1.Views), .u (ul MapDone.c 4 t1_5 a1.Done)]])) (fun v15 hF => ?_) (fun hF => ?_)
  ·refine Dz.seq (Dz.seq (Dz.reg ?_))
   refine Dz.ite rfl hF (fun _ hF => ?_) (fun _ hF => ?_)
   ·refine Dz.seq (Dz.reg (Dz.ret ?_))
    cases hF
    exact finG [] [] rfl rfl (mv rfl) tv rfl
   ·refine Dz.skip (Dz.seq ?_)
    refine Dz.drw 2 [⟨[], [], 2, 2⟩, ⟨[], [], 2, 2⟩, ⟨[48,51,52], [], 2, 2⟩, ⟨[48,51,52], [0], 2, 2⟩, ⟨[46,47,51,52], [], 2, 2⟩, ⟨[51,52], [], 2, 2⟩, ⟨[51,52], [], 2, 2⟩, ⟨[46,47,48,49,50,52], [1], 2, 2⟩, ⟨[46,47,48,49,50,51], [], 2, 2⟩, ⟨[], [], 2, 2⟩, ⟨[], [], 2, 2⟩, ⟨[], [], 2, 2⟩, ⟨[58,62], [], 2, 2⟩, ⟨[58,62], [0], 2, 2⟩, ⟨[56,57,62], [], 2, 2⟩, ⟨[62], [], 2, 2⟩, ⟨[62], [], 2, 2⟩, ⟨[62], [], 2, 2⟩, ⟨[56,57,58,59,60,61], [], 2, 2⟩, ⟨[], [], 2, 2⟩, ⟨[], [], 2, 2⟩, ⟨[], [], 2, 2⟩, ⟨[], [], 2, 2⟩, ⟨[], [], 2, 2⟩, ⟨[], [], 2, 2⟩, ⟨[], [], 2, 2⟩] ⟨by kernel_rfl, by kernel_rfl, rfl⟩ ?_
    refine vif hF (fun _ hF => ?_) (fun _ hF => ?_)
    ·refine vix hF (fun _ _ hF => ?_)
     refine bdE hF (fun y17 hy17 hF => ?_)
     refine callG [] (s_l51In_c hy17) ⟨mv rfl, mv rfl, mv rfl, tv⟩ tv rfl ?_
     refine vif hF (fun _ hF => ?_) (fun _ hF => ?_)
     ·refine Dz.tt (b := true) rfl rfl ?_
      refine Dz.seq (Dz.reg (Dz.ret ?_))
      cases hF
      exact finG [] [] rfl rfl (mv rfl) tv rfl
     ·refine vix hF (fun _ _ hF => ?_)
      refine vix hF (fun _ _ hF => ?_)
      refine Dz.ite rfl hF (fun _ hF => ?_) (fun _ hF => ?_)
      ·refine Dz.seq (Dz.reg (Dz.ret ?_))
       cases hF
       exact finG [] [] rfl rfl (mv rfl) tv rfl
      ·refine Dz.skip (Dz.reg ?_)
       refine vsucc (by omega) ?_
       exact ⟨(), entG [0, 1] ⟨mv rfl, mp rfl, mp rfl, mv rfl, mv rfl, mv rfl, tv⟩ ⟨⟨rfl, o_box rfl⟩, ⟨rfl, o_box rfl⟩, tv⟩ rfl, hF⟩
    ·refine Dz.ff (b := false) rfl rfl ?_
     refine Dz.skip (Dz.reg ?_)
     refine vsucc (by omega) ?_
     exact ⟨(), entG [0, 1] ⟨mv rfl, mp rfl, mp rfl, mv rfl, mv rfl, mv rfl, tv⟩ ⟨⟨rfl, o_box rfl⟩, ⟨rfl, o_box rfl⟩, tv⟩ rfl, hF⟩
  ·refine Dz.reg ?_
   refine vif hF (fun _ hF => ?_) (fun _ hF => ?_)
   ·exact ⟨true, entG [0, 1] ⟨mv rfl, mp rfl, mp rfl, mv rfl, mv rfl, mv rfl, mv rfl, mv rfl, tv⟩ ⟨⟨rfl, o_box rfl⟩, ⟨rfl, o_box rfl⟩, tv⟩ rfl, hF⟩
   ·exact ⟨(decide (((i2 : Nat) : Int) = y1.2)), entG [0, 1] ⟨mv rfl, mp rfl, mp rfl, mv rfl, mv rfl, mv rfl, mv rfl, mv rfl, tv⟩ ⟨⟨rfl, o_box rfl⟩, ⟨rfl, o_box rfl⟩, tv⟩ rfl, hF⟩
def s_PanWhole (a0 : PanWorld) : Option (Bool) :=
 (s_PanOk a0).bind (fun y1 => cond (!y1) (some false) ((s_l64Logs a0).bind (fun y2 => cond (!y2) (some false) ((s_l64Longest a0).bind (fun y3 => (s_MapSettled y3).bind (fun y4 => cond (!y4) (some false) (cond (decide ((0 : Int) < ((a0.Radio.length : Nat) : Int))) (some false) (loopN (fun i6 (v11 : Unit) κ12 => ix a0.Servers ((i6 : Nat) : Int) (fun x13 => cond (!x13.Up) (some false) (cond (!decide (((x13.Log.length : Nat) : Int) = y3.Slots)) (some false) (cond (decide ((0 : Int) < ((x13.Wants.length : Nat) : Int))) (some false) (cond (decide ((0 : Int) < ((x13.Doing.length : Nat) : Int))) (some false) (κ12 ())))))) (fun (v11 : Unit) => loopN (fun i17 (v19 : Unit) κ20 => (s_l64Kept a0 y3 ((i17 : Nat) : Int)).bind (fun y21 => cond (!y21) (some false) (κ20 ()))) (fun (v19 : Unit) => some true) 3 0 ()) 5 0 ()))))))))
theorem s_PanWhole_c {t0_1 t0_2 t0_3 : Bool} {a0 : PanWorld} {r : Bool} (hF : s_PanWhole a0 = some r) : Con Tryz.prog 13 [.val true [.u (cI a0.Time), .u (ul Server.c 36 t0_1 a0.Servers), .u (ul Word.c 26 t0_2 a0.Radio), .u (ul PanCall.c 12 t0_3 a0.Calls)]] [] (vbool r) [] := by
 refine Con.of_Dz tabOk Tryz.func13 rfl rfl rfl ?_
 delta s_PanWhole at hF
 refine Dz.seq (Dz.reg (Dz.seq (Dz.seq (Dz.reg ?_))))
 refine bdE hF (fun y1 hy1 hF => ?_)
 refine callG [] (s_PanOk_c hy1) ⟨mv rfl, tv⟩ tv rfl ?_
 refine vif hF (fun _ hF => ?_) (fun _ hF => ?_)
 ·refine Dz.tt (b := true) rfl rfl ?_
  refine Dz.seq (Dz.reg (Dz.ret ?_))
  cases hF
  exact finG [] [] rfl rfl (mv rfl) tv rfl
 ·refine bdE hF (fun y2 hy2 hF => ?_)
  refine callG [] (s_l64Logs_c hy2) ⟨mv rfl, tv⟩ tv rfl ?_
  refine Dz.ite rfl hF (fun _ hF => ?_) (fun _ hF => ?_)
  ·refine Dz.seq (Dz.reg (Dz.ret ?_))
   cases hF
   exact finG [] [] rfl rfl (mv rfl) tv rfl
  ·refine Dz.skip (Dz.seq (Dz.reg ?_))
   refine bdE hF (fun y3 hy3 hF => ?_)
   refine callG [] (s_l64Longest_c hy3) ⟨mv rfl, tv⟩ tv rfl ?_
   refine Dz.seq (Dz.seq (Dz.reg ?_))
   refine bdE hF (fun y4 hy4 hF => ?_)
   refine callL [] (s_MapSettled_c hy4) ⟨⟨rfl, lr, lr, lr, lr, ⟨rfl, rfl, lr⟩, lr, tv⟩, tv⟩ tv rfl ⟨⟨tv, tv⟩, tv⟩ ?_
   refine vif hF (fun _ hF => ?_) (fun _ hF => ?_)
   ·refine Dz.tt (b := true) rfl rfl ?_
    refine Dz.seq (Dz.reg (Dz.ret ?_))
    cases hF
    exact finG [] [] rfl rfl (mv rfl) tv rfl
   ·intro hb5; replace hb5 : a0.Radio.length ≤ 140737488355328 := hb5
    refine Dz.ite rfl hF (fun _ hF => ?_) (fun _ hF => ?_)
    ·refine Dz.seq (Dz.reg (Dz.ret ?_))
     cases hF
     exact finG [] [] rfl rfl (mv rfl) tv rfl
    ·refine Dz.skip (Dz.seq (Dz.seq (Dz.reg (Dz.blk ?_))))
     refine Dz.cnt hF (fun i6 v11 => ([(1, .ptr 0 0), (3, .ptr 1 0), (4, vint .i64 ((i6 : Nat) : Int))], [.box 33 [.u (cI a0.Time), .u (ul Server.c 36 t0_1 a0.Servers), .u (ul Word.c 26 t0_2 a0.Radio), .u (ul PanCall.c 12 t0_3 a0.Calls)], .box 78 [.u (cI y3.Slots), .u (cI y3.Servers), .u (cI y3.Next), .u (ul MapDisk.c 7 false y3.Disks), .row 2, .u (ul MapDone.c 4 false y3.Done)], .row 87 y3.Views.length 3 (gl MapView.c y3.Views)])) (entG [0, 2, 1] ⟨mp rfl, mp rfl, mv rfl, tv⟩ ⟨⟨rfl, o_box rfl⟩, ⟨rfl, ⟨rfl, lr, lr, lr, lr, rfl, lr, tv⟩⟩, ⟨rfl, o_row⟩, tv⟩ rfl) (fun v11 hF => ?_) (fun i6 v11 κ12 hi0i6 hi1i6 hF => ?_)
     ·refine Dz.seq (Dz.seq (Dz.reg ?_))
      refine Dz.ff (b := decide (((0 + 5 : Nat) : Int) < 5)) rfl (decide_eq_false (by omega)) ?_
      refine Dz.exit (Dz.seq (Dz.seq (Dz.reg (Dz.blk ?_))))
      refine Dz.cnt hF (fun i17 v19 => ([(1, .ptr 0 0), (3, .ptr 1 0), (6, vint .i64 ((i17 : Nat) : Int))], [.box 33 [.u (cI a0.Time), .u (ul Server.c 36 t0_1 a0.Servers), .u (ul Word.c 26 t0_2 a0.Radio), .u (ul PanCall.c 12 t0_3 a0.Calls)], .box 78 [.u (cI y3.Slots), .u (cI y3.Servers), .u (cI y3.Next), .u (ul MapDisk.c 7 false y3.Disks), .row 2, .u (ul MapDone.c 4 false y3.Done)], .row 87 y3.Views.length 3 (gl MapView.c y3.Views)])) (entG [0, 1, 2] ⟨mp rfl, mp rfl, mv rfl, tv⟩ ⟨⟨rfl, o_box rfl⟩, ⟨rfl, ⟨rfl, lr, lr, lr, lr, rfl, lr, tv⟩⟩, ⟨rfl, o_row⟩, tv⟩ rfl) (fun v19 hF => ?_) (fun i17 v19 κ20 hi0i17 hi1i17 hF => ?_)
      ·refine Dz.seq (Dz.seq (Dz.reg ?_))
       refine Dz.ff (b := decide (((0 + 3 : Nat) : Int) < 3)) rfl (decide_eq_false (by omega)) ?_
       refine Dz.exit (Dz.seq (Dz.reg (Dz.ret ?_)))
       cases hF
       exact finG [] [] rfl rfl (mv rfl) tv rfl
      ·refine Dz.seq (Dz.seq (Dz.reg ?_))
       refine Dz.tt (b := decide (((i17 : Nat) : Int) < 3)) rfl (decide_eq_true (by omega)) ?_
       refine Dz.skip (Dz.seq (Dz.blk (Dz.seq (Dz.reg ?_))))
       refine bdE hF (fun y21 hy21 hF => ?_)
       refine callL [] (s_l64Kept_c hy21) ⟨mv rfl, ⟨rfl, lr, lr, lr, lr, ⟨rfl, rfl, lr⟩, lr, tv⟩, mv rfl, tv⟩ tv rfl ⟨⟨tv, tv⟩, tv⟩ ?_
       refine Dz.ite rfl hF (fun _ hF => ?_) (fun _ hF => ?_)
       ·refine Dz.seq (Dz.reg (Dz.ret ?_))
        cases hF
        exact finG [] [] rfl rfl (mv rfl) tv rfl
       ·refine Dz.skip (Dz.reg ?_)
        refine vsucc (by omega) ?_
        exact ⟨(), entG [0, 1, 2] ⟨mp rfl, mp rfl, mv rfl, tv⟩ ⟨⟨rfl, o_box rfl⟩, ⟨rfl, ⟨rfl, lr, lr, lr, lr, rfl, lr, tv⟩⟩, ⟨rfl, o_row⟩, tv⟩ rfl, hF⟩
     ·refine Dz.seq (Dz.seq (Dz.reg ?_))
      refine Dz.tt (b := decide (((i6 : Nat) : Int) < 5)) rfl (decide_eq_true (by omega)) ?_
      refine Dz.skip (Dz.seq (Dz.blk (Dz.seq (Dz.reg ?_))))
      refine vix hF (fun _ _ hF => ?_)
      refine Dz.seq (Dz.reg ?_)
      refine vif hF (fun _ hF => ?_) (fun _ hF => ?_)
      ·refine Dz.tt (b := true) rfl rfl ?_
       refine Dz.seq (Dz.reg (Dz.ret ?_))
       cases hF
       exact finG [] [] rfl rfl (mv rfl) tv rfl
      ·intro hb14; replace hb14 : (a0.Servers.getD i6 default).Log.length ≤ 140737488355328 := hb14
       refine vif hF (fun _ hF => ?_) (fun _ hF => ?_)
       ·refine Dz.tt (b := true) rfl rfl ?_
        refine Dz.seq (Dz.reg (Dz.ret ?_))
        cases hF
        exact finG [] [] rfl rfl (mv rfl) tv rfl
       ·intro hb15; replace hb15 : (a0.Servers.getD i6 default).Wants.length ≤ 140737488355328 := hb15
        refine vif hF (fun _ hF => ?_) (fun _ hF => ?_)
        ·refine Dz.tt (b := true) rfl rfl ?_
         refine Dz.seq (Dz.reg (Dz.ret ?_))
         cases hF
         exact finG [] [] rfl rfl (mv rfl) tv rfl
        ·intro hb16; replace hb16 : (a0.Servers.getD i6 default).Doing.length ≤ 140737488355328 := hb16
         refine Dz.ite rfl hF (fun _ hF => ?_) (fun _ hF => ?_)
         ·refine Dz.seq (Dz.reg (Dz.ret ?_))
          cases hF
          exact finG [] [] rfl rfl (mv rfl) tv rfl
         ·refine Dz.skip (Dz.reg ?_)
          refine vsucc (by omega) ?_
          exact ⟨(), entG [0, 1, 2] ⟨mp rfl, mp rfl, mv rfl, tv⟩ ⟨⟨rfl, o_box rfl⟩, ⟨rfl, ⟨rfl, lr, lr, lr, lr, rfl, lr, tv⟩⟩, ⟨rfl, o_row⟩, tv⟩ rfl, hF⟩
def i_frozenOk (a0 : MapDisk) : Option (Bool) :=
 cond (decide (a0.Frozen = 0)) (cond (decide (a0.Client = 0)) (cond (decide (a0.Call = 0)) (some (decide (((a0.Acks.length : Nat) : Int) = 0))) (some false)) (some false)) (loopN (fun i3 (v6 : Unit) κ7 => (i_isRange (a0.Acks.getD i3 default)).bind (fun y8 => cond (!y8) (some false) (ck (0 ≤ ((i3 : Nat) : Int) ∧ ((i3 : Nat) : Int) ≤ (a0.Acks.length : Int)) ((i_hasNumber (a0.Acks.take i3) (a0.Acks.getD i3 default)).bind (fun y9 => cond y9 (some false) (κ7 ())))))) (fun (v6 : Unit) => (i_in a0.Frozen 1 2).bind (fun y10 => cond y10 ((i_isClient a0.Client).bind (fun y11 => cond y11 ((i_in a0.Call 1 99999).bind (fun y12 => cond y12 (some (decide (((a0.Acks.length : Nat) : Int) < 3))) (some false))) (some false))) (some false))) a0.Acks.length 0 ())
theorem i_frozenOk_c {t0_6 : Bool} {a0 : MapDisk} {r : Bool} (hF : i_frozenOk a0 = some r) : Con Tryz.prog 243 [.val true [.u (cI a0.Id), .u (cI a0.Size), .u (cI a0.Epoch), .u (cI a0.Frozen), .u (cI a0.Client), .u (cI a0.Call), .u (ul cInt 1 t0_6 a0.Acks)]] [] (vbool r) [] := by
 refine Con.of_Dz tabOk Tryz.func243 rfl rfl rfl ?_
 delta i_frozenOk at hF
 refine Dz.seq (Dz.reg (Dz.seq (Dz.seq (Dz.reg ?_))))
 refine Dz.ite rfl hF (fun _ hF => ?_) (fun _ hF => ?_)
 ·refine Dz.seq (Dz.reg ?_)
  refine vif hF (fun _ hF => ?_) (fun _ hF => ?_)
  ·refine vif hF (fun _ hF => ?_) (fun _ hF => ?_)
   ·intro hb1; replace hb1 : a0.Acks.length ≤ 140737488355328 := hb1
    refine Dz.ret ?_
    cases hF
    exact finG [] [] rfl rfl (mv rfl) tv rfl
   ·refine Dz.ret ?_
    cases hF
    exact finG [] [] rfl rfl (mv rfl) tv rfl
  ·refine Dz.ret ?_
   cases hF
   exact finG [] [] rfl rfl (mv rfl) tv rfl
 ·refine Dz.skip (Dz.seq (Dz.seq (Dz.reg ?_)))
  intro hb2; replace hb2 : a0.Acks.length ≤ 140737488355328 := hb2
  refine Dz.blk ?_
  refine Dz.cnt hF (fun i3 v6 => ([(1, .ptr 0 0), (23, .val false [.u (ul cInt 1 t0_6 a0.Acks)]), (24, vint .i64 ((a0.Acks.length : Nat) : Int)), (25, vint .i64 ((i3 : Nat) : Int))], [.box 176 [.u (cI a0.Id), .u (cI a0.Size), .u (cI a0.Epoch), .u (cI a0.Frozen), .u (cI a0.Client), .u (cI a0.Call), .u (ul cInt 1 t0_6 a0.Acks)]])) (entG [0] ⟨mp rfl, mv rfl, mv rfl, mv rfl, tv⟩ ⟨⟨rfl, o_box rfl⟩, tv⟩ rfl) (fun v6 hF => ?_) (fun i3 v6 κ7 hi0i3 hi1i3 hF => ?_)
  ·refine Dz.seq (Dz.reg (Dz.seq ?_))
   refine Dz.ff (b := decide (((0 + a0.Acks.length : Nat) : Int) < ((a0.Acks.length : Nat) : Int))) rfl (decide_eq_false (by omega)) ?_
   refine Dz.exit (Dz.seq (Dz.reg ?_))
   refine bdE hF (fun y10 hy10 hF => ?_)
   refine callG [] (i_in_c hy10) ⟨mv rfl, mv rfl, mv rfl, tv⟩ tv rfl ?_
   refine vif hF (fun _ hF => ?_) (fun _ hF => ?_)
   ·refine bdE hF (fun y11 hy11 hF => ?_)
    refine callG [] (i_isClient_c hy11) ⟨mv rfl, tv⟩ tv rfl ?_
    refine vif hF (fun _ hF => ?_) (fun _ hF => ?_)
    ·refine bdE hF (fun y12 hy12 hF => ?_)
     refine callG [] (i_in_c hy12) ⟨mv rfl, mv rfl, mv rfl, tv⟩ tv rfl ?_
     refine vif hF (fun _ hF => ?_) (fun _ hF => ?_)
     ·intro hb13; replace hb13 : a0.Acks.length ≤ 140737488355328 := hb13
      refine Dz.ret ?_
      cases hF
      exact finG [] [] rfl rfl (mv rfl) tv rfl
     ·refine Dz.ret ?_
      cases hF
      exact finG [] [] rfl rfl (mv rfl) tv rfl
    ·refine Dz.ret ?_
     cases hF
     exact finG [] [] rfl rfl (mv rfl) tv rfl
   ·refine Dz.ret ?_
    cases hF
    exact finG [] [] rfl rfl (mv rfl) tv rfl
  ·refine Dz.seq (Dz.reg (Dz.seq ?_))
   refine Dz.tt (b := decide (((i3 : Nat) : Int) < ((a0.Acks.length : Nat) : Int))) rfl (decide_eq_true (by omega)) ?_
   refine Dz.skip (Dz.seq (Dz.blk (Dz.seq (Dz.reg ?_))))
   refine vge (n := ((i3 : Nat) : Int)) (hi := (a0.Acks.length : Int)) (by omega) (by omega) ?_
   refine Dz.seq (Dz.reg ?_)
   refine bdE hF (fun y8 hy8 hF => ?_)
   refine callG [] (i_isRange_c hy8) ⟨mv rfl, tv⟩ tv rfl ?_
   refine vif hF (fun _ hF => ?_) (fun _ hF => ?_)
   ·refine Dz.tt (b := true) rfl rfl ?_
    refine Dz.seq (Dz.reg (Dz.ret ?_))
    cases hF
    exact finG [] [] rfl rfl (mv rfl) tv rfl
   ·refine vck hF id (fun _ hF => ?_)
    refine bdE hF (fun y9 hy9 hF => ?_)
    refine callG [] (i_hasNumber_c hy9) ⟨⟨rfl, LeU.cut (by simp <;> omega) (EqG.take _), tv⟩, mv rfl, tv⟩ tv rfl ?_
    refine Dz.slotLe 37 (ul cInt 1 t0_6 (a0.Acks.take i3)) rfl (LeU.cut (by simp <;> omega) (EqG.take _)) ?_
    refine Dz.ite rfl hF (fun _ hF => ?_) (fun _ hF => ?_)
    ·refine Dz.seq (Dz.reg (Dz.ret ?_))
     cases hF
     exact finG [] [] rfl rfl (mv rfl) tv rfl
    ·refine Dz.skip (Dz.reg ?_)
     refine vsucc (by omega) ?_
     exact ⟨(), entG [0] ⟨mp rfl, mv rfl, mv rfl, mv rfl, tv⟩ ⟨⟨rfl, o_box rfl⟩, tv⟩ rfl, hF⟩
def i_disksOk (a0 : Int) (a1 : Int) (a2 : (List MapDisk)) : Option (Bool) :=
 (i_in a0 3 5).bind (fun y1 => cond (!y1) (some false) ((i_in a1 1 5).bind (fun y2 => cond (!y2) (some false) (cond (decide ((4 : Int) < ((a2.length : Nat) : Int))) (some false) (loopN (fun i5 (v15 : Unit) κ16 => lt (a2.getD i5 default) (fun x17 => (i_in x17.Id 1 (w64 (a1 - 1))).bind (fun y18 => cond (!y18) (some false) (cond (decide ((0 : Int) < ((i5 : Nat) : Int))) (ix a2 (((i5 : Nat) : Int) - 1) (fun x19 => cond (decide (x17.Id ≤ x19.Id)) (some false) ((i_in x17.Size 1 8).bind (fun y20 => cond (!y20) (some false) ((i_in x17.Epoch 1 99999).bind (fun y21 => cond (!y21) (some false) ((i_frozenOk x17).bind (fun y22 => cond (!y22) (some false) (κ16 ()))))))))) ((i_in x17.Size 1 8).bind (fun y23 => cond (!y23) (some false) ((i_in x17.Epoch 1 99999).bind (fun y24 => cond (!y24) (some false) ((i_frozenOk x17).bind (fun y25 => cond (!y25) (some false) (κ16 ()))))))))))) (fun (v15 : Unit) => some true) a2.length 0 ())))))
theorem i_disksOk_c {t2_0 : Bool} {a0 : Int} {a1 : Int} {a2 : (List MapDisk)} {r : Bool} (hF : i_disksOk a0 a1 a2 = some r) : Con Tryz.prog 196 [vint .i64 a0, vint .i64 a1, .val false [.u (ul MapDisk.c 7 t2_0 a2)]] [] (vbool r) [] := by
 refine Con.of_Dz tabOk Tryz.func196 rfl rfl rfl ?_
 delta i_disksOk at hF
 refine Dz.seq (Dz.reg (Dz.seq (Dz.seq (Dz.reg ?_))))
 refine bdE hF (fun y1 hy1 hF => ?_)
 refine callG [] (i_in_c hy1) ⟨mv rfl, mv rfl, mv rfl, tv⟩ tv rfl ?_
 refine vif hF (fun _ hF => ?_) (fun _ hF => ?_)
 ·refine Dz.tt (b := true) rfl rfl ?_
  refine Dz.seq (Dz.reg (Dz.ret ?_))
  cases hF
  exact finG [] [] rfl rfl (mv rfl) tv rfl
 ·refine bdE hF (fun y2 hy2 hF => ?_)
  refine callG [] (i_in_c hy2) ⟨mv rfl, mv rfl, mv rfl, tv⟩ tv rfl ?_
  refine vif hF (fun _ hF => ?_) (fun _ hF => ?_)
  ·refine Dz.tt (b := true) rfl rfl ?_
   refine Dz.seq (Dz.reg (Dz.ret ?_))
   cases hF
   exact finG [] [] rfl rfl (mv rfl) tv rfl
  ·intro hb3; replace hb3 : a2.length ≤ 140737488355328 := hb3
   refine Dz.ite rfl hF (fun _ hF => ?_) (fun _ hF => ?_)
   ·refine Dz.seq (Dz.reg (Dz.ret ?_))
    cases hF
    exact finG [] [] rfl rfl (mv rfl) tv rfl
   ·refine Dz.skip (Dz.seq (Dz.seq (Dz.reg ?_)))
    intro hb4; replace hb4 : a2.length ≤ 140737488355328 := hb4
    refine Dz.blk ?_
    refine Dz.cnt hF (fun i5 v15 => ([(1, vint .i64 a1), (2, .val false [.u (ul MapDisk.c 7 t2_0 a2)]), (22, .val false [.u (ul MapDisk.c 7 t2_0 a2)]), (23, vint .i64 ((a2.length : Nat) : Int)), (24, vint .i64 ((i5 : Nat) : Int))], [])) (entG [] ⟨mv rfl, mv rfl, mv rfl, mv rfl, mv rfl, tv⟩ tv rfl) (fun v15 hF => ?_) (fun i5 v15 κ16 hi0i5 hi1i5 hF => ?_)
    ·refine Dz.seq (Dz.reg (Dz.seq ?_))
     refine Dz.ff (b := decide (((0 + a2.length : Nat) : Int) < ((a2.length : Nat) : Int))) rfl (decide_eq_false (by omega)) ?_
     refine Dz.exit (Dz.seq (Dz.reg (Dz.ret ?_)))
     cases hF
     exact finG [] [] rfl rfl (mv rfl) tv rfl
    ·refine Dz.seq (Dz.reg (Dz.seq ?_))
     refine Dz.tt (b := decide (((i5 : Nat) : Int) < ((a2.length : Nat) : Int))) rfl (decide_eq_true (by omega)) ?_
     refine Dz.skip (Dz.seq (Dz.blk (Dz.seq (Dz.reg ?_))))
     refine vge (n := ((i5 : Nat) : Int)) (hi := (a2.length : Int)) (by omega) (by omega) ?_
     have hF := ltE hF
     refine Dz.seq ?_
     refine Dz.drw 1 [⟨[31,32], [], 1, 1⟩, ⟨[31,32], [0], 1, 1⟩, ⟨[29,30], [], 1, 1⟩, ⟨[29,30], [], 1, 1⟩, ⟨[], [], 1, 1⟩, ⟨[], [], 1, 1⟩, ⟨[], [], 1, 1⟩, ⟨[], [], 1, 1⟩, ⟨[], [], 1, 1⟩, ⟨[], [], 1, 1⟩, ⟨[40,41,45,46], [], 1, 1⟩, ⟨[39,45,46], [], 1, 1⟩, ⟨[39,45,46], [], 1, 1⟩, ⟨[45,46], [], 1, 1⟩, ⟨[45,46], [], 1, 1⟩, ⟨[45,46], [], 1, 1⟩, ⟨[39,40,41,42,43,44], [], 1, 1⟩, ⟨[39,40,41,42,43,44], [0], 1, 1⟩, ⟨[], [], 1, 1⟩, ⟨[], [], 1, 1⟩, ⟨[], [], 1, 1⟩, ⟨[], [], 1, 1⟩, ⟨[], [], 1, 1⟩, ⟨[], [0], 1, 1⟩, ⟨[], [], 1, 1⟩, ⟨[], [], 1, 1⟩, ⟨[], [], 1, 1⟩, ⟨[], [], 1, 1⟩, ⟨[], [], 1, 1⟩, ⟨[], [0], 1, 1⟩, ⟨[], [], 1, 1⟩, ⟨[], [], 1, 1⟩, ⟨[], [], 1, 1⟩, ⟨[], [], 1, 1⟩, ⟨[], [0], 1, 1⟩, ⟨[], [], 1, 1⟩, ⟨[], [], 1, 1⟩, ⟨[], [], 1, 1⟩] ⟨by kernel_rfl, by kernel_rfl, rfl⟩ ?_
     refine vw64 ?_
     refine bdE hF (fun y18 hy18 hF => ?_)
     refine callG [] (i_in_c hy18) ⟨mv rfl, mv rfl, mv rfl, tv⟩ tv rfl ?_
     refine vif hF (fun _ hF => ?_) (fun _ hF => ?_)
     ·refine Dz.tt (b := true) rfl rfl ?_
      refine Dz.seq (Dz.reg (Dz.ret ?_))
      cases hF
      exact finG [] [] rfl rfl (mv rfl) tv rfl
     ·refine vif hF (fun _ hF => ?_) (fun _ hF => ?_)
      ·refine ⟨(((i5 : Nat) : Int) - 1), wrap64 (by omega) (by omega), ?_⟩
       refine vix hF (fun _ _ hF => ?_)
       refine vif hF (fun _ hF => ?_) (fun _ hF => ?_)
       ·refine Dz.tt (b := true) rfl rfl ?_
        refine Dz.seq (Dz.reg (Dz.ret ?_))
        cases hF
        exact finG [] [] rfl rfl (mv rfl) tv rfl
       ·refine bdE hF (fun y20 hy20 hF => ?_)
        refine callG [] (i_in_c hy20) ⟨mv rfl, mv rfl, mv rfl, tv⟩ tv rfl ?_
        refine vif hF (fun _ hF => ?_) (fun _ hF => ?_)
        ·refine Dz.tt (b := true) rfl rfl ?_
         refine Dz.seq (Dz.reg (Dz.ret ?_))
         cases hF
         exact finG [] [] rfl rfl (mv rfl) tv rfl
        ·refine bdE hF (fun y21 hy21 hF => ?_)
         refine callG [] (i_in_c hy21) ⟨mv rfl, mv rfl, mv rfl, tv⟩ tv rfl ?_
         refine vif hF (fun _ hF => ?_) (fun _ hF => ?_)
         ·refine Dz.tt (b := true) rfl rfl ?_
          refine Dz.seq (Dz.reg (Dz.ret ?_))
          cases hF
          exact finG [] [] rfl rfl (mv rfl) tv rfl
         ·refine bdE hF (fun y22 hy22 hF => ?_)
          refine callG [] (i_frozenOk_c hy22) ⟨mv rfl, tv⟩ tv rfl ?_
          refine Dz.ite rfl hF (fun _ hF => ?_) (fun _ hF => ?_)
          ·refine Dz.seq (Dz.reg (Dz.ret ?_))
           cases hF
           exact finG [] [] rfl rfl (mv rfl) tv rfl
          ·refine Dz.skip (Dz.reg ?_)
           refine vsucc (by omega) ?_
           exact ⟨(), entG [] ⟨mv rfl, mv rfl, mv rfl, mv rfl, mv rfl, tv⟩ tv rfl, hF⟩
      ·refine bdE hF (fun y23 hy23 hF => ?_)
       refine callG [] (i_in_c hy23) ⟨mv rfl, mv rfl, mv rfl, tv⟩ tv rfl ?_
       refine vif hF (fun _ hF => ?_) (fun _ hF => ?_)
       ·refine Dz.tt (b := true) rfl rfl ?_
        refine Dz.seq (Dz.reg (Dz.ret ?_))
        cases hF
        exact finG [] [] rfl rfl (mv rfl) tv rfl
       ·refine bdE hF (fun y24 hy24 hF => ?_)
        refine callG [] (i_in_c hy24) ⟨mv rfl, mv rfl, mv rfl, tv⟩ tv rfl ?_
        refine vif hF (fun _ hF => ?_) (fun _ hF => ?_)
        ·refine Dz.tt (b := true) rfl rfl ?_
         refine Dz.seq (Dz.reg (Dz.ret ?_))
         cases hF
         exact finG [] [] rfl rfl (mv rfl) tv rfl
        ·refine bdE hF (fun y25 hy25 hF => ?_)
         refine callG [] (i_frozenOk_c hy25) ⟨mv rfl, tv⟩ tv rfl ?_
         refine Dz.ite rfl hF (fun _ hF => ?_) (fun _ hF => ?_)
         ·refine Dz.seq (Dz.reg (Dz.ret ?_))
          cases hF
          exact finG [] [] rfl rfl (mv rfl) tv rfl
         ·refine Dz.skip (Dz.reg ?_)
          refine vsucc (by omega) ?_
          exact ⟨(), entG [] ⟨mv rfl, mv rfl, mv rfl, mv rfl, mv rfl, tv⟩ tv rfl, hF⟩
def i_MapOk (a0 : MapState) : Option (Bool) :=
 (i_in a0.Slots 0 60).bind (fun y1 => cond (!y1) (some false) ((i_disksOk a0.Servers a0.Next a0.Disks).bind (fun y2 => cond (!y2) (some false) (cond (!decide (((a0.Views.length : Nat) : Int) = 3)) (some false) (cond (decide ((4 : Int) < ((a0.Done.length : Nat) : Int))) (some false) (loopN (fun i6 (v11 : Unit) κ12 => lt (a0.Views.getD i6 default) (fun x13 => (i_in x13.Num 1 99999).bind (fun y14 => cond (!y14) (some false) ((i_in x13.A 0 (w64 (a0.Servers - 1))).bind (fun y15 => cond (!y15) (some false) ((i_in x13.B (-1) (w64 (a0.Servers - 1))).bind (fun y16 => cond (!y16) (some false) (cond (decide (x13.A = x13.B)) (some false) (κ12 ()))))))))) (fun (v11 : Unit) => loopN (fun i18 (v28 : Unit) κ29 => lt (a0.Done.getD i18 default) (fun x30 => (i_isClient x30.Client).bind (fun y31 => cond (!y31) (some false) (cond (decide ((0 : Int) < ((i18 : Nat) : Int))) (ix a0.Done (((i18 : Nat) : Int) - 1) (fun x32 => cond (decide (x30.Client ≤ x32.Client)) (some false) ((i_in x30.Call 1 99999).bind (fun y33 => cond (!y33) (some false) ((i_in x30.Code 0 6).bind (fun y34 => cond (!y34) (some false) ((i_in x30.Value (-1) 99999).bind (fun y35 => cond (!y35) (some false) (κ29 ()))))))))) ((i_in x30.Call 1 99999).bind (fun y36 => cond (!y36) (some false) ((i_in x30.Code 0 6).bind (fun y37 => cond (!y37) (some false) ((i_in x30.Value (-1) 99999).bind (fun y38 => cond (!y38) (some false) (κ29 ()))))))))))) (fun (v28 : Unit) => some true) a0.Done.length 0 ()) a0.Views.length 0 ()))))))
theorem i_MapOk_c {t0_3 t0_4 t0_5 : Bool} {a0 : MapState} {r : Bool} (hF : i_MapOk a0 = some r) : Con Tryz.prog 119 [.val true [.u (cI a0.Slots), .u (cI a0.Servers), .u (cI a0.Next), .u (ul MapDisk.c 7 t0_3 a0.Disks), .u (ul MapView.c 3 t0_4 a0.Views), .u (ul MapDone.c 4 t0_5 a0.Done)]] [] (vbool r) [] := by
 refine Con.of_Dz tabOk Tryz.func119 rfl rfl rfl ?_
 delta i_MapOk at hF
 refine Dz.seq (Dz.reg (Dz.seq (Dz.seq (Dz.reg ?_))))
 refine bdE hF (fun y1 hy1 hF => ?_)
 refine callG [] (i_in_c hy1) ⟨mv rfl, mv rfl, mv rfl, tv⟩ tv rfl ?_
 refine vif hF (fun _ hF => ?_) (fun _ hF => ?_)
 ·refine Dz.tt (b := true) rfl rfl ?_
  refine Dz.seq (Dz.reg (Dz.ret ?_))
  cases hF
  exact finG [] [] rfl rfl (mv rfl) tv rfl
 ·refine bdE hF (fun y2 hy2 hF => ?_)
  refine callG [] (i_disksOk_c hy2) ⟨mv rfl, mv rfl, mv rfl, tv⟩ tv rfl ?_
  refine vif hF (fun _ hF => ?_) (fun _ hF => ?_)
  ·refine Dz.tt (b := true) rfl rfl ?_
   refine Dz.seq (Dz.reg (Dz.ret ?_))
   cases hF
   exact finG [] [] rfl rfl (mv rfl) tv rfl
  ·intro hb3; replace hb3 : a0.Views.length ≤ 140737488355328 := hb3
   refine vif hF (fun _ hF => ?_) (fun _ hF => ?_)
   ·refine Dz.tt (b := true) rfl rfl ?_
    refine Dz.seq (Dz.reg (Dz.ret ?_))
    cases hF
    exact finG [] [] rfl rfl (mv rfl) tv rfl
   ·intro hb4; replace hb4 : a0.Done.length ≤ 140737488355328 := hb4
    refine Dz.ite rfl hF (fun _ hF => ?_) (fun _ hF => ?_)
    ·refine Dz.seq (Dz.reg (Dz.ret ?_))
     cases hF
     exact finG [] [] rfl rfl (mv rfl) tv rfl
    ·refine Dz.skip (Dz.seq (Dz.seq (Dz.reg ?_)))
     intro hb5; replace hb5 : a0.Views.length ≤ 140737488355328 := hb5
     refine Dz.blk ?_
     refine Dz.cnt hF (fun i6 v11 => ([(1, .ptr 0 0), (34, .val false [.u (ul MapView.c 3 t0_4 a0.Views)]), (35, vint .i64 ((a0.Views.length : Nat) : Int)), (36, vint .i64 ((i6 : Nat) : Int))], [.box 78 [.u (cI a0.Slots), .u (cI a0.Servers), .u (cI a0.Next), .u (ul MapDisk.c 7 t0_3 a0.Disks), .u (ul MapView.c 3 t0_4 a0.Views), .u (ul MapDone.c 4 t0_5 a0.Done)]])) (entG [0] ⟨mp rfl, mv rfl, mv rfl, mv rfl, tv⟩ ⟨⟨rfl, o_box rfl⟩, tv⟩ rfl) (fun v11 hF => ?_) (fun i6 v11 κ12 hi0i6 hi1i6 hF => ?_)
     ·refine Dz.seq (Dz.reg (Dz.seq ?_))
      refine Dz.ff (b := decide (((0 + a0.Views.length : Nat) : Int) < ((a0.Views.length : Nat) : Int))) rfl (decide_eq_false (by omega)) ?_
      refine Dz.exit (Dz.seq (Dz.seq (Dz.reg ?_)))
      intro hb17; replace hb17 : a0.Done.length ≤ 140737488355328 := hb17
      refine Dz.blk ?_
      refine Dz.cnt hF (fun i18 v28 => ([(1, .ptr 0 0), (71, .val false [.u (ul MapDone.c 4 t0_5 a0.Done)]), (72, vint .i64 ((a0.Done.length : Nat) : Int)), (73, vint .i64 ((i18 : Nat) : Int))], [.box 78 [.u (cI a0.Slots), .u (cI a0.Servers), .u (cI a0.Next), .u (ul MapDisk.c 7 t0_3 a0.Disks), .u (ul MapView.c 3 t0_4 a0.Views), .u (ul MapDone.c 4 t0_5 a0.Done)]])) (entG [0] ⟨mp rfl, mv rfl, mv rfl, mv rfl, tv⟩ ⟨⟨rfl, o_box rfl⟩, tv⟩ rfl) (fun v28 hF => ?_) (fun i18 v28 κ29 hi0i18 hi1i18 hF => ?_)
      ·refine Dz.seq (Dz.reg (Dz.seq ?_))
       refine Dz.ff (b := decide (((0 + a0.Done.length : Nat) : Int) < ((a0.Done.length : Nat) : Int))) rfl (decide_eq_false (by omega)) ?_
       refine Dz.exit (Dz.seq (Dz.reg (Dz.ret ?_)))
       cases hF
       exact finG [] [] rfl rfl (mv rfl) tv rfl
      ·refine Dz.seq (Dz.reg (Dz.seq ?_))
       refine Dz.tt (b := decide (((i18 : Nat) : Int) < ((a0.Done.length : Nat) : Int))) rfl (decide_eq_true (by omega)) ?_
       refine Dz.skip (Dz.seq (Dz.blk (Dz.seq (Dz.reg ?_))))
       refine vge (n := ((i18 : Nat) : Int)) (hi := (a0.Done.length : Int)) (by omega) (by omega) ?_
       have hF := ltE hF
       refine Dz.seq ?_
       refine Dz.drw 2 [⟨[], [], 2, 2⟩, ⟨[], [1], 2, 2⟩, ⟨[], [], 2, 2⟩, ⟨[], [], 2, 2⟩, ⟨[], [], 2, 2⟩, ⟨[], [], 2, 2⟩, ⟨[], [], 2, 2⟩, ⟨[], [], 2, 2⟩, ⟨[88,89,93,94], [], 2, 2⟩, ⟨[88,89,93,94], [0], 2, 2⟩, ⟨[86,87,93,94], [], 2, 2⟩, ⟨[86,87,93,94], [], 2, 2⟩, ⟨[93,94], [], 2, 2⟩, ⟨[93,94], [], 2, 2⟩, ⟨[93,94], [], 2, 2⟩, ⟨[86,87,88,89,90,91,92], [], 2, 2⟩, ⟨[86,87,88,89,90,91,92], [1], 2, 2⟩, ⟨[], [], 2, 2⟩, ⟨[], [], 2, 2⟩, ⟨[], [], 2, 2⟩, ⟨[], [], 2, 2⟩, ⟨[], [], 2, 2⟩, ⟨[], [1], 2, 2⟩, ⟨[], [], 2, 2⟩, ⟨[], [], 2, 2⟩, ⟨[], [], 2, 2⟩, ⟨[], [], 2, 2⟩, ⟨[], [], 2, 2⟩, ⟨[], [1], 2, 2⟩, ⟨[], [], 2, 2⟩, ⟨[], [], 2, 2⟩, ⟨[], [], 2, 2⟩, ⟨[], [], 2, 2⟩, ⟨[], [], 2, 2⟩, ⟨[], [1], 2, 2⟩, ⟨[], [], 2, 2⟩, ⟨[], [], 2, 2⟩, ⟨[], [], 2, 2⟩] ⟨by kernel_rfl, by kernel_rfl, rfl⟩ ?_
       refine bdE hF (fun y31 hy31 hF => ?_)
       refine callG [] (i_isClient_c hy31) ⟨mv rfl, tv⟩ tv rfl ?_
       refine vif hF (fun _ hF => ?_) (fun _ hF => ?_)
       ·refine Dz.tt (b := true) rfl rfl ?_
        refine Dz.seq (Dz.reg (Dz.ret ?_))
        cases hF
        exact finG [] [] rfl rfl (mv rfl) tv rfl
       ·refine vif hF (fun _ hF => ?_) (fun _ hF => ?_)
        ·refine ⟨(((i18 : Nat) : Int) - 1), wrap64 (by omega) (by omega), ?_⟩
         refine vix hF (fun _ _ hF => ?_)
         refine vif hF (fun _ hF => ?_) (fun _ hF => ?_)
         ·refine Dz.tt (b := true) rfl rfl ?_
          refine Dz.seq (Dz.reg (Dz.ret ?_))
          cases hF
          exact finG [] [] rfl rfl (mv rfl) tv rfl
         ·refine bdE hF (fun y33 hy33 hF => ?_)
          refine callG [] (i_in_c hy33) ⟨mv rfl, mv rfl, mv rfl, tv⟩ tv rfl ?_
          refine vif hF (fun _ hF => ?_) (fun _ hF => ?_)
          ·refine Dz.tt (b := true) rfl rfl ?_
           refine Dz.seq (Dz.reg (Dz.ret ?_))
           cases hF
           exact finG [] [] rfl rfl (mv rfl) tv rfl
          ·refine bdE hF (fun y34 hy34 hF => ?_)
           refine callG [] (i_in_c hy34) ⟨mv rfl, mv rfl, mv rfl, tv⟩ tv rfl ?_
           refine vif hF (fun _ hF => ?_) (fun _ hF => ?_)
           ·refine Dz.tt (b := true) rfl rfl ?_
            refine Dz.seq (Dz.reg (Dz.ret ?_))
            cases hF
            exact finG [] [] rfl rfl (mv rfl) tv rfl
           ·refine bdE hF (fun y35 hy35 hF => ?_)
            refine callG [] (i_in_c hy35) ⟨mv rfl, mv rfl, mv rfl, tv⟩ tv rfl ?_
            refine Dz.ite rfl hF (fun _ hF => ?_) (fun _ hF => ?_)
            ·refine Dz.seq (Dz.reg (Dz.ret ?_))
             cases hF
             exact finG [] [] rfl rfl (mv rfl) tv rfl
            ·refine Dz.skip (Dz.reg ?_)
             refine vsucc (by omega) ?_
             exact ⟨(), entG [0] ⟨mp rfl, mv rfl, mv rfl, mv rfl, tv⟩ ⟨⟨rfl, o_box rfl⟩, tv⟩ rfl, hF⟩
        ·refine bdE hF (fun y36 hy36 hF => ?_)
         refine callG [] (i_in_c hy36) ⟨mv rfl, mv rfl, mv rfl, tv⟩ tv rfl ?_
         refine vif hF (fun _ hF => ?_) (fun _ hF => ?_)
         ·refine Dz.tt (b := true) rfl rfl ?_
          refine Dz.seq (Dz.reg (Dz.ret ?_))
          cases hF
          exact finG [] [] rfl rfl (mv rfl) tv rfl
         ·refine bdE hF (fun y37 hy37 hF => ?_)
          refine callG [] (i_in_c hy37) ⟨mv rfl, mv rfl, mv rfl, tv⟩ tv rfl ?_
          refine vif hF (fun _ hF => ?_) (fun _ hF => ?_)
          ·refine Dz.tt (b := true) rfl rfl ?_
           refine Dz.seq (Dz.reg (Dz.ret ?_))
           cases hF
           exact finG [] [] rfl rfl (mv rfl) tv rfl
          ·refine bdE hF (fun y38 hy38 hF => ?_)
           refine callG [] (i_in_c hy38) ⟨mv rfl, mv rfl, mv rfl, tv⟩ tv rfl ?_
           refine Dz.ite rfl hF (fun _ hF => ?_) (fun _ hF => ?_)
           ·refine Dz.seq (Dz.reg (Dz.ret ?_))
            cases hF
            exact finG [] [] rfl rfl (mv rfl) tv rfl
           ·refine Dz.skip (Dz.reg ?_)
            refine vsucc (by omega) ?_
            exact ⟨(), entG [0] ⟨mp rfl, mv rfl, mv rfl, mv rfl, tv⟩ ⟨⟨rfl, o_box rfl⟩, tv⟩ rfl, hF⟩
     ·refine Dz.seq (Dz.reg (Dz.seq ?_))
      refine Dz.tt (b := decide (((i6 : Nat) : Int) < ((a0.Views.length : Nat) : Int))) rfl (decide_eq_true (by omega)) ?_
      refine Dz.skip (Dz.seq (Dz.blk (Dz.seq (Dz.reg ?_))))
      refine vge (n := ((i6 : Nat) : Int)) (hi := (a0.Views.length : Int)) (by omega) (by omega) ?_
      have hF := ltE hF
      refine Dz.seq (Dz.reg ?_)
      refine bdE hF (fun y14 hy14 hF => ?_)
      refine callG [] (i_in_c hy14) ⟨mv rfl, mv rfl, mv rfl, tv⟩ tv rfl ?_
      refine vif hF (fun _ hF => ?_) (fun _ hF => ?_)
      ·refine Dz.tt (b := true) rfl rfl ?_
       refine Dz.seq (Dz.reg (Dz.ret ?_))
       cases hF
       exact finG [] [] rfl rfl (mv rfl) tv rfl
      ·refine vw64 ?_
       refine bdE hF (fun y15 hy15 hF => ?_)
       refine callG [] (i_in_c hy15) ⟨mv rfl, mv rfl, mv rfl, tv⟩ tv rfl ?_
       refine vif hF (fun _ hF => ?_) (fun _ hF => ?_)
       ·refine Dz.tt (b := true) rfl rfl ?_
        refine Dz.seq (Dz.reg (Dz.ret ?_))
        cases hF
        exact finG [] [] rfl rfl (mv rfl) tv rfl
       ·refine vw64 ?_
        refine bdE hF (fun y16 hy16 hF => ?_)
        refine callG [] (i_in_c hy16) ⟨mv rfl, mv rfl, mv rfl, tv⟩ tv rfl ?_
        refine vif hF (fun _ hF => ?_) (fun _ hF => ?_)
        ·refine Dz.tt (b := true) rfl rfl ?_
         refine Dz.seq (Dz.reg (Dz.ret ?_))
         cases hF
         exact finG [] [] rfl rfl (mv rfl) tv rfl
        ·refine Dz.ite rfl hF (fun _ hF => ?_) (fun _ hF => ?_)
         ·refine Dz.seq (Dz.reg (Dz.ret ?_))
          cases hF
          exact finG [] [] rfl rfl (mv rfl) tv rfl
         ·refine Dz.skip (Dz.reg ?_)
          refine vsucc (by omega) ?_
          exact ⟨(), entG [0] ⟨mp rfl, mv rfl, mv rfl, mv rfl, tv⟩ ⟨⟨rfl, o_box rfl⟩, tv⟩ rfl, hF⟩
def i_MapTarget (a0 : MapState) (a1 : Int) : Option (Int × Int) :=
 (i_MapOk a0).bind (fun y1 => cond (!y1) (some (0, 0)) ((i_isRange a1).bind (fun y2 => cond (!y2) (some (0, 0)) (ck (a0.Servers ≠ 0) (ck (a0.Servers ≠ 0) (some ((Int.tmod a1 a0.Servers), (Int.tmod (w64 (a1 + 1)) a0.Servers))))))))
theorem i_MapTarget_c {t0_3 t0_4 t0_5 : Bool} {a0 : MapState} {a1 : Int} {r : Int × Int} (hF : i_MapTarget a0 a1 = some r) : Con Tryz.prog 120 [.val true [.u (cI a0.Slots), .u (cI a0.Servers), .u (cI a0.Next), .u (ul MapDisk.c 7 t0_3 a0.Disks), .u (ul MapView.c 3 t0_4 a0.Views), .u (ul MapDone.c 4 t0_5 a0.Done)], vint .i64 a1] [] (.tup [(false, [.u (cI r.1)]), (false, [.u (cI r.2)])]) [] := by
 refine Con.of_Dz tabOk Tryz.func120 rfl rfl rfl ?_
 delta i_MapTarget at hF
 refine Dz.seq (Dz.reg (Dz.seq (Dz.seq (Dz.reg ?_))))
 refine bdE hF (fun y1 hy1 hF => ?_)
 refine callG [] (i_MapOk_c hy1) ⟨mv rfl, tv⟩ tv rfl ?_
 refine vif hF (fun _ hF => ?_) (fun _ hF => ?_)
 ·refine Dz.tt (b := true) rfl rfl ?_
  refine Dz.seq (Dz.reg (Dz.ret ?_))
  cases hF
  exact finG [] [] rfl rfl ⟨⟨rfl, mls_same rfl⟩, ⟨rfl, mls_same rfl⟩, tv⟩ tv rfl
 ·refine bdE hF (fun y2 hy2 hF => ?_)
  refine callG [] (i_isRange_c hy2) ⟨mv rfl, tv⟩ tv rfl ?_
  refine Dz.ite rfl hF (fun _ hF => ?_) (fun _ hF => ?_)
  ·refine Dz.seq (Dz.reg (Dz.ret ?_))
   cases hF
   exact finG [] [] rfl rfl ⟨⟨rfl, mls_same rfl⟩, ⟨rfl, mls_same rfl⟩, tv⟩ tv rfl
  ·refine Dz.skip (Dz.seq ?_)
   refine Dz.drw 1 [⟨[15,16,18,19,20,21,22], [], 1, 1⟩, ⟨[14,18,19,20,21,22], [], 1, 1⟩, ⟨[14,18,19,20,21,22], [0], 1, 1⟩, ⟨[18,19,20,21,22], [], 1, 1⟩, ⟨[14,15,16,17,20,21,4], [], 1, 1⟩, ⟨[14,15,16,17,20,21,4], [], 1, 1⟩, ⟨[14,15,16,17,18,19,4], [], 1, 1⟩, ⟨[14,15,16,17,18,19,4], [0], 1, 1⟩, ⟨[14,15,16,17,4], [], 1, 1⟩, ⟨[18,19,20,21,22], [], 1, 1⟩, ⟨[], [], 1, 1⟩] ⟨by kernel_rfl, by kernel_rfl, rfl⟩ ?_
   refine vck hF id (fun _ hF => ⟨_, rfl, ?_⟩)
   refine vw64 ?_
   refine vck hF id (fun _ hF => ⟨_, rfl, ?_⟩)
   refine Dz.ret ?_
   cases hF
   exact finG [] [] rfl rfl ⟨⟨rfl, mls_same rfl⟩, ⟨rfl, mls_same rfl⟩, tv⟩ tv rfl
def i_MapSettled (a0 : MapState) : Option (Bool) :=
 (i_MapOk a0).bind (fun y1 => cond (!y1) (some false) (loopN (fun i3 (v5 : Unit) κ6 => lt (a0.Disks.getD i3 default) (fun x7 => cond (!decide (x7.Frozen = 0)) (some false) (κ6 ()))) (fun (v5 : Unit) => loopN (fun i9 (v12 : Unit) κ13 => lt (a0.Views.getD i9 default) (fun x14 => (i_MapTarget a0 ((i9 : Nat) : Int)).bind (fun y15 => cond (!decide (x14.A = y15.1)) (cond (!decide (x14.A = y15.2)) (some false) (cond (!decide (x14.B = y15.1)) (some false) (κ13 ()))) (cond (!decide (x14.B = y15.2)) (cond (!decide (x14.A = y15.2)) (some false) (cond (!decide (x14.B = y15.1)) (some false) (κ13 ()))) (κ13 ()))))) (fun (v12 : Unit) => some true) a0.Views.length 0 ()) a0.Disks.length 0 ()))
theorem i_MapSettled_c {t0_3 t0_4 t0_5 : Bool} {a0 : MapState} {r : Bool} (hF : i_MapSettled a0 = some r) : Con Tryz.prog 53 [.val true [.u (cI a0.Slots), .u (cI a0.Servers), .u (cI a0.Next), .u (ul MapDisk.c 7 t0_3 a0.Disks), .u (ul MapView.c 3 t0_4 a0.Views), .u (ul MapDone.c 4 t0_5 a0.Done)]] [] (vbool r) [] := by
 refine Con.of_Dz tabOk Tryz.func53 rfl rfl rfl ?_
 delta i_MapSettled at hF
 refine Dz.seq (Dz.reg (Dz.seq (Dz.seq (Dz.reg ?_))))
 refine bdE hF (fun y1 hy1 hF => ?_)
 refine callG [] (i_MapOk_c hy1) ⟨mv rfl, tv⟩ tv rfl ?_
 refine Dz.ite rfl hF (fun _ hF => ?_) (fun _ hF => ?_)
 ·refine Dz.seq (Dz.reg (Dz.ret ?_))
  cases hF
  exact finG [] [] rfl rfl (mv rfl) tv rfl
 ·refine Dz.skip (Dz.seq (Dz.seq (Dz.reg ?_)))
  intro hb2; replace hb2 : a0.Disks.length ≤ 140737488355328 := hb2
  refine Dz.blk ?_
  refine Dz.cnt hF (fun i3 v5 => ([(1, .ptr 0 0), (13, .val false [.u (ul MapDisk.c 7 t0_3 a0.Disks)]), (14, vint .i64 ((a0.Disks.length : Nat) : Int)), (15, vint .i64 ((i3 : Nat) : Int))], [.box 78 [.u (cI a0.Slots), .u (cI a0.Servers), .u (cI a0.Next), .u (ul MapDisk.c 7 t0_3 a0.Disks), .u (ul MapView.c 3 t0_4 a0.Views), .u (ul MapDone.c 4 t0_5 a0.Done)]])) (entG [0] ⟨mp rfl, mv rfl, mv rfl, mv rfl, tv⟩ ⟨⟨rfl, o_box rfl⟩, tv⟩ rfl) (fun v5 hF => ?_) (fun i3 v5 κ6 hi0i3 hi1i3 hF => ?_)
  ·refine Dz.seq (Dz.reg (Dz.seq ?_))
   refine Dz.ff (b := decide (((0 + a0.Disks.length : Nat) : Int) < ((a0.Disks.length : Nat) : Int))) rfl (decide_eq_false (by omega)) ?_
   refine Dz.exit (Dz.seq (Dz.seq (Dz.reg ?_)))
   intro hb8; replace hb8 : a0.Views.length ≤ 140737488355328 := hb8
   refine Dz.blk ?_
   refine Dz.cnt hF (fun i9 v12 => ([(1, .ptr 0 0), (24, .val false [.u (ul MapView.c 3 t0_4 a0.Views)]), (25, vint .i64 ((a0.Views.length : Nat) : Int)), (26, vint .i64 ((i9 : Nat) : Int))], [.box 78 [.u (cI a0.Slots), .u (cI a0.Servers), .u (cI a0.Next), .u (ul MapDisk.c 7 t0_3 a0.Disks), .u (ul MapView.c 3 t0_4 a0.Views), .u (ul MapDone.c 4 t0_5 a0.Done)]])) (entG [0] ⟨mp rfl, mv rfl, mv rfl, mv rfl, tv⟩ ⟨⟨rfl, o_box rfl⟩, tv⟩ rfl) (fun v12 hF => ?_) (fun i9 v12 κ13 hi0i9 hi1i9 hF => ?_)
   ·refine Dz.seq (Dz.reg (Dz.seq ?_))
    refine Dz.ff (b := decide (((0 + a0.Views.length : Nat) : Int) < ((a0.Views.length : Nat) : Int))) rfl (decide_eq_false (by omega)) ?_
    refine Dz.exit (Dz.seq (Dz.reg (Dz.ret ?_)))
    cases hF
    exact finG [] [] rfl rfl (mv rfl) tv rfl
   ·refine Dz.seq (Dz.reg (Dz.seq ?_))
    refine Dz.tt (b := decide (((i9 : Nat) : Int) < ((a0.Views.length : Nat) : Int))) rfl (decide_eq_true (by omega)) ?_
    refine Dz.skip (Dz.seq (Dz.blk (Dz.seq (Dz.reg ?_))))
    refine vge (n := ((i9 : Nat) : Int)) (hi := (a0.Views.length : Int)) (by omega) (by omega) ?_
    have hF := ltE hF
    refine Dz.seq (Dz.reg ?_)
    refine bdE hF (fun y15 hy15 hF => ?_)
    refine callG [] (i_MapTarget_c hy15) ⟨mv rfl, mv rfl, tv⟩ tv rfl ?_
    refine Dz.seq (Dz.reg ?_)
    refine vif hF (fun _ hF => ?_) (fun _ hF => ?_)
    ·refine vif hF (fun _ hF => ?_) (fun _ hF => ?_)
     ·refine Dz.tt (b := true) rfl rfl ?_
      refine Dz.seq (Dz.reg (Dz.ret ?_))
      cases hF
      exact finG [] [] rfl rfl (mv rfl) tv rfl
     ·refine Dz.ite rfl hF (fun _ hF => ?_) (fun _ hF => ?_)
      ·refine Dz.seq (Dz.reg (Dz.ret ?_))
       cases hF
       exact finG [] [] rfl rfl (mv rfl) tv rfl
      ·refine Dz.skip (Dz.reg ?_)
       refine vsucc (by omega) ?_
       exact ⟨(), entG [0] ⟨mp rfl, mv rfl, mv rfl, mv rfl, tv⟩ ⟨⟨rfl, o_box rfl⟩, tv⟩ rfl, hF⟩
    ·refine vif hF (fun _ hF => ?_) (fun _ hF => ?_)
     ·refine vif hF (fun _ hF => ?_) (fun _ hF => ?_)
      ·refine Dz.tt (b := true) rfl rfl ?_
       refine Dz.seq (Dz.reg (Dz.ret ?_))
       cases hF
       exact finG [] [] rfl rfl (mv rfl) tv rfl
      ·refine Dz.ite rfl hF (fun _ hF => ?_) (fun _ hF => ?_)
       ·refine Dz.seq (Dz.reg (Dz.ret ?_))
        cases hF
        exact finG [] [] rfl rfl (mv rfl) tv rfl
       ·refine Dz.skip (Dz.reg ?_)
        refine vsucc (by omega) ?_
        exact ⟨(), entG [0] ⟨mp rfl, mv rfl, mv rfl, mv rfl, tv⟩ ⟨⟨rfl, o_box rfl⟩, tv⟩ rfl, hF⟩
     ·refine Dz.ff (b := false) rfl rfl ?_
      refine Dz.skip (Dz.reg ?_)
      refine vsucc (by omega) ?_
      exact ⟨(), entG [0] ⟨mp rfl, mv rfl, mv rfl, mv rfl, tv⟩ ⟨⟨rfl, o_box rfl⟩, tv⟩ rfl, hF⟩
  ·refine Dz.seq (Dz.reg (Dz.seq ?_))
   refine Dz.tt (b := decide (((i3 : Nat) : Int) < ((a0.Disks.length : Nat) : Int))) rfl (decide_eq_true (by omega)) ?_
   refine Dz.skip (Dz.seq (Dz.blk (Dz.seq (Dz.reg ?_))))
   refine vge (n := ((i3 : Nat) : Int)) (hi := (a0.Disks.length : Int)) (by omega) (by omega) ?_
   have hF := ltE hF
   refine Dz.seq (Dz.reg ?_)
   refine Dz.ite rfl hF (fun _ hF => ?_) (fun _ hF => ?_)
   ·refine Dz.seq (Dz.reg (Dz.ret ?_))
    cases hF
    exact finG [] [] rfl rfl (mv rfl) tv rfl
   ·refine Dz.skip (Dz.reg ?_)
    refine vsucc (by omega) ?_
    exact ⟨(), entG [0] ⟨mp rfl, mv rfl, mv rfl, mv rfl, tv⟩ ⟨⟨rfl, o_box rfl⟩, tv⟩ rfl, hF⟩
def i_same_BlkPiece (a0 : (List BlkPiece)) (a1 : (List BlkPiece)) : Option (Bool) :=
 cond (!decide (((a0.length : Nat) : Int) = ((a1.length : Nat) : Int))) (some false) (loopN (fun i4 (v7 : Unit) κ8 => lt (a0.getD i4 default) (fun x9 => ix a1 ((i4 : Nat) : Int) (fun x10 => cond (!decide (x9 = x10)) (some false) (κ8 ())))) (fun (v7 : Unit) => some true) a0.length 0 ())
theorem i_same_BlkPiece_c {t0_0 t1_0 : Bool} {a0 : (List BlkPiece)} {a1 : (List BlkPiece)} {r : Bool} (hF : i_same_BlkPiece a0 a1 = some r) : Con Tryz.prog 121 [.val false [.u (ul BlkPiece.c 4 t0_0 a0)], .val false [.u (ul BlkPiece.c 4 t1_0 a1)]] [] (vbool r) [] := by
 refine Con.of_Dz tabOk Tryz.func121 rfl rfl rfl ?_
 delta i_same_BlkPiece at hF
 refine Dz.seq (Dz.reg (Dz.seq (Dz.seq (Dz.reg ?_))))
 intro hb1; replace hb1 : a0.length ≤ 140737488355328 := hb1
 intro hb2; replace hb2 : a1.length ≤ 140737488355328 := hb2
 refine Dz.ite rfl hF (fun _ hF => ?_) (fun _ hF => ?_)
 ·refine Dz.seq (Dz.reg (Dz.ret ?_))
  cases hF
  exact finG [] [] rfl rfl (mv rfl) tv rfl
 ·refine Dz.skip (Dz.seq (Dz.seq (Dz.reg ?_)))
  intro hb3; replace hb3 : a0.length ≤ 140737488355328 := hb3
  refine Dz.blk ?_
  refine Dz.cnt hF (fun i4 v7 => ([(0, .val false [.u (ul BlkPiece.c 4 t0_0 a0)]), (1, .val false [.u (ul BlkPiece.c 4 t1_0 a1)]), (12, vint .i64 ((a0.length : Nat) : Int)), (13, vint .i64 ((i4 : Nat) : Int))], [])) (entG [] ⟨mv rfl, mv rfl, mv rfl, mv rfl, tv⟩ tv rfl) (fun v7 hF => ?_) (fun i4 v7 κ8 hi0i4 hi1i4 hF => ?_)
  ·refine Dz.seq (Dz.reg (Dz.seq ?_))
   refine Dz.ff (b := decide (((0 + a0.length : Nat) : Int) < ((a0.length : Nat) : Int))) rfl (decide_eq_false (by omega)) ?_
   refine Dz.exit (Dz.seq (Dz.reg (Dz.ret ?_)))
   cases hF
   exact finG [] [] rfl rfl (mv rfl) tv rfl
  ·refine Dz.seq (Dz.reg (Dz.seq ?_))
   refine Dz.tt (b := decide (((i4 : Nat) : Int) < ((a0.length : Nat) : Int))) rfl (decide_eq_true (by omega)) ?_
   refine Dz.skip (Dz.seq (Dz.blk (Dz.seq (Dz.reg (Dz.seq ?_)))))
   refine Dz.drw 0 [⟨[17,20,21,22,23], [], 0, 0⟩, ⟨[16,20,21,22,23], [], 0, 0⟩, ⟨[20,21,22,23], [], 0, 0⟩, ⟨[20,21,22,23], [], 0, 0⟩, ⟨[16,17,18,19,21], [], 0, 0⟩, ⟨[16,17,18,19,20], [], 0, 0⟩, ⟨[16,17,18,19], [], 0, 0⟩, ⟨[16,17,18,19], [], 0, 0⟩, ⟨[], [], 0, 0⟩] ⟨by kernel_rfl, by kernel_rfl, rfl⟩ ?_
   refine vge (n := ((i4 : Nat) : Int)) (hi := (a0.length : Int)) (by omega) (by omega) ?_
   have hF := ltE hF
   refine vix hF (fun _ _ hF => ?_)
   refine ⟨decide ((a0.getD i4 default) = (a1.getD i4 default)), BlkPiece.eqd _ _, ?_⟩
   refine Dz.ite rfl hF (fun _ hF => ?_) (fun _ hF => ?_)
   ·refine Dz.seq (Dz.reg (Dz.ret ?_))
    cases hF
    exact finG [] [] rfl rfl (mv rfl) tv rfl
   ·refine Dz.skip (Dz.reg ?_)
    refine vsucc (by omega) ?_
    exact ⟨(), entG [] ⟨mv rfl, mv rfl, mv rfl, mv rfl, tv⟩ tv rfl, hF⟩
def i_same_BlkLast (a0 : (List BlkLast)) (a1 : (List BlkLast)) : Option (Bool) :=
 cond (!decide (((a0.length : Nat) : Int) = ((a1.length : Nat) : Int))) (some false) (loopN (fun i4 (v7 : Unit) κ8 => lt (a0.getD i4 default) (fun x9 => ix a1 ((i4 : Nat) : Int) (fun x10 => cond (!decide (x9 = x10)) (some false) (κ8 ())))) (fun (v7 : Unit) => some true) a0.length 0 ())
theorem i_same_BlkLast_c {t0_0 t1_0 : Bool} {a0 : (List BlkLast)} {a1 : (List BlkLast)} {r : Bool} (hF : i_same_BlkLast a0 a1 = some r) : Con Tryz.prog 122 [.val false [.u (ul BlkLast.c 2 t0_0 a0)], .val false [.u (ul BlkLast.c 2 t1_0 a1)]] [] (vbool r) [] := by
 refine Con.of_Dz tabOk Tryz.func122 rfl rfl rfl ?_
 delta i_same_BlkLast at hF
 refine Dz.seq (Dz.reg (Dz.seq (Dz.seq (Dz.reg ?_))))
 intro hb1; replace hb1 : a0.length ≤ 140737488355328 := hb1
 intro hb2; replace hb2 : a1.length ≤ 140737488355328 := hb2
 refine Dz.ite rfl hF (fun _ hF => ?_) (fun _ hF => ?_)
 ·refine Dz.seq (Dz.reg (Dz.ret ?_))
  cases hF
  exact finG [] [] rfl rfl (mv rfl) tv rfl
 ·refine Dz.skip (Dz.seq (Dz.seq (Dz.reg ?_)))
  intro hb3; replace hb3 : a0.length ≤ 140737488355328 := hb3
  refine Dz.blk ?_
  refine Dz.cnt hF (fun i4 v7 => ([(0, .val false [.u (ul BlkLast.c 2 t0_0 a0)]), (1, .val false [.u (ul BlkLast.c 2 t1_0 a1)]), (12, vint .i64 ((a0.length : Nat) : Int)), (13, vint .i64 ((i4 : Nat) : Int))], [])) (entG [] ⟨mv rfl, mv rfl, mv rfl, mv rfl, tv⟩ tv rfl) (fun v7 hF => ?_) (fun i4 v7 κ8 hi0i4 hi1i4 hF => ?_)
  ·refine Dz.seq (Dz.reg (Dz.seq ?_))
   refine Dz.ff (b := decide (((0 + a0.length : Nat) : Int) < ((a0.length : Nat) : Int))) rfl (decide_eq_false (by omega)) ?_
   refine Dz.exit (Dz.seq (Dz.reg (Dz.ret ?_)))
   cases hF
   exact finG [] [] rfl rfl (mv rfl) tv rfl
  ·refine Dz.seq (Dz.reg (Dz.seq ?_))
   refine Dz.tt (b := decide (((i4 : Nat) : Int) < ((a0.length : Nat) : Int))) rfl (decide_eq_true (by omega)) ?_
   refine Dz.skip (Dz.seq (Dz.blk (Dz.seq (Dz.reg (Dz.seq ?_)))))
   refine Dz.drw 0 [⟨[17,20,21,22,23], [], 0, 0⟩, ⟨[16,20,21,22,23], [], 0, 0⟩, ⟨[20,21,22,23], [], 0, 0⟩, ⟨[20,21,22,23], [], 0, 0⟩, ⟨[16,17,18,19,21], [], 0, 0⟩, ⟨[16,17,18,19,20], [], 0, 0⟩, ⟨[16,17,18,19], [], 0, 0⟩, ⟨[16,17,18,19], [], 0, 0⟩, ⟨[], [], 0, 0⟩] ⟨by kernel_rfl, by kernel_rfl, rfl⟩ ?_
   refine vge (n := ((i4 : Nat) : Int)) (hi := (a0.length : Int)) (by omega) (by omega) ?_
   have hF := ltE hF
   refine vix hF (fun _ _ hF => ?_)
   refine ⟨decide ((a0.getD i4 default) = (a1.getD i4 default)), BlkLast.eqd _ _, ?_⟩
   refine Dz.ite rfl hF (fun _ hF => ?_) (fun _ hF => ?_)
   ·refine Dz.seq (Dz.reg (Dz.ret ?_))
    cases hF
    exact finG [] [] rfl rfl (mv rfl) tv rfl
   ·refine Dz.skip (Dz.reg ?_)
    refine vsucc (by omega) ?_
    exact ⟨(), entG [] ⟨mv rfl, mv rfl, mv rfl, mv rfl, tv⟩ tv rfl, hF⟩
def i_rangeWhole (a0 : PanWorld) (a1 : MapState) (a2 : Int) : Option (Bool) :=
 (i_MapTarget a1 a2).bind (fun y1 => loopN (fun i3 (v7 : Unit) κ8 => lt (a0.Servers.getD i3 default) (fun x9 => cond (decide (((i3 : Nat) : Int) = y1.1)) ((i_copyAt x9 a2).bind (fun y10 => cond (!(true == (decide ((0 : Int) ≤ y10)))) (some false) (κ8 ()))) ((i_copyAt x9 a2).bind (fun y11 => cond (!((decide (((i3 : Nat) : Int) = y1.2)) == (decide ((0 : Int) ≤ y11)))) (some false) (κ8 ()))))) (fun (v7 : Unit) => ix a0.Servers y1.1 (fun x12 => ix a0.Servers y1.2 (fun x13 => (i_inView x12 a1 a2).bind (fun y14 => cond (!y14) (some false) ((i_inView x13 a1 a2).bind (fun y15 => cond (!y15) (some false) ((i_copyAt x12 a2).bind (fun y16 => ix x12.Copies y16 (fun x17 => (i_copyAt x13 a2).bind (fun y18 => ix x13.Copies y18 (fun x19 => loopN (fun i21 (v24 : Unit) κ25 => lt (x17.Pieces.getD i21 default) (fun x26 => (i_diskAt a1.Disks x26.Disk).bind (fun y27 => cond (decide (y27 < 0)) (some false) (κ25 ())))) (fun (v24 : Unit) => cond (decide ((((x17.Busy.length : Nat) : Int) + ((x19.Busy.length : Nat) : Int)) = 0)) ((i_same_BlkPiece x17.Pieces x19.Pieces).bind (fun y30 => cond y30 ((i_same_BlkLast x17.Last x19.Last).bind (fun y31 => some y31)) (some false))) (some false)) x17.Pieces.length 0 ()))))))))))) a0.Servers.length 0 ())
theorem i_rangeWhole_c {t0_1 t0_2 t0_3 t1_3 t1_4 t1_5 : Bool} {a0 : PanWorld} {a1 : MapState} {a2 : Int} {r : Bool} (hF : i_rangeWhole a0 a1 a2 = some r) : Con Tryz.prog 54 [.val true [.u (cI a0.Time), .u (ul Server.c 36 t0_1 a0.Servers), .u (ul Word.c 26 t0_2 a0.Radio), .u (ul PanCall.c 12 t0_3 a0.Calls)], .val true [.u (cI a1.Slots), .u (cI a1.Servers), .u (cI a1.Next), .u (ul MapDisk.c 7 t1_3 a1.Disks), .u (ul MapView.c 3 t1_4 a1.Views), .u (ul MapDone.c 4 t1_5 a1.Done)], vint .i64 a2] [] (vbool r) [] := by
 refine Con.of_Dz tabOk Tryz.func54 rfl rfl rfl ?_
 delta i_rangeWhole at hF
 refine Dz.seq (Dz.reg (Dz.seq (Dz.reg ?_)))
 refine bdE hF (fun y1 hy1 hF => ?_)
 refine callG [] (i_MapTarget_c hy1) ⟨mv rfl, mv rfl, tv⟩ tv rfl ?_
 refine Dz.seq (Dz.seq (Dz.reg ?_))
 intro hb2; replace hb2 : a0.Servers.length ≤ 140737488355328 := hb2
 refine Dz.blk ?_
 refine Dz.cnt hF (fun i3 v7 => ([(2, vint .i64 a2), (3, .ptr 0 0), (4, .ptr 1 0), (7, vint .i64 y1.1), (8, vint .i64 y1.2), (24, .val false [.u (ul Server.c 36 t0_1 a0.Servers)]), (25, vint .i64 ((a0.Servers.length : Nat) : Int)), (26, vint .i64 ((i3 : Nat) : Int))], [.box 33 [.u (cI a0.Time), .u (ul Server.c 36 t0_1 a0.Servers), .u (ul Word.c 26 t0_2 a0.Radio), .u (ul PanCall.c 12 t0_3 a0.Calls)], .box 78 [.u (cI a1.Slots), .u (cI a1.Servers), .u (cI a1.Next), .u (ul MapDisk.c 7 t1_3 a1.Disks), .u (ul MapView.c 3 t1_4 a1.Views), .u (ul MapDone.c 4 t1_5 a1.Done)]])) (entG [0, 1] ⟨mv rfl, mp rfl, mp rfl, mv rfl, mv rfl, mv rfl, mv rfl, mv rfl, tv⟩ ⟨⟨rfl, o_box rfl⟩, ⟨rfl, o_box rfl⟩, tv⟩ rfl) (fun v7 hF => ?_) (fun i3 v7 κ8 hi0i3 hi1i3 hF => ?_)
 ·refine Dz.seq (Dz.reg (Dz.seq ?_))
  refine Dz.ff (b := decide (((0 + a0.Servers.length : Nat) : Int) < ((a0.Servers.length : Nat) : Int))) rfl (decide_eq_false (by omega)) ?_
  refine Dz.exit (Dz.seq ?_)
  refine Dz.drw 2 [⟨[47,50,51,52,53,54,11,12], [], 2, 2⟩, ⟨[47,50,51,52,53,54,11,12], [0], 2, 2⟩, ⟨[45,46,50,51,52,53,54,11,12], [], 2, 2⟩, ⟨[50,51,52,53,54,11,12], [], 2, 2⟩, ⟨[50,51,52,53,54,11,12], [], 2, 2⟩, ⟨[45,46,47,48,49,52,11,12], [], 2, 2⟩, ⟨[45,46,47,48,49,52,11,12], [0], 2, 2⟩, ⟨[45,46,47,48,49,50,51,11,12], [], 2, 2⟩, ⟨[45,46,47,48,49,11,12], [], 2, 2⟩, ⟨[45,46,47,48,49,11,12], [], 2, 2⟩, ⟨[45,46,47,48,49,50,51,52,53,54,12], [], 2, 3⟩, ⟨[45,46,47,48,49,50,51,52,53,54,11], [], 3, 4⟩, ⟨[50,51,52,53,54], [2], 4, 4⟩, ⟨[], [3], 4, 4⟩] ⟨by kernel_rfl, by kernel_rfl, rfl⟩ ?_
  refine vix hF (fun _ _ hF => ?_)
  refine vix hF (fun _ _ hF => ?_)
  refine Dz.seq (Dz.seq (Dz.reg ?_))
  refine bdE hF (fun y14 hy14 hF => ?_)
  refine callG [] (i_inView_c hy14) ⟨mv rfl, mv rfl, mv rfl, tv⟩ tv rfl ?_
  refine vif hF (fun _ hF => ?_) (fun _ hF => ?_)
  ·refine Dz.tt (b := true) rfl rfl ?_
   refine Dz.seq (Dz.reg (Dz.ret ?_))
   cases hF
   exact finG [] [] rfl rfl (mv rfl) tv rfl
  ·refine bdE hF (fun y15 hy15 hF => ?_)
   refine callG [] (i_inView_c hy15) ⟨mv rfl, mv rfl, mv rfl, tv⟩ tv rfl ?_
   refine Dz.ite rfl hF (fun _ hF => ?_) (fun _ hF => ?_)
   ·refine Dz.seq (Dz.reg (Dz.ret ?_))
    cases hF
    exact finG [] [] rfl rfl (mv rfl) tv rfl
   ·refine Dz.skip (Dz.seq ?_)
    refine Dz.drw 4 [⟨[69,70,71,74,75,76,77,78,79,80,13,14], [], 4, 4⟩, ⟨[69,70,71,74,75,76,77,78,79,80,13,14], [2], 4, 4⟩, ⟨[67,68,70,74,75,76,77,13,14], [2], 4, 4⟩, ⟨[67,68,69,74,75,76,77,13,14], [], 4, 4⟩, ⟨[67,68,74,75,76,77,13,14], [], 4, 4⟩, ⟨[74,75,76,77,78,79,80,13,14], [], 4, 4⟩, ⟨[74,75,76,77,78,79,80,13,14], [], 4, 4⟩, ⟨[67,68,69,70,71,72,73,76,77,78,13,14], [], 4, 4⟩, ⟨[67,68,69,70,71,72,73,76,77,78,13,14], [3], 4, 4⟩, ⟨[67,68,69,70,71,72,73,74,75,77,13,14], [3], 4, 4⟩, ⟨[67,68,69,70,71,72,73,74,75,76,13,14], [], 4, 4⟩, ⟨[67,68,72,73,74,75,13,14], [], 4, 4⟩, ⟨[67,68,72,73,13,14], [], 4, 4⟩, ⟨[67,68,72,73,13,14], [], 4, 4⟩, ⟨[67,68,69,70,71,72,73,74,75,76,77,78,79,80,14], [], 4, 5⟩, ⟨[67,68,69,70,71,72,73,74,75,76,77,78,79,80,13], [], 5, 6⟩, ⟨[74,75,79,80], [4], 6, 6⟩, ⟨[], [5], 6, 6⟩] ⟨by kernel_rfl, by kernel_rfl, rfl⟩ ?_
    refine bdE hF (fun y16 hy16 hF => ?_)
    refine callG [] (i_copyAt_c hy16) ⟨mv rfl, mv rfl, tv⟩ tv rfl ?_
    refine vix hF (fun _ _ hF => ?_)
    refine bdE hF (fun y18 hy18 hF => ?_)
    refine callG [] (i_copyAt_c hy18) ⟨mv rfl, mv rfl, tv⟩ tv rfl ?_
    refine vix hF (fun _ _ hF => ?_)
    refine Dz.seq (Dz.seq (Dz.reg ?_))
    intro hb20; replace hb20 : ((a0.Servers.getD y1.1.toNat default).Copies.getD y16.toNat default).Pieces.length ≤ 140737488355328 := hb20
    refine Dz.blk ?_
    refine Dz.cnt hF (fun i21 v24 => ([(4, .ptr 0 0), (13, .ptr 1 0), (14, .ptr 2 0), (82, .val false [.u (ul BlkPiece.c 4 false (((a0.Servers.getD y1.1.toNat default).Copies.getD y16.toNat default).Pieces))]), (83, vint .i64 ((((a0.Servers.getD y1.1.toNat default).Copies.getD y16.toNat default).Pieces.length : Nat) : Int)), (84, vint .i64 ((i21 : Nat) : Int))], [.box 78 [.u (cI a1.Slots), .u (cI a1.Servers), .u (cI a1.Next), .u (ul MapDisk.c 7 t1_3 a1.Disks), .u (ul MapView.c 3 t1_4 a1.Views), .u (ul MapDone.c 4 t1_5 a1.Done)], .box 92 (SrvCopy.L ((a0.Servers.getD y1.1.toNat default).Copies.getD y16.toNat default)), .box 92 (SrvCopy.L ((a0.Servers.getD y1.2.toNat default).Copies.getD y18.toNat default))])) (entG [1, 4, 5] ⟨mp rfl, mp rfl, mp rfl, mv rfl, mv rfl, mv rfl, tv⟩ ⟨⟨rfl, o_box rfl⟩, ⟨rfl, o_box rfl⟩, ⟨rfl, o_box rfl⟩, tv⟩ rfl) (fun v24 hF => ?_) (fun i21 v24 κ25 hi0i21 hi1i21 hF => ?_)
    ·refine Dz.seq (Dz.reg (Dz.seq ?_))
     refine Dz.ff (b := decide (((0 + ((a0.Servers.getD y1.1.toNat default).Copies.getD y16.toNat default).Pieces.length : Nat) : Int) < ((((a0.Servers.getD y1.1.toNat default).Copies.getD y16.toNat default).Pieces.length : Nat) : Int))) rfl (decide_eq_false (by omega)) ?_
     refine Dz.exit (Dz.seq (Dz.reg ?_))
     intro hb28; replace hb28 : ((a0.Servers.getD y1.1.toNat default).Copies.getD y16.toNat default).Busy.length ≤ 140737488355328 := hb28
     intro hb29; replace hb29 : ((a0.Servers.getD y1.2.toNat default).Copies.getD y18.toNat default).Busy.length ≤ 140737488355328 := hb29
     refine ⟨(((((a0.Servers.getD y1.1.toNat default).Copies.getD y16.toNat default).Busy.length : Nat) : Int) + ((((a0.Servers.getD y1.2.toNat default).Copies.getD y18.toNat default).Busy.length : Nat) : Int)), wrap64 (by omega) (by omega), ?_⟩
     refine vif hF (fun _ hF => ?_) (fun _ hF => ?_)
     ·refine bdE hF (fun y30 hy30 hF => ?_)
      refine callG [] (i_same_BlkPiece_c hy30) ⟨mv rfl, mv rfl, tv⟩ tv rfl ?_
      refine vif hF (fun _ hF => ?_) (fun _ hF => ?_)
      ·refine bdE hF (fun y31 hy31 hF => ?_)
       refine callG [] (i_same_BlkLast_c hy31) ⟨mv rfl, mv rfl, tv⟩ tv rfl ?_
       refine Dz.ret ?_
       cases hF
       exact finG [] [] rfl rfl (mv rfl) tv rfl
      ·refine Dz.ret ?_
       cases hF
       exact finG [] [] rfl rfl (mv rfl) tv rfl
     ·refine Dz.ret ?_
      cases hF
      exact finG [] [] rfl rfl (mv rfl) tv rfl
    ·refine Dz.seq (Dz.reg (Dz.seq ?_))
     refine Dz.tt (b := decide (((i21 : Nat) : Int) < ((((a0.Servers.getD y1.1.toNat default).Copies.getD y16.toNat default).Pieces.length : Nat) : Int))) rfl (decide_eq_true (by omega)) ?_
     refine Dz.skip (Dz.seq (Dz.blk (Dz.seq (Dz.reg ?_))))
     refine vge (n := ((i21 : Nat) : Int)) (hi := ((((a0.Servers.getD y1.1.toNat default).Copies.getD y16.toNat default).Pieces).length : Int)) (by omega) (by omega) ?_
     have hF := ltE hF
     refine Dz.seq (Dz.reg ?_)
     refine bdE hF (fun y27 hy27 hF => ?_)
     refine callG [] (i_diskAt_c hy27) ⟨mv rfl, mv rfl, tv⟩ tv rfl ?_
     refine Dz.ite rfl hF (fun _ hF => ?_) (fun _ hF => ?_)
     ·refine Dz.seq (Dz.reg (Dz.ret ?_))
      cases hF
      exact finG [] [] rfl rfl (mv rfl) tv rfl
     ·refine Dz.skip (Dz.reg ?_)
      refine vsucc (by omega) ?_
      exact ⟨(), entG [0, 1, 2] ⟨mp rfl, mp rfl, mp rfl, mv rfl, mv rfl, mv rfl, tv⟩ ⟨⟨rfl, o_box rfl⟩, ⟨rfl, o_box rfl⟩, ⟨rfl, o_box rfl⟩, tv⟩ rfl, hF⟩
 ·refine Dz.seq (Dz.reg (Dz.seq ?_))
  refine Dz.tt (b := decide (((i3 : Nat) : Int) < ((a0.Servers.length : Nat) : Int))) rfl (decide_eq_true (by omega)) ?_
  refine Dz.skip (Dz.seq (Dz.blk (Dz.seq (Dz.reg ?_))))
  refine vge (n := ((i3 : Nat) : Int)) (hi := (a0.Servers.length : Int)) (by omega) (by omega) ?_
  have hF := ltE hF
  refine Dz.seq (Dz.reg ?_)
  refine vif hF (fun _ hF => ?_) (fun _ hF => ?_)
  ·refine bdE hF (fun y10 hy10 hF => ?_)
   refine callG [] (i_copyAt_c hy10) ⟨mv rfl, mv rfl, tv⟩ tv rfl ?_
   refine Dz.ite rfl hF (fun _ hF => ?_) (fun _ hF => ?_)
   ·refine Dz.seq (Dz.reg (Dz.ret ?_))
    cases hF
    exact finG [] [] rfl rfl (mv rfl) tv rfl
   ·refine Dz.skip (Dz.reg ?_)
    refine vsucc (by omega) ?_
    exact ⟨(), entG [0, 1] ⟨mv rfl, mp rfl, mp rfl, mv rfl, mv rfl, mv rfl, mv rfl, mv rfl, tv⟩ ⟨⟨rfl, o_box rfl⟩, ⟨rfl, o_box rfl⟩, tv⟩ rfl, hF⟩
  ·refine bdE hF (fun y11 hy11 hF => ?_)
   refine callG [] (i_copyAt_c hy11) ⟨mv rfl, mv rfl, tv⟩ tv rfl ?_
   refine Dz.ite rfl hF (fun _ hF => ?_) (fun _ hF => ?_)
   ·refine Dz.seq (Dz.reg (Dz.ret ?_))
    cases hF
    exact finG [] [] rfl rfl (mv rfl) tv rfl
   ·refine Dz.skip (Dz.reg ?_)
    refine vsucc (by omega) ?_
    exact ⟨(), entG [0, 1] ⟨mv rfl, mp rfl, mp rfl, mv rfl, mv rfl, mv rfl, mv rfl, mv rfl, tv⟩ ⟨⟨rfl, o_box rfl⟩, ⟨rfl, o_box rfl⟩, tv⟩ rfl, hF⟩
end Go.Proofs.PanS
