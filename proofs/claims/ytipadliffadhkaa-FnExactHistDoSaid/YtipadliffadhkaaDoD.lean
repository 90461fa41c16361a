/- Words and walks for the proof. -/
import Derived.Test.YtipadliffadhkaaDoC
import Derived.ProofKit
import Derived.OpenShut
import Derived.ReadAgain
import Derived.Carry
import Derived.Deep.Slices
import Derived.SizedLaws
set_option linter.unusedVariables false
set_option linter.unusedSimpArgs false
/-! Plain laws: one server behind a call. -/
namespace Go.Proofs.PanH
open Go.Vs

structure DiskOk (next : Int) (d : MapDisk) : Prop where
  id : 1 ≤ d.Id ∧ d.Id ≤ next - 1
  size : 1 ≤ d.Size ∧ d.Size ≤ 8
  epoch : 1 ≤ d.Epoch ∧ d.Epoch ≤ 99999
  frozen : d.Frozen = 0
  client : d.Client = 0
  call : d.Call = 0
  acks : d.Acks = []
structure StOk (s : HistState) : Prop where
  next : 1 ≤ s.Next ∧ s.Next ≤ 5
  servers : 3 ≤ s.Servers ∧ s.Servers ≤ 5
  pieces : blkB s.Pieces = true
  disks : ∀ i, i < s.Disks.length → DiskOk s.Next (s.Disks.getD i default)
  order : ∀ i j, i < j → j < s.Disks.length → (s.Disks.getD i default).Id < (s.Disks.getD j default).Id

theorem StOk.len {s : HistState} (h : StOk s) : s.Disks.length ≤ 4 ∧ (s.Disks.length : Int) ≤ s.Next - 1 := by
  have key : ∀ i, i < s.Disks.length → (i : Int) + 1 ≤ (s.Disks.getD i default).Id := by
    intro i
    induction i with
    | zero => intro hi; have := (h.disks 0 hi).id; omega
    | succ i ih => intro hi; have h1 := ih (by omega); have h2 := h.order i (i + 1) (by omega) hi; omega
  rcases Nat.eq_zero_or_pos s.Disks.length with h0 | h0
  · have := h.next; omega
  · have h1 := key (s.Disks.length - 1) (by omega)
    have h2 := (h.disks (s.Disks.length - 1) (by omega)).id
    have := h.next
    omega

theorem inB_t {n lo hi : Int} (h : lo ≤ n ∧ n ≤ hi) : inB n lo hi = true := decide_eq_true h
theorem inB_f {n lo hi : Int} (h : ¬ (lo ≤ n ∧ n ≤ hi)) : inB n lo hi = false := decide_eq_false h

theorem s_l31DiskOk_eq {m : MapState} {d : MapDisk} (h : DiskOk m.Next d) (hn : 1 ≤ m.Next ∧ m.Next ≤ 5) : s_l31DiskOk m d = some true := by
  unfold s_l31DiskOk
  simp only [s_l6In_eq, Option.bind_some, cond_not]
  rw [w64_eq (by omega) (by omega), inB_t h.id, inB_t h.size, inB_t h.epoch, inB_t (by rw [h.frozen]; decide)]
  simp [h.frozen, h.client, h.call, h.acks]

theorem s_HistStateOk_eq {s : HistState} (h : StOk s) : s_HistStateOk s = some true := by
  unfold s_HistStateOk
  have hl := h.len
  simp only [s_l6In_eq, Option.bind_some, cond_not, s_BlkOk_eq]
  rw [inB_t h.next, inB_t h.servers, h.pieces, decide_eq_false (by omega)]
  simp only [cond_true, cond_false]
  rw [loopN_ok _ _ (fun i κ _ hi => by
    simp only [lt_eq]
    have hd := h.disks i (by omega)
    rw [s_l31DiskOk_eq (by exact hd) (by exact h.next), decide_eq_true hd.frozen]
    simp only [cond_true, Option.bind_some]
    by_cases hp : 0 < i
    · have e : ((i : Int) - 1) = ((i - 1 : Nat) : Int) := by omega
      rw [decide_eq_true (show (0 : Int) < (i : Int) by omega), cond_true, e, ix_nat (by omega)]
      have := h.order (i - 1) i (by omega) (by omega)
      rw [decide_eq_false (by omega)]; rfl
    · rw [decide_eq_false (show ¬ (0 : Int) < (i : Int) by omega)]; rfl)]

theorem set_self {α : Type} [Inhabited α] (L : List α) (i : Nat) : L.set i (L.getD i default) = L := by
  apply List.ext_getElem?
  intro j
  by_cases h : j = i
  · subst h
    by_cases hl : j < L.length
    · rw [List.getElem?_set_self hl, List.getD_eq_getElem?_getD, List.getElem?_eq_getElem hl]; rfl
    · rw [List.getElem?_eq_none (by simpa using hl), List.getElem?_eq_none (by omega)]
  · rw [List.getElem?_set_ne (fun e => h e.symm)]

theorem s_l63Copy_eq {s : HistState} (h : StOk s) : s_l63Copy s = some s := by
  unfold s_l63Copy
  have hl := h.len
  have hp := blkB_len h.pieces
  rw [ck_pos (by omega)]
  simp only [List.nil_append]
  have key : ∀ d i k, i + d = s.Disks.length → d < k → loopF (fun (v12 : Int × List MapDisk) κ13 => cond (decide (v12.1 < ((v12.2.length : Nat) : Int))) (ix v12.2 v12.1 (fun _ => κ13 ((w64 (v12.1 + 1)), (v12.2.set v12.1.toNat ({ Id := (v12.2.getD v12.1.toNat default).Id, Size := (v12.2.getD v12.1.toNat default).Size, Epoch := (v12.2.getD v12.1.toNat default).Epoch, Frozen := (v12.2.getD v12.1.toNat default).Frozen, Client := (v12.2.getD v12.1.toNat default).Client, Call := (v12.2.getD v12.1.toNat default).Call, Acks := ([] : List Int) } : MapDisk))))) (ck ((0 + s.Pieces.length) * 32 ≤ 140737488355328) (some ({ Next := s.Next, Servers := s.Servers, Disks := v12.2, Pieces := s.Pieces } : HistState)))) k (((i : Nat) : Int), s.Disks) = some s := by
    intro d
    induction d with
    | zero =>
      intro i k hi hk
      obtain ⟨k, rfl⟩ : ∃ m, k = m + 1 := ⟨k - 1, by omega⟩
      simp only [loopF]
      rw [decide_eq_false (by omega), cond_false, ck_pos (by omega)]
    | succ d ih =>
      intro i k hi hk
      obtain ⟨k, rfl⟩ : ∃ m, k = m + 1 := ⟨k - 1, by omega⟩
      simp only [loopF]
      rw [decide_eq_true (by omega), cond_true, ix_nat (by omega), w64_eq (by omega) (by omega)]
      have hd := (h.disks i (by omega)).acks
      have e : (({ Id := (s.Disks.getD ((i : Nat) : Int).toNat default).Id, Size := (s.Disks.getD ((i : Nat) : Int).toNat default).Size, Epoch := (s.Disks.getD ((i : Nat) : Int).toNat default).Epoch, Frozen := (s.Disks.getD ((i : Nat) : Int).toNat default).Frozen, Client := (s.Disks.getD ((i : Nat) : Int).toNat default).Client, Call := (s.Disks.getD ((i : Nat) : Int).toNat default).Call, Acks := ([] : List Int) } : MapDisk)) = s.Disks.getD i default := by
        rw [show ((i : Nat) : Int).toNat = i from rfl]
        rw [← hd]
      rw [e, show ((i : Nat) : Int).toNat = i from rfl, set_self]
      rw [show ((i : Int) + 1) = ((i + 1 : Nat) : Int) by omega]
      exact ih (i + 1) k (by omega) (by omega)
  exact key s.Disks.length 0 _ (by omega) (by omega)

theorem i_histCopy_eq {s : HistState} (h : StOk s) : i_histCopy s = some s := by
  unfold i_histCopy i_disksCopy
  have hl := h.len
  have hp := blkB_len h.pieces
  rw [i_copied_MapDisk_eq _ (by omega), i_copied_BlkPiece_eq _ (by omega)]
  simp only [Option.bind_some]
  obtain ⟨a, rfl, ha⟩ := loopN_inv (R := List MapDisk) (fun _ (v : List MapDisk) => v = s.Disks) (body := fun i3 (v8 : List MapDisk) κ9 => ix v8 ((i3 : Nat) : Int) (fun _ => (i_copied_int ((v8.getD i3 default).Acks)).bind (fun y10 => ix v8 ((i3 : Nat) : Int) (fun _ => κ9 (v8.set i3 ({ Id := (v8.getD i3 default).Id, Size := (v8.getD i3 default).Size, Epoch := (v8.getD i3 default).Epoch, Frozen := (v8.getD i3 default).Frozen, Client := (v8.getD i3 default).Client, Call := (v8.getD i3 default).Call, Acks := y10 } : MapDisk)))))) (after := fun v => some v) s.Disks.length 0 s.Disks rfl
    (fun i a κ _ hi ha => by
      subst ha
      refine ⟨_, rfl, ?_⟩
      rw [ix_nat (by omega), i_copied_int_eq _ (by rw [(h.disks i (by omega)).acks]; decide)]
      simp only [Option.bind_some]
      rw [ix_nat (by omega)]
      congr 1
      exact set_self s.Disks i)
  rw [ha]
  rfl

theorem diskAt_facts (D : List MapDisk) (id : Int) : ∃ k : Int, i_diskAt D id = some k ∧ (k = -1 ∨ ∃ j : Nat, j < D.length ∧ k = j) := by
  unfold i_diskAt
  have key : ∀ d i, i + d = D.length → ∃ k : Int, loopN (fun i2 (v4 : Unit) κ5 => lt (D.getD i2 default) (fun x6 => cond (decide (x6.Id = id)) (some ((i2 : Nat) : Int)) (κ5 ()))) (fun (v4 : Unit) => some (-1)) d i () = some k ∧ (k = -1 ∨ ∃ j : Nat, j < D.length ∧ k = j) := by
    intro d
    induction d with
    | zero => intro i _; exact ⟨-1, rfl, .inl rfl⟩
    | succ d ih =>
      intro i hi
      simp only [loopN, lt_eq]
      cases decide ((D.getD i default).Id = id)
      · exact ih (i + 1) (by omega)
      · exact ⟨i, rfl, .inr ⟨i, by omega, rfl⟩⟩
  exact key D.length 0 (by omega)
theorem s_l31Disk_eq (m : MapState) (id : Int) : s_l31Disk m id = i_diskAt m.Disks id := rfl
theorem s_l63Disk_eq (s : HistState) (id : Int) : s_l63Disk s id = i_diskAt s.Disks id := by
  unfold s_l63Disk
  rw [s_l31Disk_eq]
  obtain ⟨k, h, _⟩ := diskAt_facts s.Disks id
  rw [h]; rfl

/-- Reading or writing a block. -/
theorem block_eq {s : HistState} (h : StOk s) (c : PanCall) (hop : c.Op = 1 ∨ c.Op = 2) : ∃ r, s_HistStep s c = some r ∧ i_step s c = some r ∧ StOk r.1 := by
  have hl := h.len
  have hop' : 1 ≤ c.Op ∧ c.Op ≤ 6 := by omega
  have hop2' : ¬ 2 < c.Op := by omega
  obtain ⟨k, hk, hkk⟩ := diskAt_facts s.Disks c.Disk
  have hi : i_step s c = (i_histBlock s c).bind fun y => some (y.1, y.2.1, y.2.2) := by
    unfold i_step
    rw [hk]
    simp only [Option.bind_some]
    rcases hop with h1 | h1
    · rw [decide_eq_true h1]; rfl
    · rw [decide_eq_false (by omega), decide_eq_true h1]; rfl
  have hs : s_HistStep s c = (s_l63Judge s c).bind fun y5 => cond (!decide (y5 = 0)) (some (s, y5, 0)) (ix s.Disks k (fun _ => lt (s.Disks.getD k.toNat default) (fun x7 => cond (decide (c.Op = 2)) ((s_BlkPut s.Pieces c.Disk c.Block x7.Epoch c.Data).bind (fun y8 => some (({ Next := s.Next, Servers := s.Servers, Disks := s.Disks, Pieces := y8.1 } : HistState), 0, 0))) (cond (decide (c.Epoch = 0)) ((s_BlkGet s.Pieces c.Disk c.Block x7.Epoch).bind (fun y9 => some (s, 0, y9))) ((s_BlkGet s.Pieces c.Disk c.Block c.Epoch).bind (fun y10 => some (s, 0, y10))))))) := by
    unfold s_HistStep
    rw [s_HistStateOk_eq h, s_l63Copy_eq h, s_l6In_eq, inB_t hop']
    simp only [Option.bind_some, Bool.not_true, cond_false]
    rw [decide_eq_false hop2', cond_false, s_l63Disk_eq, hk]
    rfl
  have hj : s_l63Judge s c = i_judge s.Disks c.Disk c.Block c.Epoch (decide (c.Op = 2)) := by
    unfold s_l63Judge i_judge
    rw [s_l63Disk_eq, hk]
    simp only [Option.bind_some, s_l6In_eq, i_in_eq, cond_not]
    rcases hop with h1 | h1
    · rw [decide_eq_true h1, decide_eq_false (show ¬ c.Op = 2 by omega)]; rfl
    · rw [decide_eq_false (show ¬ c.Op = 1 by omega), decide_eq_true h1]; rfl
  have hjs : ∃ y, i_judge s.Disks c.Disk c.Block c.Epoch (decide (c.Op = 2)) = some y ∧ (y = 0 → 0 ≤ k) := by
    unfold i_judge
    rw [hk]
    simp only [Option.bind_some, i_in_eq, cond_not]
    rcases hkk with rfl | ⟨j, hj, rfl⟩
    · exact ⟨1, rfl, fun h => by omega⟩
    · rw [decide_eq_false (by omega), cond_false, ix_nat hj]
      generalize inB c.Block 0 _ = b1
      generalize hX : (ix s.Disks ((j : Nat) : Int) (fun x4 => cond (inB c.Epoch 1 (w64 (x4.Epoch - 1))) (some 0) (some 3)) : Option Int) = X
      have hXs : ∃ y, X = some y := by
        rw [← hX, ix_nat hj]
        cases inB c.Epoch 1 _
        · exact ⟨3, rfl⟩
        · exact ⟨0, rfl⟩
      obtain ⟨y, rfl⟩ := hXs
      cases b1
      · exact ⟨2, rfl, fun h => by omega⟩
      · simp only [cond_true]
        cases decide (c.Op = 2)
        · cases decide (c.Epoch = 0)
          · exact ⟨y, rfl, fun _ => by omega⟩
          · exact ⟨0, rfl, fun _ => by omega⟩
        · exact ⟨0, rfl, fun _ => by omega⟩
  obtain ⟨y, hy, hy0⟩ := hjs
  rw [hs, hi, hj]
  unfold i_histBlock
  rw [hy, hk]
  simp only [Option.bind_some]
  by_cases h0 : y = 0
  · rw [decide_eq_true h0]
    simp only [Bool.not_true, cond_false]
    rcases hkk with rfl | ⟨j, hjl, rfl⟩
    · have := hy0 h0; omega
    rw [ix_nat hjl, ix_nat hjl]
    simp only [lt_eq, show ((j : Nat) : Int).toNat = j from rfl]
    cases hop2 : decide (c.Op = 2)
    · simp only [cond_false, cond_not]
      rw [blkGet_eq, blkGet_eq]
      obtain ⟨y1, hy1⟩ := blkGet_some s.Pieces c.Disk c.Block (s.Disks.getD j default).Epoch
      obtain ⟨y2, hy2⟩ := blkGet_some s.Pieces c.Disk c.Block c.Epoch
      rw [hy1, hy2]
      cases decide (c.Epoch = 0)
      · exact ⟨_, rfl, rfl, h⟩
      · exact ⟨_, rfl, rfl, h⟩
    · simp only [cond_true]
      obtain ⟨r, h1, h2, h3⟩ := blkPut_eq s.Pieces c.Disk c.Block (s.Disks.getD j default).Epoch c.Data h.pieces
      rw [h1, h2]
      exact ⟨_, rfl, rfl, ⟨h.next, h.servers, h3, h.disks, h.order⟩⟩
  · rw [decide_eq_false h0]
    exact ⟨_, rfl, rfl, h⟩

theorem getD_app_l {α : Type} [Inhabited α] {L M : List α} {i : Nat} (h : i < L.length) : (L ++ M).getD i default = L.getD i default := by
  rw [List.getD_eq_getElem?_getD, List.getD_eq_getElem?_getD, List.getElem?_append_left h]
theorem getD_app_r {α : Type} [Inhabited α] {L : List α} {x : α} : (L ++ [x]).getD L.length default = x := by
  rw [List.getD_eq_getElem?_getD, List.getElem?_append_right (Nat.le_refl _)]; simp
theorem getD_set {α : Type} [Inhabited α] {L : List α} {x : α} {i j : Nat} (h : i < L.length) : (L.set i x).getD j default = if j = i then x else L.getD j default := by
  by_cases e : j = i
  · subst e; rw [if_pos rfl, List.getD_eq_getElem?_getD, List.getElem?_set_self h]; rfl
  · rw [if_neg e, List.getD_eq_getElem?_getD, List.getD_eq_getElem?_getD, List.getElem?_set_ne (fun e' => e e'.symm)]
theorem getD_cut {α : Type} [Inhabited α] {L : List α} {k j : Nat} (h : k < L.length) : (L.take k ++ L.drop (k + 1)).getD j default = if j < k then L.getD j default else L.getD (j + 1) default := by
  by_cases e : j < k
  · rw [if_pos e, getD_app_l (by rw [List.length_take]; omega), List.getD_eq_getElem?_getD, List.getD_eq_getElem?_getD, List.getElem?_take_of_lt e]
  · rw [if_neg e, List.getD_eq_getElem?_getD, List.getD_eq_getElem?_getD, List.getElem?_append_right (by rw [List.length_take]; omega), List.getElem?_drop]
    congr 2
    rw [List.length_take]; omega

/-- What is not of a block. -/
theorem admin_eq {s : HistState} (h : StOk s) (c : PanCall) (hop : 3 ≤ c.Op ∧ c.Op ≤ 6) (hd : 0 ≤ c.Data) : ∃ r, s_HistStep s c = some r ∧ i_step s c = some r ∧ StOk r.1 := by
  have hl := h.len
  have hnx := h.next
  have hsv := h.servers
  obtain ⟨k, hk, hkk⟩ := diskAt_facts s.Disks c.Disk
  have hs : s_HistStep s c = (s_l63Admin s c).bind fun y => some (y.1, y.2.1, y.2.2) := by
    unfold s_HistStep
    rw [s_HistStateOk_eq h, s_l63Copy_eq h, s_l6In_eq, inB_t (show (1 : Int) ≤ c.Op ∧ c.Op ≤ 6 by omega)]
    simp only [Option.bind_some, Bool.not_true, cond_false]
    rw [decide_eq_true (by omega)]; rfl
  rw [hs]
  unfold s_l63Admin i_step
  rw [s_l63Disk_eq, hk]
  simp only [Option.bind_some, s_l6In_eq, i_in_eq, cond_not, jn_eq]
  rw [decide_eq_false (show ¬ c.Op = 1 by omega), decide_eq_false (show ¬ c.Op = 2 by omega)]
  simp only [cond_false]
  by_cases h3 : c.Op = 3
  · rw [decide_eq_true h3, decide_eq_false (show ¬ c.Op = 6 by omega)]
    simp only [cond_true, cond_false]
    cases hin : inB c.Data 1 8
    · exact ⟨_, rfl, rfl, h⟩
    · simp only [cond_true]
      by_cases hn : 4 < s.Next
      · rw [decide_eq_true hn]
        exact ⟨_, rfl, rfl, h⟩
      · rw [decide_eq_false hn]
        simp only [cond_false]
        rw [ck_pos (by omega), w64_eq (n := s.Next + 1) (by omega) (by omega)]
        refine ⟨_, rfl, rfl, ⟨by show 1 ≤ s.Next + 1 ∧ s.Next + 1 ≤ 5; omega, h.servers, h.pieces, fun i hi => ?_, fun i j hij hj => ?_⟩⟩
        · simp only [List.length_append, List.length_cons, List.length_nil] at hi
          show DiskOk (s.Next + 1) ((s.Disks ++ [_]).getD i default)
          rcases Nat.lt_or_ge i s.Disks.length with h1 | h1
          · rw [getD_app_l h1]
            have := h.disks i h1
            exact ⟨by have := this.id; omega, this.size, this.epoch, this.frozen, this.client, this.call, this.acks⟩
          · obtain rfl : i = s.Disks.length := by omega
            rw [getD_app_r]
            exact ⟨by show 1 ≤ s.Next ∧ s.Next ≤ s.Next + 1 - 1; omega, inB_of hin, ⟨show (1 : Int) ≤ 1 by omega, show (1 : Int) ≤ 99999 by omega⟩, rfl, rfl, rfl, rfl⟩
        · simp only [List.length_append, List.length_cons, List.length_nil] at hj
          show ((s.Disks ++ [_]).getD i default).Id < ((s.Disks ++ [_]).getD j default).Id
          rcases Nat.lt_or_ge j s.Disks.length with h1 | h1
          · rw [getD_app_l h1, getD_app_l (by omega)]
            exact h.order i j hij h1
          · obtain rfl : j = s.Disks.length := by omega
            rw [getD_app_r, getD_app_l hij]
            have := (h.disks i hij).id
            show _ < s.Next
            omega
  · rw [decide_eq_false h3]
    simp only [cond_false]
    by_cases h6 : c.Op = 6
    · rw [decide_eq_true h6]
      simp only [cond_true]
      by_cases hn : s.Servers = 5
      · rw [decide_eq_true hn, decide_eq_true (show (5 : Int) ≤ s.Servers by omega)]
        exact ⟨_, rfl, rfl, h⟩
      · rw [decide_eq_false hn, decide_eq_false (show ¬ (5 : Int) ≤ s.Servers by omega)]
        simp only [cond_false]
        rw [w64_eq (n := s.Servers + 1) (by omega) (by omega)]
        exact ⟨_, rfl, rfl, ⟨h.next, by show 3 ≤ s.Servers + 1 ∧ s.Servers + 1 ≤ 5; omega, h.pieces, h.disks, h.order⟩⟩
    · rw [decide_eq_false h6]
      simp only [cond_false]
      rcases hkk with rfl | ⟨j, hj, rfl⟩
      · exact ⟨_, rfl, rfl, h⟩
      rw [decide_eq_false (show ¬ ((j : Nat) : Int) < 0 by omega)]
      simp only [cond_false]
      have hdj := h.disks j hj
      by_cases h4 : c.Op = 4
      · rw [decide_eq_true h4]
        simp only [cond_true]
        simp only [ix_nat hj, show ((j : Nat) : Int).toNat = j from rfl]
        by_cases he : (s.Disks.getD j default).Epoch = 99999
        · rw [decide_eq_true he, decide_eq_true (show (99999 : Int) ≤ (s.Disks.getD j default).Epoch by omega)]
          exact ⟨_, rfl, rfl, h⟩
        · have hep := hdj.epoch
          rw [decide_eq_false he, decide_eq_false (show ¬ (99999 : Int) ≤ (s.Disks.getD j default).Epoch by omega)]
          simp only [cond_false]
          rw [ix_nat (by rw [List.length_set]; exact hj)]
          rw [getD_set hj, if_pos rfl, w64_eq (n := (s.Disks.getD j default).Epoch + 1) (by omega) (by omega), w64_eq (n := (s.Disks.getD j default).Epoch + 1 - 1) (by omega) (by omega), show (s.Disks.getD j default).Epoch + 1 - 1 = (s.Disks.getD j default).Epoch by omega]
          refine ⟨_, rfl, rfl, ⟨h.next, h.servers, h.pieces, fun i hi => ?_, fun i q hiq hq => ?_⟩⟩
          · simp only [List.length_set] at hi
            show DiskOk s.Next ((s.Disks.set j _).getD i default)
            rw [getD_set hj]
            by_cases e : i = j
            · rw [if_pos e]
              exact ⟨hdj.id, hdj.size, by show 1 ≤ (s.Disks.getD j default).Epoch + 1 ∧ (s.Disks.getD j default).Epoch + 1 ≤ 99999; omega, hdj.frozen, hdj.client, hdj.call, hdj.acks⟩
            · rw [if_neg e]; exact h.disks i hi
          · simp only [List.length_set] at hq
            have := h.order i q hiq hq
            show ((s.Disks.set j _).getD i default).Id < ((s.Disks.set j _).getD q default).Id
            rw [getD_set hj, getD_set hj]
            by_cases e : i = j <;> by_cases e2 : q = j
            · omega
            · rw [if_pos e, if_neg e2]; subst e; exact this
            · rw [if_neg e, if_pos e2]; subst e2; exact this
            · rw [if_neg e, if_neg e2]; exact this
      · rw [decide_eq_false h4]
        simp only [cond_false]
        rw [w64_eq (n := ((j : Nat) : Int) + 1) (by omega) (by omega)]
        have e1 : (((j : Nat) : Int) + 1).toNat = j + 1 := by omega
        rw [e1, show ((j : Nat) : Int).toNat = j from rfl]
        simp only [List.nil_append]
        rw [ck_pos (by omega), ck_pos (by omega), ck_pos (by omega), ck_pos (by omega), ck_pos (by omega), ck_pos (by omega), ck_pos (by omega)]
        refine ⟨_, rfl, rfl, ⟨h.next, h.servers, h.pieces, fun i hi => ?_, fun i q hiq hq => ?_⟩⟩
        · simp only [List.length_append, List.length_take, List.length_drop] at hi
          show DiskOk s.Next ((s.Disks.take j ++ s.Disks.drop (j + 1)).getD i default)
          rw [getD_cut hj]
          by_cases e : i < j
          · rw [if_pos e]; exact h.disks i (by omega)
          · rw [if_neg e]; exact h.disks (i + 1) (by omega)
        · simp only [List.length_append, List.length_take, List.length_drop] at hq
          show ((s.Disks.take j ++ s.Disks.drop (j + 1)).getD i default).Id < ((s.Disks.take j ++ s.Disks.drop (j + 1)).getD q default).Id
          rw [getD_cut hj, getD_cut hj]
          by_cases e : i < j <;> by_cases e2 : q < j
          · rw [if_pos e, if_pos e2]; exact h.order i q hiq (by omega)
          · rw [if_pos e, if_neg e2]; exact h.order i (q + 1) (by omega) (by omega)
          · omega
          · rw [if_neg e, if_neg e2]; exact h.order (i + 1) (q + 1) (by omega) (by omega)

/-- A call done: fits alike. -/
theorem fits_eq {s : HistState} (h : StOk s) (c : PanCall) (hc : selfB c = true) : ∃ r, s_l63Fits s c = some r ∧ i_does s c = some r ∧ StOk r.1 := by
  unfold selfB at hc
  simp only [Bool.and_eq_true] at hc
  obtain ⟨_, c2, _, _, _, c6, c7, c8⟩ := hc
  have c2 := inB_of c2
  have c6 := inB_of c6
  have c7 := inB_of c7
  have hend : (c.End = 0 ∧ c.Code = 0) ∨ 0 < c.End := by
    unfold endB at c8
    by_cases h0 : c.End = 0
    · rw [decide_eq_true h0, cond_true] at c8
      simp only [Bool.and_eq_true, decide_eq_true_eq] at c8
      exact .inl ⟨h0, c8.1⟩
    · rw [decide_eq_false h0, cond_false] at c8
      simp only [Bool.and_eq_true] at c8
      have := inB_of c8.2.1
      right; omega
  have hstep : ∃ r, s_HistStep s c = some r ∧ i_step s c = some r ∧ StOk r.1 := by
    by_cases ho : c.Op ≤ 2
    · exact block_eq h c (by omega)
    · exact admin_eq h c (by omega) c6.1
  obtain ⟨r, hs, hi, hr⟩ := hstep
  unfold s_l63Fits i_does
  rw [hs, i_histCopy_eq h]
  simp only [Option.bind_some, jn_eq]
  rw [hi]
  simp only [Option.bind_some]
  rcases hend with ⟨h0, hc0⟩ | h0
  · rw [decide_eq_false (show ¬ (0 : Int) < c.End by omega), decide_eq_false (show ¬ c.Code = 5 by omega), decide_eq_true h0]
    exact ⟨_, rfl, rfl, hr⟩
  · rw [decide_eq_true h0, decide_eq_false (show ¬ c.End = 0 by omega)]
    simp only [cond_true, cond_false]
    cases decide (c.Code = 5)
    · simp only [cond_false]
      cases decide (r.2.1 = c.Code)
      · exact ⟨_, rfl, rfl, hr⟩
      · exact ⟨_, rfl, rfl, hr⟩
    · simp only [cond_true]
      cases decide (c.Op = 4)
      · cases decide (c.Op = 5)
        · exact ⟨_, rfl, rfl, h⟩
        · exact ⟨_, rfl, rfl, h⟩
      · exact ⟨_, rfl, rfl, h⟩
end Go.Proofs.PanH

/-! Plain laws: HistDo. -/
namespace Go.Proofs.PanH
open Go.Vs

theorem loop2 {α : Type} {bs bi : Nat → α → (α → Option Bool) → Option Bool} {fs fi : α → Option Bool} (I : Nat → α → Prop) (hi : Nat)
    (hstep : ∀ i a, i < hi → I i a → ∃ p a', (∀ κ, bs i a κ = cond p (κ a') (some false)) ∧ (∀ κ, bi i a κ = cond p (κ a') (some false)) ∧ (p = true → I (i + 1) a'))
    (hfin : ∀ a, I hi a → ∃ b, fs a = some b ∧ fi a = some b) : ∀ d i a, i + d = hi → I i a → ∃ b, loopN bs fs d i a = some b ∧ loopN bi fi d i a = some b := by
  intro d
  induction d with
  | zero => intro i a h ha; obtain rfl : i = hi := by omega
            exact hfin a ha
  | succ d ih =>
    intro i a h ha
    obtain ⟨p, a', h1, h2, h3⟩ := hstep i a (by omega) ha
    simp only [loopN, h1, h2]
    cases p
    · exact ⟨false, rfl, rfl⟩
    · exact ih (i + 1) a' (by omega) (h3 rfl)
theorem loop_long {α : Type} {bi : Nat → α → (α → Option Bool) → Option Bool} {fi : α → Option Bool} (I : Nat → α → Prop) (hi n : Nat) (hn : n < hi)
    (hstep : ∀ i a, i < hi → I i a → ∃ p a', (∀ κ, bi i a κ = cond p (κ a') (some false)) ∧ (p = true → I (i + 1) a')) (hI : ∀ i a, I i a → i ≤ n) :
    ∀ d i a, i + d = hi → I i a → loopN bi fi d i a = some false := by
  intro d
  induction d with
  | zero => intro i a h ha; have := hI i a ha; omega
  | succ d ih =>
    intro i a h ha
    obtain ⟨p, a', h2, h3⟩ := hstep i a (by omega) ha
    simp only [loopN, h2]
    cases p
    · rfl
    · exact ih (i + 1) a' (by omega) (h3 rfl)

theorem count_set : ∀ (u : List Bool) (k : Nat), k < u.length → u.getD k default = false → (u.set k true).count true = u.count true + 1
  | [], _, h, _ => by simp at h
  | b :: u, 0, _, h => by simp at h; subst h; simp
  | b :: u, k + 1, h, h2 => by
    have := count_set u k (by simpa using h) (by simpa using h2)
    simp only [List.set_cons_succ, List.count_cons, this]
    omega

theorem calls_facts {L : List PanCall} (h : callsB L = true) : L.length ≤ 10 ∧ ∀ i, i < L.length → selfB (L.getD i default) = true := by
  unfold callsB at h
  rw [Bool.and_eq_true] at h
  refine ⟨of_decide_eq_true h.1, fun i hi => ?_⟩
  have := (allN_iff _ _ _).1 h.2 i (Nat.zero_le _) (by omega)
  rw [Bool.and_eq_true] at this
  unfold callB at this
  rw [Bool.and_eq_true] at this
  exact this.1.1
theorem self_end {c : PanCall} (h : selfB c = true) : 0 ≤ c.End ∧ decide ((0 : Int) < c.End) = !decide (c.End = 0) := by
  unfold selfB at h
  simp only [Bool.and_eq_true] at h
  obtain ⟨_, _, _, _, _, _, c7, c8⟩ := h
  have c7 := inB_of c7
  unfold endB at c8
  by_cases h0 : c.End = 0
  · rw [decide_eq_true h0, decide_eq_false (by omega)]; exact ⟨by omega, rfl⟩
  · rw [decide_eq_false h0, cond_false] at c8
    simp only [Bool.and_eq_true] at c8
    have := inB_of c8.2.1
    rw [decide_eq_false h0, decide_eq_true (by omega)]; exact ⟨by omega, rfl⟩

/-- None that is left had ended when it began. -/
def mayB (L : List PanCall) (u : List Bool) (k i : Nat) : Bool := u.getD i default || (decide (i = k) || (decide ((L.getD i default).End = 0) || !decide ((L.getD i default).End < (L.getD k default).Begin)))

theorem s_l63May_eq (L : List PanCall) (u : List Bool) (k : Nat) (hu : u.length = L.length) (hk : k < L.length) (hc : ∀ i, i < L.length → selfB (L.getD i default) = true) :
    s_l63May L u k = some (allN (mayB L u k) L.length 0 && !u.getD k default) := by
  unfold s_l63May
  refine (loopN_all (r0 := some false) (mayB L u k) L.length 0 (fun i κ _ hi => ?_)).trans ?_
  · simp only [ix_nat (show i < u.length by omega), ix_nat hk, cond_not]
    rw [(self_end (hc i (by omega))).2]
    have e : decide (((i : Nat) : Int) = ((k : Nat) : Int)) = decide (i = k) := by
      by_cases h : i = k
      · rw [decide_eq_true h, decide_eq_true (by omega)]
      · rw [decide_eq_false h, decide_eq_false (by omega)]
    rw [e]
    unfold mayB
    cases u.getD i default <;> cases decide (i = k) <;> cases decide ((L.getD i default).End = 0) <;> cases decide ((L.getD i default).End < (L.getD k default).Begin) <;> rfl
  · rw [ix_nat (by omega)]
    cases allN (mayB L u k) L.length 0 <;> rfl

/-- What holds at the loops' heads. -/
structure HInv (L : List PanCall) (i : Nat) (v : List Bool × HistState) : Prop where
  len : v.1.length = L.length
  st : StOk v.2
  cnt : v.1.count true = i

abbrev sBody (L : List PanCall) (O : List Int) : Nat → List Bool × HistState → (List Bool × HistState → Option Bool) → Option Bool := fun i6 (v23 : List Bool × HistState) κ24 => (s_l6In (O.getD i6 default) 0 (((L.length : Nat) : Int) - 1)).bind (fun y27 => cond (!y27) (some false) ((s_l63May L v23.1 (O.getD i6 default)).bind (fun y28 => cond (!y28) (some false) (ix L (O.getD i6 default) (fun x29 => (s_l63Fits v23.2 x29).bind (fun y30 => cond (!y30.2) (some false) (ix v23.1 (O.getD i6 default) (fun _ => κ24 ((v23.1.set (O.getD i6 default).toNat true), y30.1))))))))) 
abbrev iBody (L : List PanCall) (O : List Int) : Nat → List Bool × HistState → (List Bool × HistState → Option Bool) → Option Bool := fun i5 (v34 : List Bool × HistState) κ35 => (i_in (O.getD i5 default) 0 (((L.length : Nat) : Int) - 1)).bind (fun y37 => cond (!y37) (some false) (ix v34.1 (O.getD i5 default) (fun _ => cond (v34.1.getD (O.getD i5 default).toNat default) (some false) (loopN (fun i39 (v42 : Unit) κ43 => lt (L.getD i39 default) (fun x44 => cond (!decide (((i39 : Nat) : Int) = (O.getD i5 default))) (ix v34.1 ((i39 : Nat) : Int) (fun _ => cond (!(v34.1.getD i39 default)) (cond (!decide (x44.End = 0)) (ix L (O.getD i5 default) (fun x45 => cond (decide (x44.End < x45.Begin)) (some false) (κ43 ()))) (κ43 ())) (κ43 ()))) (κ43 ()))) (fun (v42 : Unit) => ix L (O.getD i5 default) (fun x46 => (i_does v34.2 x46).bind (fun y47 => cond (!y47.2) (some false) (ix v34.1 (O.getD i5 default) (fun _ => κ35 ((v34.1.set (O.getD i5 default).toNat true), y47.1)))))) L.length 0 ()))))

theorem step2 (L : List PanCall) (O : List Int) (hl : L.length ≤ 10) (hc : ∀ i, i < L.length → selfB (L.getD i default) = true) (i : Nat) (v : List Bool × HistState) (hv : HInv L i v) :
    ∃ p v', (∀ κ, sBody L O i v κ = cond p (κ v') (some false)) ∧ (∀ κ, iBody L O i v κ = cond p (κ v') (some false)) ∧ (p = true → HInv L (i + 1) v') := by
  obtain ⟨u, s⟩ := v
  have hlen := hv.len
  simp only at hlen
  unfold sBody iBody
  generalize O.getD i default = a
  simp only [s_l6In_eq, i_in_eq, Option.bind_some, cond_not]
  cases hin : inB a 0 (((L.length : Nat) : Int) - 1)
  · exact ⟨false, (u, s), fun κ => rfl, fun κ => rfl, fun h => by cases h⟩
  have hin := inB_of hin
  obtain ⟨k, rfl⟩ : ∃ k : Nat, a = k := ⟨a.toNat, by omega⟩
  have hk : k < L.length := by omega
  simp only [cond_true, show ((k : Nat) : Int).toNat = k from rfl]
  rw [s_l63May_eq L u k hlen hk hc]
  obtain ⟨r, h1, h2, h3⟩ := fits_eq hv.st (L.getD k default) (hc k hk)
  simp only [Option.bind_some, ix_nat hk, ix_nat (show k < u.length by omega)]
  simp only at h1 h2
  rw [h1]
  have hloop : ∀ after : Unit → Option Bool, loopN (fun i39 (v42 : Unit) κ43 => lt (L.getD i39 default) (fun x44 => cond (decide (((i39 : Nat) : Int) = ((k : Nat) : Int))) (κ43 ()) (ix u ((i39 : Nat) : Int) (fun _ => cond (u.getD i39 default) (κ43 ()) (cond (decide (x44.End = 0)) (κ43 ()) (cond (decide (x44.End < (L.getD k default).Begin)) (some false) (κ43 ()))))))) after L.length 0 () =
      cond (allN (mayB L u k) L.length 0) (after ()) (some false) := by
    intro after
    refine loopN_all (r0 := some false) (mayB L u k) L.length 0 (fun i κ _ hi => ?_)
    simp only [lt_eq]
    rw [ix_nat (show i < u.length by omega)]
    have e : decide (((i : Nat) : Int) = ((k : Nat) : Int)) = decide (i = k) := by
      by_cases h : i = k
      · rw [decide_eq_true h, decide_eq_true (by omega)]
      · rw [decide_eq_false h, decide_eq_false (by omega)]
    rw [e]
    unfold mayB
    cases u.getD i default <;> cases decide (i = k) <;> cases decide ((L.getD i default).End = 0) <;> cases decide ((L.getD i default).End < (L.getD k default).Begin) <;> rfl
  simp only [hloop]
  simp only [Option.bind_some]
  rw [h2]
  simp only [Option.bind_some]
  refine ⟨allN (mayB L u k) L.length 0 && (!u.getD k default && r.2), (u.set k true, r.1), fun κ => ?_, fun κ => ?_, fun hp => ?_⟩
  · cases allN (mayB L u k) L.length 0 <;> cases u.getD k default <;> cases r.2 <;> rfl
  · cases allN (mayB L u k) L.length 0 <;> cases u.getD k default <;> cases r.2 <;> rfl
  · simp only [Bool.and_eq_true, Bool.not_eq_true'] at hp
    refine ⟨by simpa using hlen, h3, ?_⟩
    show (u.set k true).count true = i + 1
    rw [count_set u k (by omega) hp.2.1]
    have := hv.cnt
    simp only at this
    omega

theorem stOk0 : StOk ({ Next := 1, Servers := 3, Disks := [], Pieces := [] } : HistState) :=
  ⟨⟨by decide, by decide⟩, ⟨by decide, by decide⟩, by decide, fun i hi => absurd hi (Nat.not_lt_zero i), fun i j _ hj => absurd hj (Nat.not_lt_zero j)⟩

theorem histDo_eq (L : List PanCall) (O : List Int) : ∃ b, s_HistDo L O = some b ∧ i_HistDo L O = some b := by
  unfold s_HistDo i_HistDo
  rw [s_l61CallsOk_eq, i_callsOk_eq]
  cases hcb : callsB L
  · exact ⟨false, rfl, rfl⟩
  obtain ⟨hl, hc⟩ := calls_facts hcb
  simp only [Option.bind_some, Bool.not_true, cond_false]
  simp only [ck_pos (show 0 ≤ ((L.length : Nat) : Int) ∧ ((L.length : Nat) : Int) * 1 ≤ 140737488355328 by omega)]
  have h0 : HInv L 0 (List.replicate L.length false, ({ Next := 1, Servers := 3, Disks := [], Pieces := [] } : HistState)) :=
    ⟨by simp, stOk0, by simp [List.count_replicate]⟩
  by_cases hlong : L.length < O.length
  · rw [decide_eq_true (by omega)]
    refine ⟨false, rfl, ?_⟩
    simp only [i_HistStart, Option.bind_some]
    refine loop_long (HInv L) O.length L.length hlong (fun i v _ hv => ?_) (fun i v hv => ?_) O.length 0 _ (by omega) h0
    · obtain ⟨p, v', _, h2, h3⟩ := step2 L O hl hc i v hv
      exact ⟨p, v', h2, h3⟩
    · have := List.count_le_length (a := true) (l := v.1)
      rw [hv.cnt, hv.len] at this; exact this
  · rw [decide_eq_false (by omega)]
    simp only [cond_false, i_HistStart, s_HistStart, Option.bind_some]
    refine loop2 (bs := sBody L O) (bi := iBody L O) (HInv L) O.length (fun i v _ hv => step2 L O hl hc i v hv) (fun v hv => ?_) O.length 0 _ (by omega) h0
    have hlen := hv.len
    refine ⟨allN (fun i => v.1.getD i default || decide ((L.getD i default).End = 0)) L.length 0, ?_, ?_⟩
    · refine (loopN_all (r0 := some false) (fun i => v.1.getD i default || decide ((L.getD i default).End = 0)) L.length 0 (fun i κ _ hi => ?_)).trans (by cases allN _ _ _ <;> rfl)
      simp only [ix_nat (show i < v.1.length by omega), cond_not]
      rw [(self_end (hc i (by omega))).2]
      cases v.1.getD i default <;> cases decide ((L.getD i default).End = 0) <;> rfl
    · refine (loopN_all (r0 := some false) (fun i => v.1.getD i default || decide ((L.getD i default).End = 0)) L.length 0 (fun i κ _ hi => ?_)).trans (by cases allN _ _ _ <;> rfl)
      simp only [lt_eq, ix_nat (show i < v.1.length by omega), cond_not]
      cases v.1.getD i default <;> cases decide ((L.getD i default).End = 0) <;> rfl

/-- THE PLAIN LAW. -/
theorem law_HistDo (L : List PanCall) (O : List Int) (hL : L.length ≤ 140737488355328) : l_FnExactHistDo L O = some true := by
  unfold l_FnExactHistDo
  by_cases h1 : (1048576 : Int) < ((O.length : Nat) : Int)
  · rw [decide_eq_true h1]; rfl
  rw [decide_eq_false h1, l_szPanCallS_eq L hL]
  simp only [cond_false, Option.bind_some]
  by_cases h2 : L.length ≤ 1048576
  · rw [if_pos h2, decide_eq_false (by omega), l_toPanCallS_eq L (by omega), l_toIntS_eq O (by omega)]
    obtain ⟨b, hs, hi⟩ := histDo_eq L O
    simp only [cond_false, Option.bind_some, hs, hi, l_eqPanCallS_eq, l_eqIntS_eq]
    cases b <;> rfl
  · rw [if_neg h2]; rfl
end Go.Proofs.PanH

/-! Part U: what a row's arguments read as; a law's row out of its contract. -/
namespace Go.Vs
open Go.ChangeShapes Go.WideShapes Go.ChangeAt Go.RowKit Go.Deep

/-- All memory stays as it is. -/
def gAll (w : World) : Gh := { Fz := fun b => b < w.heap.size, Tz := fun _ => False, om := fun _ => none, rv := fun _ => undef, df := fun _ => False }

/-- What reads as of this type is a value of a Lean type. -/
def Rd (P : Program) (t : TypeId) {α : Type} (c : α → Nat → U) (sz : Nat) (ok : α → Prop) : Prop :=
  ∀ {H : Type} {enc : TypeId × Value → H} {w : World} {fuel : Nat} {cs : List Value} {x : DataW H × List MemPlace}, DataW.trod enc P w 0 (fun _ => true) true fuel t cs = some x → (∀ n ∈ DataW.weights P t x.1, n ≤ reachBytes) →
    ∃ a : α, ok a ∧ cs.length = sz ∧ ∀ j, j < sz → ∃ v, cs[j]? = some v ∧ RU w (gAll w) (c a j) v

section
variable {P : Program}
def okI (n : Int) : Prop := -9223372036854775808 ≤ n ∧ n < 9223372036854775808
def okT {α : Type} (_ : α) : Prop := True
def okS (s : ByteArray) : Prop := s.size ≤ reachBytes
def okL {α : Type} (by_ : Nat) (ok : α → Prop) (l : List α) : Prop := l.length * by_ ≤ reachBytes ∧ ∀ x ∈ l, ok x

theorem okL_len {α : Type} {b : Nat} {ok : α → Prop} {l : List α} (hb : 0 < b) (h : okL b ok l) : l.length ≤ 140737488355328 := by
  have h1 := h.1
  have h2 : l.length * 1 ≤ l.length * b := Nat.mul_le_mul_left _ hb
  have h3 : reachBytes ≤ 140737488355328 := by decide
  omega
theorem rd_int {t : TypeId} (hu : P.underlying t = some (.int .i64)) : Rd P t cInt 1 okI := by
  intro H enc w fuel cs x h hw0
  obtain ⟨n, rfl, _, hw⟩ := DataW.trod_int hu h
  refine ⟨n, ?_, rfl, fun j hj => ?_⟩
  rotate_left
  · obtain rfl : j = 0 := by omega
    exact ⟨_, rfl, rfl⟩
  simp [Lit.wf, IntKind.min, IntKind.max, IntKind.signed, IntKind.bits] at hw
  unfold okI; omega
theorem rd_bool {t : TypeId} (hu : P.underlying t = some .bool) : Rd P t cBool 1 okT := by
  intro H enc w fuel cs x h hw0
  obtain ⟨b, rfl, _⟩ := DataW.trod_bool hu h
  refine ⟨b, trivial, rfl, fun j hj => ?_⟩
  obtain rfl : j = 0 := by omega
  exact ⟨_, rfl, rfl⟩
theorem rd_str {t : TypeId} (hu : P.underlying t = some .string) : Rd P t cStr 1 okS := by
  intro H enc w fuel cs x h hw0
  obtain ⟨s, rfl, rfl, hs⟩ := DataW.trod_string hu h
  refine ⟨s, by have := hw0 s.data.toList.length (by simp [DataW.weights]); simpa [okS] using this, rfl, fun j hj => ?_⟩
  obtain rfl : j = 0 := by omega
  exact ⟨_, rfl, rfl⟩

theorem cells?_get {w : World} {base n : Nat} {a : Addr} {cs : List Value} (h : w.cells? base a n = some cs) : cs.length = n ∧ ∀ j v, cs[j]? = some v → w.cell? (a.add j) = some v := by
  unfold World.cells? at h
  split at h
  case isFalse => cases h
  case isTrue =>
    refine ⟨by simpa using mapM_some_length h, fun j v hv => ?_⟩
    have hj : j < cs.length := (List.getElem?_eq_some_iff.1 hv).1
    have hl : cs.length = n := by simpa using mapM_some_length h
    have h2 := mapM_some_get h j j (by rw [List.getElem?_range (by omega)])
    rw [h2, hv]
theorem cell_block {w : World} {a : Addr} {v : Value} (h : w.cell? a = some v) : a.block < w.heap.size ∧ a.spot = none := by
  unfold World.cell? at h
  split at h
  case h_2 => cases h
  case h_1 c _ _ he =>
    split at h
    · cases h
    · rename_i hs
      refine ⟨?_, by simpa using hs⟩
      rcases Nat.lt_or_ge a.block w.heap.size with h1 | h1
      · exact h1
      · rw [Array.getElem?_eq_none h1] at he; cases he

theorem rd_slice {t e : TypeId} {α : Type} [Inhabited α] {c : α → Nat → U} {sz : Nat} {ok : α → Prop} (hu : P.underlying t = some (.slice e)) (hz : P.cellsOf e = sz) (h0 : 0 < sz) {by_ : Nat} (hb : P.bytesOf e = by_) (hb0 : 0 < by_) (he : Rd P e c sz ok) :
    Rd P t (fun L _ => ul c sz false L) 1 (okL by_ ok) := by
  intro H enc w fuel cs x h hw0
  subst hz; subst hb
  rcases open_slice hu h with ⟨rfl, _⟩ | ⟨a, len, cap, m, n, D, Pl, rfl, _, hl, hm, hmm, rfl, hel⟩
  · refine ⟨[], ⟨by simp, fun x hx => absurd hx List.not_mem_nil⟩, rfl, fun j hj => ?_⟩
    obtain rfl : j = 0 := by omega
    refine ⟨_, rfl, ?_⟩
    exact ⟨none, 0, rfl, Nat.le_refl _, Nat.zero_le _, fun hp => absurd hp (Nat.lt_irrefl 0)⟩
  · simp only [if_true] at hmm
    subst hmm
    have hw1 : len * P.bytesOf e ≤ reachBytes := by
      have h1 := hw0 ((len + (m - len)) * P.bytesOf e) (by simp [DataW.weights, hu])
      refine Nat.le_trans (Nat.mul_le_mul_right _ ?_) h1
      omega
    have hw2 : ∀ i, i < len → ∀ k ∈ DataW.weights P e (D i), k ≤ reachBytes := by
      intro i hi k hk
      refine hw0 k ?_
      simp only [DataW.weights, hu]
      refine List.mem_cons_of_mem _ (List.mem_append_left _ ?_)
      have hmem : D i ∈ (List.range len).map D := List.mem_map.2 ⟨i, List.mem_range.2 hi, rfl⟩
      generalize (List.range len).map D = l at hmem
      induction l with
      | nil => cases hmem
      | cons d r ih =>
        simp only [DataW.weightsAll, List.mem_append]
        rcases List.mem_cons.1 hmem with h1 | h1
        · subst h1; exact .inl hk
        · exact .inr (ih h1)
    have hex : ∀ i, i < len → ∃ y : α, ok y ∧ ∀ j, j < P.cellsOf e → ∃ v, w.cell? (a.add (i * P.cellsOf e + j)) = some v ∧ RU w (gAll w) (c y j) v := by
      intro i hi
      obtain ⟨cs', h1, h2⟩ := hel i (by omega)
      obtain ⟨y, hy, h3, h4⟩ := he h2 (hw2 i hi)
      refine ⟨y, hy, fun j hj => ?_⟩
      obtain ⟨v, h5, h6⟩ := h4 j hj
      exact ⟨v, by rw [← add_add]; exact (cells?_get h1).2 j v h5, h6⟩
    obtain ⟨f, hf⟩ := choose_lt hex
    refine ⟨(List.range len).map f, ⟨by simpa using hw1, fun y hy => ?_⟩, rfl, fun j hj => ?_⟩
    rotate_left
    obtain rfl : j = 0 := by omega
    refine ⟨_, rfl, ?_⟩
    rotate_left
    · obtain ⟨i, hi, rfl⟩ := List.mem_map.1 hy
      exact (hf i (List.mem_range.1 hi)).1
    · have hb : len ≤ bound := by
        have h1 : len * 1 ≤ len * P.bytesOf e := Nat.mul_le_mul_left _ hb0
        have h2 : reachBytes ≤ bound := by decide
        omega
      have hlen : ((List.range len).map f).length = len := by simp
      refine ⟨some a, m, by rw [hlen], by rw [hlen]; exact hl, by rw [hlen]; exact hb, fun hp => ?_⟩
      rw [hlen] at hp
      obtain ⟨b, o, sp⟩ := a
      obtain ⟨v, h1, _⟩ := (hf 0 (by omega)).2 0 h0
      have hblk := cell_block h1
      have hadd : (⟨b, o, sp⟩ : Addr).add (0 * P.cellsOf e + 0) = ⟨b, o, sp⟩ := by rw [Nat.zero_mul]; rfl
      rw [hadd] at hblk
      have hsp : sp = none := hblk.2
      subst hsp
      have hblt : b < w.heap.size := hblk.1
      refine ⟨b, o, rfl, .inl hblt, fun i hi j hj => ?_⟩
      rw [hlen] at hi
      obtain ⟨v, h1, h2⟩ := (hf i hi).2 j hj
      refine ⟨v, by rw [← addr_add]; exact h1, ?_⟩
      have : ((List.range len).map f).getD i default = f i := by
        rw [List.getD_eq_getElem?_getD]; simp [hi]
      show RU w (gAll w) (c (((List.range len).map f).getD i default) j) v
      rw [this]; exact h2

theorem struct_us {H : Type} {enc : TypeId × Value → H} {w : World} {fuel : Nat} {cs : List Value} {x : DataW H × List MemPlace} {t : TypeId} {fs : Array Field} (ht : P.underlying t = some (.struct fs))
    (h : DataW.trod enc P w 0 (fun _ => true) true fuel t cs = some x) (hw0 : ∀ n ∈ DataW.weights P t x.1, n ≤ reachBytes) :
    cs.length = P.cellsOf t ∧ ∀ (i : Nat) (f : Field), fs[i]? = some f → ∃ y n, DataW.trod enc P w 0 (fun _ => true) true n f.type ((cs.drop f.offset).take (P.cellsOf f.type)) = some y ∧ ∀ k ∈ DataW.weights P f.type y.1, k ≤ reachBytes := by
  obtain ⟨xs, n, _, rfl, h1, h2, h3⟩ := DataW.trod_struct ht h
  refine ⟨h1, fun i f hf => ?_⟩
  have hi : i < fs.size := by
    rcases Nat.lt_or_ge i fs.size with h4 | h4
    · exact h4
    · rw [Array.getElem?_eq_none h4] at hf; cases hf
  have := h3 i f hf
  rw [List.getElem?_eq_getElem (by omega)] at this
  refine ⟨_, n, this, fun k hk => hw0 k ?_⟩
  simp only [DataW.weights, ht]
  exact DataW.weights_mem_each (j := i) (t := f.type) (d := (xs[i]'(by omega)).1) (by simp [hf]) (by rw [List.getElem?_map, List.getElem?_eq_getElem (by omega)]; rfl) k hk

theorem rdf {cs : List Value} {o z : Nat} {Q : Value → Prop} {j : Nat} (h : ∃ v, ((cs.drop o).take z)[j]? = some v ∧ Q v) : ∃ v, cs[o + j]? = some v ∧ Q v := by
  obtain ⟨v, h1, h2⟩ := h
  refine ⟨v, ?_, h2⟩
  rw [List.getElem?_take] at h1
  split at h1
  · rw [List.getElem?_drop] at h1; exact h1
  · cases h1

/-- An argument of one cell. -/
theorem rs_one {t : TypeId} {α : Type} {c : α → Nat → U} {ok : α → Prop} (hr : Rd P t c 1 ok) {H : Type} {enc : TypeId × Value → H} {w : World} {v : Value} {d : DataW H} {ps : List MemPlace}
    (h : DataW.Trod enc P w 0 (fun _ => true) true t v d ps) (hw : ∀ n ∈ DataW.weights P t d, n ≤ reachBytes) (hv : v.cells = #[v]) : ∃ a : α, ok a ∧ RS w (gAll w) (.val false [.u (c a 0)]) v := by
  obtain ⟨fuel, hf⟩ := h
  obtain ⟨a, hk, _, ha⟩ := hr hf hw
  obtain ⟨u, h1, h2⟩ := ha 0 (by omega)
  rw [hv] at h1
  simp at h1
  subst h1
  exact ⟨a, hk, RV.of_cell h2⟩
/-- An argument of many. -/
theorem rs_agg {t : TypeId} {α : Type} {c : α → Nat → U} {ok : α → Prop} {sz : Nat} (hr : Rd P t c sz ok) {H : Type} {enc : TypeId × Value → H} {w : World} {v : Value} {d : DataW H} {ps : List MemPlace}
    (h : DataW.Trod enc P w 0 (fun _ => true) true t v d ps) (hw : ∀ n ∈ DataW.weights P t d, n ≤ reachBytes) (hv : ∃ cs, v = .agg cs) : ∃ a : α, ok a ∧ RS w (gAll w) (.val true ((List.range sz).map fun j => .u (c a j))) v := by
  obtain ⟨fuel, hf⟩ := h
  obtain ⟨a, hk, hl, ha⟩ := hr hf hw
  obtain ⟨cs, rfl⟩ := hv
  exact ⟨a, hk, cs.toList, by simp, RLs.of_us _ _ hl ha⟩

theorem Con.run {f : FuncId} {ags : List S} {os1 : List Ob} (hc : Con P f ags [] (vbool true) os1) {w : World} {vals : List Value} (h : RSs w (gAll w) ags vals) :
    Calls P f vals.toArray w fun e w' => e = .returned (.bool true) ∧ Below w.heap.size w w' := by
  refine Calls.mono (hc.2 w (gAll w) vals ⟨h, fun r hr => absurd hr (Nat.not_lt_zero r), fun r => ⟨fun h => h.elim, fun h => absurd h (Nat.not_lt_zero r)⟩, fun b hb => ⟨hb, rfl⟩, fun b hb => hb.elim, fun b r hb => by cases hb⟩) ?_
  rintro e w' ⟨v, g, rfl, hp⟩
  refine ⟨?_, hp.os, hp.tape, hp.output, hp.size, fun k hk => hp.block k hk rfl⟩
  have : v = .bool true := RV.cell hp.res
  rw [this]

/-- Arguments read behind the call as they did, with whatever spare places. -/
theorem trodAll_any {H : Type} {enc : TypeId × Value → H} {W W' : World} {sp : Nat → Bool} (hl : laidOutB P = true) (hb : Below W.heap.size W W') : ∀ {ts : List TypeId} {vs : List Value} {ds : List (DataW H)} {ps : List MemPlace},
    (∀ t ∈ ts, P.readableRec t = true ∧ t < P.types.size) → DataW.TrodAll enc P W 0 (fun _ => true) true ts vs ds ps → (∀ x ∈ ps, x.block < W.heap.size) → (∀ x ∈ ps, sp x.block = true) →
    DataW.TrodAll enc P W' 0 sp true ts vs ds ps
  | [], [], [], _, _, h, _, _ => h
  | t :: ts, v :: vs, d :: ds, _, ht, ⟨p, q, h1, h2, e⟩, hlt, hs => by
    subst e
    have h3 := ht t (List.mem_cons_self ..)
    exact ⟨p, q, WideElems.Trod_stays hl h3.1 h3.2 h1 (fun x hx => hb.same (hlt x (List.mem_append_left _ hx))) (fun x hx => hs x (List.mem_append_left _ hx)),
      trodAll_any hl hb (fun t h => ht t (List.mem_cons_of_mem _ h)) h2 (fun x hx => hlt x (List.mem_append_right _ hx)) (fun x hx => hs x (List.mem_append_right _ hx)), rfl⟩

/-- A law's row: one result, no variables, nothing turned. -/
theorem law_post {H : Type} {enc : TypeId × Value → H} {f : Func} {s : ChangeSpec} {apart fresh handsOn again : Bool} {W W' : World} {args : Array Value} {v : Value} {ds : List (DataW H)} {before : List MemPlace} (hl : laidOutB P = true)
    (ht : ∀ t ∈ f.params.toList, P.readableRec t = true ∧ t < P.types.size) (hW : DataW.Whole enc P f.params.toList s.vars apart W args.toList ds [] before) (hnv : s.vars = []) (hb : Below W.heap.size W W')
    (hres : ∀ (b : Nat) (sp : Nat → Bool) (hd : Bool), DataW.TrodAll enc P W' b sp hd f.resultTypes.toList (v.resultList f.resultTypes.size) (s.fn H (ds ++ [])).results []) (hargs : (s.fn H (ds ++ [])).args = ds) (hvars : (s.fn H (ds ++ [])).vars = [])
    (hok : ∀ (j : Nat) (t : TypeId) (r : Value), f.resultTypes[j]? = some t → (v.resultList f.resultTypes.size)[j]? = some r → Value.okWide P W' .any 0 t r) :
    s.post enc P f apart fresh handsOn again W args v W' := by
  have lt : ∀ x ∈ before, x.block < W.heap.size := fun x hx => hW.lt x hx
  have hW0 := hW
  obtain ⟨p, q, hA, hV, e, hz, hn⟩ := hW
  have hq : q = [] := by rw [hnv] at hV; exact (trodVars_none hV).2
  subst hq
  rw [List.append_nil] at e
  subst e
  have stay : ∀ sp : Nat → Bool, (∀ x ∈ before, sp x.block = true) → DataW.TrodAll enc P W' 0 sp true f.params.toList args.toList (s.fn H (ds ++ [])).args before := fun sp hsp => by
    rw [hargs]; exact trodAll_any hl hb ht hA lt hsp
  have vars : ∀ sp : Nat → Bool, DataW.TrodVars enc P W' sp s.vars (s.fn H (ds ++ [])).vars [] := fun sp => by rw [hnv, hvars]; rfl
  refine ⟨ds, [], before, [], before, [], hW0, hres _ _ _, stay _ (fun x hx => decide_eq_true (lt x hx)), vars _, World.keptBut_mono (fun x hx => ⟨hx, .inr (.inl hx)⟩) (hb.frame (· ∈ before)), fun _ => ⟨hok, _, _, ([] ++ before) ++ [], ⟨[] ++ before, [], trodAll_append (stay _ (fun _ _ => rfl)) (hres _ _ _), vars _, rfl, ?_, ?_⟩, ?_⟩⟩
  · intro b off hx
    simp only [List.nil_append, List.append_nil] at hx
    rw [hb.frozen (lt _ hx)]; exact hz b off hx
  · intro ha; simpa using hn ha
  · intro x hx _; simpa using hx

theorem okWide_one {t : TypeId} {d : TypeDesc} (ht : P.underlying t = some d) (hd : (match d with | .int _ | .string | .bool => true | _ => false) = true) {w : World} {r : _root_.Go.Reach} {base : Nat} {v : Value} (h : Value.okWide P w r base t v) : v.cells = #[v] := by
  cases d <;> first | (cases hd; done) | skip
  · obtain ⟨_, rfl⟩ := okWide_bool ht h; rfl
  · obtain ⟨_, rfl⟩ := okWide_int ht h; rfl
  · obtain ⟨_, rfl⟩ := okWide_string ht h; rfl
theorem okWide_agg {t : TypeId} {fs : Array Field} (ht : P.underlying t = some (.struct fs)) {w : World} {r : _root_.Go.Reach} {base : Nat} {v : Value} (h : Value.okWide P w r base t v) : ∃ cs, v = .agg cs := by
  unfold Value.okWide at h
  rw [ht] at h
  obtain ⟨cs, e, _⟩ := h
  exact ⟨cs, e⟩
end
end Go.Vs
