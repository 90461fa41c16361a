/- Words and walks for the proof. -/
import Derived.Test.YtkembmbgkbonmaaGreatDoorBoD
import Derived.Shelf.Strings.Builder1
import Derived.Shelf.Strings.SplitShaped
import Derived.Shelf.Strconv.Itoa3
import Derived.Lib.ItoaLen
import Derived.Tactics
import Derived.Tactics2
set_option linter.unusedVariables false
set_option linter.unusedSimpArgs false
set_option linter.unusedSectionVars false
namespace Go.Vs
open Go.Shelf Go.RowKit Go.Sort Go.Lib Go.Proofs
section
variable {P : Program} {ρ : Ren}
def Kp2 (w : World) (b : Nat) (v : Value) (w' : World) : Prop := w.heap.size ≤ w'.heap.size ∧ ∀ k, k < w.heap.size → k ≠ b → v.ownBlock ≠ some k → w'.heap[k]? = w.heap[k]?
set_option maxHeartbeats 2000000 in
set_option maxRecDepth 100000 in
theorem bldCheck (L : Lays.n240 P ρ) (X : Builder.X72 P ρ) (B b : Nat) (p v : Value) (bs : List Value) (w : World) (hB : B ≤ b) (hp : p = .pointer none ∨ p = .pointer (some ⟨b, 0, none⟩)) (hbk : w.heap[b]? = some (.cells #[p, v] (ρ.t 72) (0, 0))) :
  Calls P (ρ.f 240) #[.pointer (some ⟨b, 0, none⟩)] w fun e w' => e = .returned (.tuple #[]) ∧ w'.heap[b]? = some (.cells #[.pointer (some ⟨b, 0, none⟩), v] (ρ.t 72) (0, 0)) ∧ Below B w w' ∧ w'.heap.size = w.heap.size ∧ ∀ k, k ≠ b → w'.heap[k]? = w.heap[k]? := by
 have c0 : w.cell? ⟨b, 0, none⟩ = some p := by rw [Lib.cell_of_heap hbk]; rfl
 rcases hp with rfl | rfl
 ·refine (Any.Builder_copyCheck_fresh L X b w c0 (by simp [World.shape?, hbk]) (Lib.frozen_of_heap hbk 0)).mono ?_
  rintro e w' ⟨rfl, rfl⟩
  have hlt : b < w.heap.size := by
   rcases Nat.lt_or_ge b w.heap.size with h' | h'
   ·exact h'
   ·rw [Array.getElem?_eq_none h'] at hbk; cases hbk
  refine ⟨rfl, ?_, (Below.refl B w).setCell (p := ⟨b, 0, none⟩) hB _, ?_, fun k hk => Below.heap_setCell _ _ _ _ (fun e => hk (by rw [e]))⟩
  ·simp only [World.setCell, Array.getElem?_modify, if_true, hbk, Option.map_some]
   rfl
  ·simp [World.setCell]
 ·refine (Any.Builder_copyCheck_used L X b w c0).mono ?_
  rintro e w' ⟨rfl, rfl⟩
  exact ⟨rfl, hbk, Below.refl B _, rfl, fun _ _ => rfl⟩
set_option maxHeartbeats 2000000 in
set_option maxRecDepth 100000 in
theorem bldWrite (L : Lays.n166 P ρ) (X : Builder.Extra P ρ) (B b n : Nat) (p v : Value) (bs : List Value) (s : ByteArray) (w : World) (hB : B ≤ b) (hp : p = .pointer none ∨ p = .pointer (some ⟨b, 0, none⟩)) (hbk : w.heap[b]? = some (.cells #[p, v] (ρ.t 72) (0, 0)))
  (hown0 : w.ownsRow B (ρ.t 5) 1 v n bs) (hne : v.ownBlock ≠ some b) (hlen : n + s.size ≤ 140737488355328) (hBw : B ≤ w.heap.size) :
  Calls P (ρ.f 166) #[.pointer (some ⟨b, 0, none⟩), .string s] w fun e w' => e = .returned (.tuple #[.int .i64 s.size, .nilIface]) ∧ ∃ v', w'.heap[b]? = some (.cells #[.pointer (some ⟨b, 0, none⟩), v'] (ρ.t 72) (0, 0)) ∧
   w'.ownsRow B (ρ.t 5) 1 v' (n + s.size) (bs ++ strCells s) ∧ v'.ownBlock ≠ some b ∧ Heir w v v' ∧ Below B w w' ∧ Kp2 w b v w' := by
 obtain ⟨i0, hi, hz0, hz1, hz2⟩ := info_parts X.infoByte
 have mixed := L.mixed
 have t72 := L.t72; have a72 := L.a72; have z72 := L.z72; have v72 := L.v72; have u72 := run_underlying L.t72
 have t70 := L.t70; have a70 := L.a70; have z70 := L.z70; have v70 := L.v70; have u70 := run_underlying L.t70
 have t37 := L.t37; have a37 := L.a37; have z37 := L.z37; have v37 := L.v37; have u37 := run_underlying L.t37
 have t3 := L.t3; have a3 := L.a3; have z3 := L.z3; have v3 := L.v3; have u3 := run_underlying L.t3
 have t9 := L.t9; have a9 := L.a9; have z9 := L.z9; have v9 := L.v9; have u9 := run_underlying L.t9
 have t4 := L.t4; have a4 := L.a4; have z4 := L.z4; have v4 := L.v4; have u4 := run_underlying L.t4
 have t164 := L.t164; have a164 := L.a164; have z164 := L.z164; have v164 := L.v164; have u164 := run_underlying L.t164
 have t5 := X.t5; have a5 := X.a5; have z5 := X.z5; have v5 := X.v5; have u5 := run_underlying X.t5
 have e240 : ∀ args w, (callFunc (ρ.f 240) args).run P w = .ok (.enter (ρ.f 240) args) w := enters_of L.f240 (by kernel_rfl) rfl
 go_enter L.f166, Body.n166_ntmps ρ
 go_wp2_with (go_at_fn (ρ.f 240); refine (bldCheck { L with } X.toX72 B b p v bs _ hB hp hbk).mono ?_)
 rintro e w1 ⟨rfl, hbk1, hb1, hsz1, hk1⟩
 have hown : w1.ownsRow B (ρ.t 5) 1 v n bs := by
  refine ⟨hown0.1, ?_⟩
  rcases hown0.2 with h0 | ⟨g, cap, cur, hv, hb, hh, r⟩
  ·exact .inl h0
  ·refine .inr ⟨g, cap, cur, hv, hb, ?_, r⟩
   rw [hk1 g (fun e => hne (by rw [hv, e]; rfl))]; exact hh
 have c0 : w1.cell? ⟨b, 0, none⟩ = some (.pointer (some ⟨b, 0, none⟩)) := by rw [Lib.cell_of_heap hbk1]; rfl
 have c1 : w1.cell? ⟨b, 1, none⟩ = some v := by rw [Lib.cell_of_heap hbk1]; rfl
 go_wp2_with (at_builtin; refine wpl_app_str rfl _ _ (ρ.t 37) (ρ.t 9) rfl B (ρ.t 5) i0 L.t37 L.t9 hi hz0 hz1 hz2 _ _ _ rfl hown s rfl ?c3 ?c4 ?c5 ?_)
 case c3 => unfold maxLen; omega
 case c4 => omega
 case c5 => omega
 intro v' w2 hown' hgrow hheir
 have hlt : b < w1.heap.size := by
  rcases Nat.lt_or_ge b w1.heap.size with h' | h'
  ·exact h'
  ·simp [Array.getElem?_eq_none h'] at hbk1
 have hb2 : w2.heap[b]? = some (.cells #[.pointer (some ⟨b, 0, none⟩), v] (ρ.t 72) (0, 0)) := by
  rw [hgrow.block b hlt (fun e => hne e.symm)]
  exact hbk1
 have d0 : w2.cell? ⟨b, 0, none⟩ = some (.pointer (some ⟨b, 0, none⟩)) := by rw [Lib.cell_of_heap hb2]; rfl
 have d1 : w2.cell? ⟨b, 1, none⟩ = some v := by rw [Lib.cell_of_heap hb2]; rfl
 have f1 : w2.frozen? ⟨b, 1, none⟩ = false := Lib.frozen_of_heap hb2 1
 have hne' : v'.ownBlock ≠ some b := fun e => by
  rcases hheir b e with h3 | h3
  ·exact hne h3
  ·omega
 obtain ⟨ao, n', cap, rfl⟩ : ∃ ao n' cap, v' = .slice ao n' cap := by
  rcases hown'.2 with ⟨hv, _⟩ | ⟨g, cap, cur, hv, _⟩
  ·exact ⟨_, _, _, hv⟩
  ·exact ⟨_, _, _, hv⟩
 go_wp2
 go_ret2
 refine ⟨rfl, _, ?_, ?_, hne', ?_, (hb1.grown hgrow (by omega) (fun k hk => (hown.lt k hk).1)).setCell (p := ⟨b, 1, none⟩) hB _, ?_, ?_⟩
 ·simp only [World.setCell, Array.getElem?_modify, if_true, hb2, Option.map_some]
  rfl
 ·refine ⟨hown'.1, ?_⟩
  rcases hown'.2 with h0 | ⟨g, cap, cur, hv, hb, hh, r⟩
  ·exact .inl h0
  ·refine .inr ⟨g, cap, cur, hv, hb, ?_, r⟩
   rw [Below.heap_setCell _ _ _ _ (fun e => hne' (by rw [hv]; simp [Value.ownBlock, e]))]; exact hh
 ·intro k hk
  rcases hheir k hk with h3 | h3
  ·exact .inl h3
  ·exact .inr (by omega)
 ·have := hgrow.size
  have h9 : (w2.setCell ⟨b, 1, none⟩ (.slice ao n' cap)).heap.size = w2.heap.size := by simp [World.setCell]
  rw [h9]; omega
 ·intro k hk hkb hkv
  rw [Below.heap_setCell _ _ _ _ (fun e => hkb (by rw [e])), hgrow.block k (by omega) (fun e => hkv e.symm), hk1 k hkb]
set_option maxHeartbeats 1000000 in
set_option maxRecDepth 100000 in
theorem bldString1 (L : Lays.n169 P ρ) (X : Builder.Extra P ρ) (b g cap : Nat) (p : Value) (cur : Array Value) (l : List UInt8) (w : World) (hbk : w.heap[b]? = some (.cells #[p, .slice (some ⟨g, 0, none⟩) l.length cap] (ρ.t 72) (0, 0)))
  (hg : w.heap[g]? = some (.cells cur (ρ.t 5) (0, 0))) (hnc : l.length ≤ cap) (hcm : cap ≤ maxLen) (hcs : cur.size = cap * 1) (htake : cur.toList.take (l.length * 1) = byteCells l) (h0 : l ≠ []) :
  Calls P (ρ.f 169) #[.pointer (some ⟨b, 0, none⟩)] w fun e w' => e = .returned (.string ⟨l.toArray⟩) ∧ w' = w.drew.freeze ⟨g, 0, none⟩ l.length := by
 have hown : w.ownsRow 0 (ρ.t 5) 1 (.slice (some ⟨g, 0, none⟩) l.length cap) l.length (byteCells l) := ⟨by rw [byteCells_length, Nat.mul_one], .inr ⟨g, cap, cur, rfl, Nat.zero_le _, hg, hnc, hcm, hcs, htake⟩⟩
 have hl0 : l.length ≠ 0 := by simpa using h0
 have c1 : w.drew.cell? ⟨b, 1, none⟩ = some (.slice (some ⟨g, 0, none⟩) l.length cap) := by
  have : w.drew.heap[b]? = some (.cells #[p, .slice (some ⟨g, 0, none⟩) l.length cap] (ρ.t 72) (0, 0)) := hbk
  rw [Lib.cell_of_heap this]; rfl
 have hSD : (Builtin.unsafeSliceData_ #[(ρ.t 37)] (ρ.t 127) #[.slice (some ⟨g, 0, none⟩) l.length cap]).run P w.drew = .ok (.pointer (some ⟨g, 0, none⟩)) w.drew :=
  Lib.run_unsafeSliceData_row _ _ _ _ _ _ (by omega)
 have hUS : (Builtin.unsafeString_ #[(ρ.t 127), (ρ.t 3)] (ρ.t 9) #[.pointer (some ⟨g, 0, none⟩), .int .i64 l.length]).run P w.drew = .ok (.string ⟨l.toArray⟩) (w.drew.freeze ⟨g, 0, none⟩ l.length) := by
  refine Lib.run_unsafeString_row w.drew (ρ.t 127) (ρ.t 3) (ρ.t 9) (ρ.t 5) L.t127 X.cellsByte g cur.size (by have hg' : w.drew.heap[g]? = some (.cells cur (ρ.t 5) (0, 0)) := hg; simp [World.shape?, hg']) l h0 (by omega) (by unfold maxLen at hcm; omega) ?_
  intro j x hx
  have := hown.cells (g := g) rfl j (.int .u8 x.toNat) (by simp [Lib.byteCells, hx])
  exact this
 have mixed := L.mixed
 have t72 := L.t72; have a72 := L.a72; have z72 := L.z72; have v72 := L.v72; have u72 := run_underlying L.t72
 have t70 := L.t70; have a70 := L.a70; have z70 := L.z70; have v70 := L.v70; have u70 := run_underlying L.t70
 have t37 := L.t37; have a37 := L.a37; have z37 := L.z37; have v37 := L.v37; have u37 := run_underlying L.t37
 have t127 := L.t127; have a127 := L.a127; have z127 := L.z127; have v127 := L.v127; have u127 := run_underlying L.t127
 have t3 := L.t3; have a3 := L.a3; have z3 := L.z3; have v3 := L.v3; have u3 := run_underlying L.t3
 have t9 := L.t9; have a9 := L.a9; have z9 := L.z9; have v9 := L.v9; have u9 := run_underlying L.t9
 have t5 := X.t5; have a5 := X.a5; have z5 := X.z5; have v5 := X.v5; have u5 := run_underlying X.t5
 go_enter L.f169, Body.n169_ntmps ρ
 go_wp2
 go_region_o
 all_goals (go_wp2; go_ret; exact ⟨rfl, rfl⟩)
theorem freeze_heap (w : World) (g n k : Nat) (h : k ≠ g) : (w.freeze ⟨g, 0, none⟩ n).heap[k]? = w.heap[k]? := by
 unfold World.freeze
 split
 ·rfl
 ·simp only [Array.getElem?_modify]
  rw [if_neg (fun e => h e.symm)]
theorem freeze_size (w : World) (g n : Nat) : (w.freeze ⟨g, 0, none⟩ n).heap.size = w.heap.size := by
 unfold World.freeze
 split <;> simp
theorem bldString (L : Lays.n169 P ρ) (X : Builder.Extra P ρ) (b : Nat) (p v : Value) (l : List UInt8) (w : World) (hbk : w.heap[b]? = some (.cells #[p, v] (ρ.t 72) (0, 0))) (hp : p = .pointer none ∨ p = .pointer (some ⟨b, 0, none⟩))
  (hown : w.ownsRow 0 (ρ.t 5) 1 v l.length (byteCells l)) (hne : v.ownBlock ≠ some b) :
  Calls P (ρ.f 169) #[.pointer (some ⟨b, 0, none⟩)] w fun e w' => e = .returned (.string ⟨l.toArray⟩) ∧ w'.os = w.os ∧ w'.tape = w.tape ∧ w'.output = w.output ∧ Kp2 w b v w' := by
 have full : ∀ {w' : World}, Below w.heap.size w w' → w'.os = w.os ∧ w'.tape = w.tape ∧ w'.output = w.output ∧ Kp2 w b v w' := fun h => ⟨h.os, h.tape, h.output, h.size, fun k hk _ _ => h.block k hk⟩
 cases l with
 | nil =>
  rcases hown.2 with ⟨rfl, _⟩ | ⟨g, cap, cur, rfl, hbg, hg, _, _, _, _⟩
  ·exact (Any.Builder_String_nil L X w.heap.size b p w hbk).mono fun e w' h => ⟨h.1, full h.2⟩
  ·by_cases hc0 : cap = 0
   ·subst hc0
    exact (Any.Builder_String_noroom L X w.heap.size b g p cur w (Nat.le_refl _) hbk hg).mono fun e w' h => ⟨h.1, full h.2⟩
   ·exact (Any.Builder_String_room L X w.heap.size b g cap p w hc0 hbk).mono fun e w' h => ⟨h.1, full h.2⟩
 | cons x r =>
  rcases hown.2 with ⟨_, h0⟩ | ⟨g, cap, cur, rfl, hbg, hg, h1, h2, h3, h4⟩
  ·simp at h0
  ·refine (bldString1 L X b g cap p cur (x :: r) w hbk hg h1 h2 h3 h4 (fun e => by cases e)).mono ?_
   rintro e w' ⟨rfl, rfl⟩
   have hfr : ∀ (u : World) (n : Nat), (u.freeze ⟨g, 0, none⟩ n).os = u.os ∧ (u.freeze ⟨g, 0, none⟩ n).tape = u.tape ∧ (u.freeze ⟨g, 0, none⟩ n).output = u.output := fun u n => by
    unfold World.freeze
    split <;> exact ⟨rfl, rfl, rfl⟩
   obtain ⟨q1, q2, q3⟩ := hfr w.drew (x :: r).length
   have hd : w.drew.os = w.os ∧ w.drew.tape = w.tape ∧ w.drew.output = w.output := ⟨rfl, rfl, rfl⟩
   refine ⟨rfl, q1.trans hd.1, q2.trans hd.2.1, q3.trans hd.2.2, by rw [freeze_size]; exact Nat.le_refl _, fun k hk hkb hkv => ?_⟩
   rw [freeze_heap _ _ _ _ (fun e => hkv (by rw [e]; rfl))]
   rfl
theorem strCells_eq (s : ByteArray) : strCells s = s.data.toList.map fun x => Value.int .u8 (x.toNat : Int) := rfl
theorem app_cells (s x : ByteArray) : (s ++ x).data.toList = s.data.toList ++ x.data.toList := by rw [ByteArray.data_append, Array.toList_append]
theorem size_list (s : ByteArray) : s.size = s.data.toList.length := rfl
variable [Glob P]
theorem own_up {w : World} {B e n : Nat} {v : Value} {xs : List Value} (h : w.ownsRow 0 e 1 v n xs) (hB : ∀ k, v.ownBlock = some k → B ≤ k) : w.ownsRow B e 1 v n xs := by
 refine ⟨h.1, ?_⟩
 rcases h.2 with hn | ⟨gb, cap, cur, e1, e2, rest⟩
 ·exact .inl hn
 ·exact .inr ⟨gb, cap, cur, e1, hB gb (by rw [e1]; rfl), rest⟩
theorem own_dn {w : World} {B e n : Nat} {v : Value} {xs : List Value} (h : w.ownsRow B e 1 v n xs) : w.ownsRow 0 e 1 v n xs := by
 refine ⟨h.1, ?_⟩
 rcases h.2 with hn | ⟨gb, cap, cur, e1, e2, rest⟩
 ·exact .inl hn
 ·exact .inr ⟨gb, cap, cur, e1, Nat.zero_le _, rest⟩
theorem bldLen_con (L : Lays.n170 P ρ) {f t e : Nat} (hf : ρ.f 170 = f) (ht : ρ.t 72 = t) (he : ρ.t 5 = e) (hen : ∀ (vals : Array Value) (w : World), (callFunc f vals).run P w = .ok (.enter f vals) w) {s : ByteArray} :
  Con P f [.ptr 0 0] [.abs (bldQ t e s)] (vint .i64 (s.size : Int)) [.abs (bldQ t e s)] := by
 subst hf; subst ht; subst he
 refine ⟨hen, fun w0 g0 vals hp hg => ?_⟩
 match vals, hp.args with
 | [], h => exact h.elim
 | _ :: _ :: _, h => exact h.2.elim
 | [v0], ⟨⟨hd, b, e1, e2⟩, _⟩ =>
  have hob := hp.objs 0 (by simp)
  obtain ⟨own, o1, o2, o3⟩ := id hob
  obtain ⟨b', p, bv, h1, h2, h3, h4, h5, h6, h7⟩ := o3 w0 (fun _ _ => rfl)
  rw [e1] at h1
  cases h1
  subst e2
  have hat : IsBuilder (ρ.t 72) (ρ.t 5) 0 b (byteCells s.data.toList) w0 := by
   have : BuilderAt (ρ.t 72) (ρ.t 5) 0 b p (byteCells s.data.toList) w0 := ⟨Nat.zero_le _, bv, h3, by rw [byteCells_length]; exact h5, h6⟩
   rcases h4 with rfl | rfl
   ·exact .inl this
   ·exact .inr this
  refine (Any.Builder_Len L 0 b _ w0 hat).mono ?_
  rintro e w ⟨rfl, rfl⟩
  refine ⟨_, g0, rfl, ⟨[_], rfl, ?_, trivial⟩, fun r hr => hp.objs r hr, fun r => hp.df r, Nat.le_refl _, fun b hb => ⟨.inr (.inl hb), hp.fz b hb⟩, rfl, fun b hb => (hp.tz b hb).2, fun b r hb => ⟨.inr (by rw [hb]; exact fun e => by cases e), hp.om b r hb⟩, fun _ _ => rfl, rfl, rfl, rfl, Nat.le_refl _, fun _ _ _ => rfl⟩
  show Value.int .i64 ((byteCells s.data.toList).length : Int) = .int .i64 (s.size : Int)
  rw [byteCells_length, size_list]
theorem bldWrite_con (L : Lays.n166 P ρ) (X : Builder.Extra P ρ) {f t e : Nat} (hf : ρ.f 166 = f) (ht : ρ.t 72 = t) (he : ρ.t 5 = e) (hen : ∀ (vals : Array Value) (w : World), (callFunc f vals).run P w = .ok (.enter f vals) w)
  {s x : ByteArray} (hlen : s.size + x.size ≤ 140737488355328) :
  Con P f [.ptr 0 0, vstr x] [.abs (bldQ t e s)] (.tup [(false, [.u (cI (x.size : Int))]), (false, [.dead])]) [.abs (bldQ t e (s ++ x))] := by
 subst hf; subst ht; subst he
 refine ⟨hen, fun w0 g0 vals hp hg => ?_⟩
 match vals, hp.args with
 | [], h => exact h.elim
 | [_], h => exact h.2.elim
 | _ :: _ :: _ :: _, h => exact h.2.2.elim
 | [v0, v1], ⟨⟨hd, b, e1, e2⟩, hv1, _⟩ =>
  have k1 : v1 = .string x := RV.cell hv1
  subst k1
  obtain ⟨own, o1, o2, o3⟩ := hp.objs 0 (by simp)
  obtain ⟨b', p, bv, h1, h2, h3, h4, h5, h6, h7⟩ := o3 w0 (fun _ _ => rfl)
  rw [e1] at h1
  cases h1
  subst e2
  obtain ⟨B, hB1, hB2, hB3⟩ := hg
  have hB : ∀ k, own k → B ≤ k := fun k hk => hB2 k (by show g0.om k ≠ none; rw [o1 k hk]; exact fun e => by cases e)
  refine (bldWrite L X B b _ p bv _ x w0 (hB b h2) h4 h3 (own_up h5 fun k hk => hB k (h7 k hk)) h6 (by rw [← size_list]; exact hlen) hB1).mono ?_
  rintro e w ⟨rfl, v', q1, q2, q3, q4, q5, q6⟩
  let g : Gh := { Fz := g0.Fz, Tz := g0.Tz, om := fun k => if k = b ∨ v'.ownBlock = some k then some 0 else none, rv := g0.rv, df := g0.df }
  have hnom : ∀ k, g0.om k = none → k < w0.heap.size → ¬ (k = b ∨ v'.ownBlock = some k) := fun k hk hlt h => by
   rcases h with rfl | h
   ·rw [o1 _ h2] at hk; cases hk
   ·rcases q4 k h with h8 | h8
    ·rw [o1 _ (h7 k h8)] at hk; cases hk
    ·omega
  have hbsz : b < w0.heap.size := hp.om b 0 (o1 b h2)
  refine ⟨_, g, rfl, ⟨[.int .i64 x.size, .nilIface], rfl, ⟨[_], rfl, rfl, trivial⟩, ⟨[_], rfl, rfl, trivial⟩, trivial⟩, fun r hr => ?_, fun r => hp.df r, Nat.le_refl _, fun k hk => ?_, rfl, fun k hk => ?_, fun k r hk => ?_, fun _ _ => rfl, q5.os, q5.tape, q5.output, q5.size, fun k hk hn => ?_⟩
  ·obtain rfl : r = 0 := by simp at hr; omega
   refine ⟨fun k => k = b ∨ v'.ownBlock = some k, fun k hk => if_pos hk, fun k hk => ?_, fun w' hw => ⟨b, .pointer (some ⟨b, 0, none⟩), v', e1, .inl rfl, ?_, .inr rfl, ?_, q3, fun k hk => .inr hk⟩⟩
   ·have : blk (g0.rv 0) = some k := hk
    rw [e1] at this
    simp only [blk, Option.some.injEq] at this
    exact .inl this.symm
   ·rw [hw b (.inl rfl)]; exact q1
   ·have h8 := own_dn q2
    rw [size_list, strCells_eq] at h8
    rw [app_cells, List.length_append, List.map_append]
    refine ⟨h8.1, ?_⟩
    rcases h8.2 with hn | ⟨gb, cap, cur, e3, e4, e5, rest⟩
    ·exact .inl hn
    ·exact .inr ⟨gb, cap, cur, e3, e4, by rw [hw gb (.inr (by rw [e3]; rfl))]; exact e5, rest⟩
  ·have h8 := hp.fz k hk
   exact ⟨.inr (.inl hk), Nat.lt_of_lt_of_le h8.1 q5.size, if_neg (hnom k h8.2 h8.1)⟩
  ·have h8 := hp.tz k hk
   exact if_neg (hnom k h8.2 h8.1)
  ·have h8 : (if k = b ∨ v'.ownBlock = some k then some 0 else none) = some r := hk
   split at h8
   ·rename_i h9
    rcases h9 with rfl | h9
    ·exact ⟨.inr (by rw [o1 _ h2]; exact fun e => by cases e), Nat.lt_of_lt_of_le hbsz q5.size⟩
    ·refine ⟨?_, (q2.lt k h9).2⟩
     rcases q4 k h9 with h10 | h10
     ·exact .inr (by rw [o1 _ (h7 k h10)]; exact fun e => by cases e)
     ·exact .inl h10
   ·cases h8
  ·refine q6.2 k hk (fun e => by subst e; rw [o1 _ h2] at hn; cases hn) (fun e => by rw [o1 _ (h7 k e)] at hn; cases hn)
theorem bldString_con (L : Lays.n169 P ρ) (X : Builder.Extra P ρ) {f t e : Nat} (hf : ρ.f 169 = f) (ht : ρ.t 72 = t) (he : ρ.t 5 = e) (hen : ∀ (vals : Array Value) (w : World), (callFunc f vals).run P w = .ok (.enter f vals) w) {s : ByteArray} :
  Con P f [.ptr 0 0] [.abs (bldQ t e s)] (vstr s) [.none] := by
 subst hf; subst ht; subst he
 refine ⟨hen, fun w0 g0 vals hp hg => ?_⟩
 match vals, hp.args with
 | [], h => exact h.elim
 | _ :: _ :: _, h => exact h.2.elim
 | [v0], ⟨⟨hd, b, e1, e2⟩, _⟩ =>
  obtain ⟨own, o1, o2, o3⟩ := hp.objs 0 (by simp)
  obtain ⟨b', p, bv, h1, h2, h3, h4, h5, h6, h7⟩ := o3 w0 (fun _ _ => rfl)
  rw [e1] at h1
  cases h1
  subst e2
  refine (bldString L X b p bv s.data.toList w0 h3 h4 h5 h6).mono ?_
  rintro e w ⟨rfl, q1, q2, q3, q4⟩
  let g : Gh := { Fz := g0.Fz, Tz := g0.Tz, om := fun _ => none, rv := g0.rv, df := g0.df }
  refine ⟨_, g, rfl, ⟨[_], rfl, ?_, trivial⟩, fun r hr => ?_, fun r => hp.df r, Nat.le_refl _, fun k hk => ⟨.inr (.inl hk), Nat.lt_of_lt_of_le (hp.fz k hk).1 q4.1, rfl⟩, rfl, fun k hk => rfl, (fun k r hk => by cases hk), fun _ _ => rfl, q1, q2, q3, q4.1, fun k hk hn => ?_⟩
  ·show Value.string _ = .string s
   rfl
  ·obtain rfl : r = 0 := by simp at hr; omega
   exact trivial
  ·exact q4.2 k hk (fun e => by subst e; rw [o1 _ h2] at hn; cases hn) (fun e => by rw [o1 _ (h7 k e)] at hn; cases hn)
theorem pure_con {f : FuncId} {ags : List S} {rs : S} {os1 : List Ob} (hen : ∀ (vals : Array Value) (w : World), (callFunc f vals).run P w = .ok (.enter f vals) w)
  (h : ∀ (w0 : World) (g0 : Gh) (vals : List Value), RSs w0 g0 ags vals → GOk P w0 (fun _ => False) → Calls P f vals.toArray w0 fun e w => Below w0.heap.size w0 w ∧ ∃ v g, e = .returned v ∧ RS w g rs v ∧ (∀ r, r < os1.length → RO w g r (os1.getD r .none)) ∧
   (∀ r, g.df r ↔ r < os1.length) ∧ g.Fz = g0.Fz ∧ g.Tz = g0.Tz ∧ ∀ b r, g.om b = some r → w0.heap.size ≤ b ∧ b < w.heap.size) : Con P f ags [] rs os1 := by
 refine ⟨hen, fun w0 g0 vals hp hg => ?_⟩
 obtain ⟨B, hB1, hB2, hB3⟩ := hg
 refine (h w0 g0 vals hp.args ⟨B, hB1, fun _ h => h.elim, hB3⟩).mono ?_
 rintro e w ⟨hb, v, g, rfl, h1, h2, h3, h4, h5, h6⟩
 have hno : ∀ b, b < w0.heap.size → g.om b = none := fun b hlt => by
  cases hb' : g.om b with
  | none => rfl
  | some r => have := (h6 b r hb').1; omega
 refine ⟨v, g, rfl, h1, h2, h3, Nat.zero_le _, fun b hb' => ?_, h5, fun b hb' => hno b (hp.tz b hb').1, fun b r hb' => ⟨.inl (h6 b r hb').1, (h6 b r hb').2⟩, fun r hr => absurd hr (Nat.not_lt_zero r), hb.os, hb.tape, hb.output, hb.size, fun k hk _ => hb.block k hk⟩
 rw [h4] at hb'
 exact ⟨.inr (.inl hb'), Nat.lt_of_lt_of_le (hp.fz b hb').1 hb.size, hno b (hp.fz b hb').1⟩
theorem itoa_con (hgl : ∀ {B : Nat} {w : World}, Glob.ok P B w → TabBelow P B w "internal/strconv.uint64pow10" .u64 pow10Tab) (L : LaysM.n171 P ρ) {f : Nat} (hf : ρ.f 171 = f)
  (hen : ∀ (vals : Array Value) (w : World), (callFunc f vals).run P w = .ok (.enter f vals) w) {n : Int} {r : ByteArray} (hn : -9223372036854775808 ≤ n ∧ n ≤ 9223372036854775807) (hr : some (⟨(itoa n).toArray⟩ : ByteArray) = some r) :
  Con P f [vint .i64 n] [] (vstr r) [] := by
 subst hf
 cases hr
 refine pure_con hen fun w0 g0 vals ha hg => ?_
 match vals, ha with
 | [], h => exact h.elim
 | _ :: _ :: _, h => exact h.2.elim
 | [v0], ⟨h1, _⟩ =>
  have k1 : v0 = .int .i64 n := RV.cell h1
  subst k1
  obtain ⟨B, hB1, _, hB3⟩ := hg
  refine (Any.strconv_Itoa L n hn.1 hn.2 w0 (hgl hB3).here).mono ?_
  rintro e w ⟨rfl, k, os, rfl⟩
  exact ⟨below_grow w0.heap.size w0 (Nat.le_refl _) k os, _, { Fz := g0.Fz, Tz := g0.Tz, om := fun _ => none, rv := g0.rv, df := fun _ => False }, rfl, ⟨[_], rfl, rfl, trivial⟩, fun r hr => absurd hr (Nat.not_lt_zero r), fun r => ⟨fun h => h.elim, fun h => absurd h (Nat.not_lt_zero r)⟩, rfl, rfl, fun b r h => by cases h⟩
theorem split_con (hgl : ∀ {B : Nat} {w : World}, Glob.ok P B w → ∀ w', Below B w w' → ∃ m, w'.cell? ⟨ρ.g 1, 0, none⟩ = some (.int .i64 m)) (L : LaysM.n146 P ρ) {f e9 : Nat} (hf : ρ.f 146 = f) (h9 : ρ.t 9 = e9) (hone : e9 = e9)
  (hen : ∀ (vals : Array Value) (w : World), (callFunc f vals).run P w = .ok (.enter f vals) w) {s p : ByteArray} {r : List ByteArray} (hn : s.size < 4294967281 ∧ 1 ≤ p.size) (hr : some (splitB p 0 (countB s p) s) = some r) :
  Con P f [vstr s, vstr p] [] (.val false [.row 0]) [.row e9 r.length 1 (gl cStr r)] := by
 subst hf; subst h9
 cases hr
 refine pure_con hen fun w0 g0 vals ha hg => ?_
 match vals, ha with
 | [], h => exact h.elim
 | [_], h => exact h.2.elim
 | _ :: _ :: _ :: _, h => exact h.2.2.elim
 | [v0, v1], ⟨h1, h2, _⟩ =>
  have k1 : v0 = .string s := RV.cell h1
  have k2 : v1 = .string p := RV.cell h2
  subst k1; subst k2
  obtain ⟨B, hB1, _, hB3⟩ := hg
  obtain ⟨m, hm⟩ := hgl hB3 w0 (Below.refl _ _)
  have hlen : (splitB p 0 (countB s p) s).length = countB s p + 1 := splitB_all p hn.2 0 _ s rfl
  have hle := countB_le p hn.2 s.size s (Nat.le_refl _)
  refine (Any.strings_Split { L with } L.i9 s p m w0 hn.1 hm hn.2).mono ?_
  rintro e w ⟨rfl, rfl⟩
  refine ⟨(Below.refl _ w0).alloc (Nat.le_refl _) _, _, { Fz := g0.Fz, Tz := g0.Tz, om := fun b => if b = w0.heap.size then some 0 else none, rv := fun _ => .slice (some ⟨w0.heap.size, 0, none⟩) (countB s p + 1) (countB s p + 1), df := fun r => r < 1 }, rfl,
   ⟨[_], rfl, ⟨by show (0 : Nat) < 1; omega, rfl, rfl⟩, trivial⟩, fun r hr => ?_, fun r => Iff.rfl, rfl, rfl, fun b r h => ?_⟩
  ·obtain rfl : r = 0 := by simp at hr; omega
   refine ⟨by omega, by unfold bound; omega, ⟨(splitB p 0 (countB s p) s).map Value.string, ⟨by rw [List.length_map, Nat.mul_one], .inr ⟨w0.heap.size, _, ((splitB p 0 (countB s p) s).map Value.string).toArray, by rw [hlen], Nat.zero_le _, heap_alloc_new w0 _, by omega, by unfold maxLen; omega, by simp [hlen], by rw [Nat.mul_one]; exact List.take_of_length_le (by simp)⟩⟩, fun i hi j hj => ?_⟩, fun b hb => ?_⟩
   ·obtain rfl : j = 0 := by omega
    rw [Nat.mul_one, Nat.add_zero]
    refine ⟨.string ((splitB p 0 (countB s p) s).getD i default), ?_, rfl⟩
    rw [List.getElem?_map, List.getElem?_eq_getElem hi, List.getD_eq_getElem?_getD, List.getElem?_eq_getElem hi]
    rfl
   ·simp only [Value.ownBlock, Option.some.injEq] at hb
    show (if b = w0.heap.size then some 0 else none) = some 0
    rw [if_pos hb.symm]
  ·have h8 : (if b = w0.heap.size then some 0 else none) = some r := h
   split at h8
   ·rename_i h9
    subst h9
    exact ⟨Nat.le_refl _, by simp⟩
   ·cases h8
end
end Go.Vs

namespace Go.Proofs
open Go.Shelf
def Tryz.lays169_ren : Go.Shelf.Ren := ⟨fun | 169 => 29 | n => n, fun | 70 => 71 | 9 => 9 | 0 => 0 | 72 => 74 | 37 => 72 | 127 => 128 | 3 => 3 | 5 => 5 | n => n, fun | n => n⟩
theorem Tryz.lays169 : Go.Proofs.Lays.n169 Tryz.prog Tryz.lays169_ren := {
 mixed := by kernel_rfl
 f169 := Tryz.func29.trans (congrArg some (by kernel_rfl))
 t0 := Tryz.underlying0
 a0 := Tryz.isAgg0
 z0 := Tryz.sizeOf0
 v0 := Tryz.zeroValue0
 t3 := Tryz.underlying3
 a3 := Tryz.isAgg3
 z3 := Tryz.sizeOf3
 v3 := Tryz.zeroValue3
 t9 := Tryz.underlying9
 a9 := Tryz.isAgg9
 z9 := Tryz.sizeOf9
 v9 := Tryz.zeroValue9
 t37 := Tryz.underlying72
 a37 := Tryz.isAgg72
 z37 := Tryz.sizeOf72
 v37 := Tryz.zeroValue72
 t70 := Tryz.underlying71
 a70 := Tryz.isAgg71
 z70 := Tryz.sizeOf71
 v70 := Tryz.zeroValue71
 t72 := Tryz.underlying74
 a72 := Tryz.isAgg74
 z72 := Tryz.sizeOf74
 v72 := Tryz.zeroValue74
 t127 := Tryz.underlying128
 a127 := Tryz.isAgg128
 z127 := Tryz.sizeOf128
 v127 := Tryz.zeroValue128 }
def Tryz.laysM171_ren : Go.Shelf.Ren := ⟨fun | 171 => 28 | 243 => 50 | 246 => 100 | 283 => 144 | 284 => 145 | 285 => 146 | 286 => 147 | 129 => 169 | 317 => 168 | 318 => 170 | 319 => 171 | 320 => 172 | 337 => 176 | 338 => 177 | n => n, fun | 3 => 3 | 9 => 9 | 2 => 2 | 4 => 4 | 171 => 214 | 0 => 0 | 53 => 215 | 37 => 72 | 5 => 5 | 173 => 218 | 212 => 238 | 51 => 239 | 20 => 20 | 213 => 240 | 46 => 241 | 232 => 248 | 233 => 249 | n => n, fun | 17 => 0 | 18 => 1 | 19 => 2 | n => n⟩
theorem Tryz.laysM171 : Go.Proofs.LaysM.n171 Tryz.prog Tryz.laysM171_ren := {
 mixed := by kernel_rfl
 f129 := Tryz.func169.trans (congrArg some (by kernel_rfl))
 f171 := Tryz.func28.trans (congrArg some (by kernel_rfl))
 f243 := Tryz.func50.trans (congrArg some (by kernel_rfl))
 f246 := Tryz.func100.trans (congrArg some (by kernel_rfl))
 f283 := Tryz.func144.trans (congrArg some (by kernel_rfl))
 f284 := Tryz.func145.trans (congrArg some (by kernel_rfl))
 f285 := Tryz.func146.trans (congrArg some (by kernel_rfl))
 f286 := Tryz.func147.trans (congrArg some (by kernel_rfl))
 f317 := Tryz.func168.trans (congrArg some (by kernel_rfl))
 f318 := Tryz.func170.trans (congrArg some (by kernel_rfl))
 f319 := Tryz.func171.trans (congrArg some (by kernel_rfl))
 f320 := Tryz.func172.trans (congrArg some (by kernel_rfl))
 f337 := Tryz.func176.trans (congrArg some (by kernel_rfl))
 f338 := Tryz.func177.trans (congrArg some (by kernel_rfl))
 t0 := Tryz.underlying0
 a0 := Tryz.isAgg0
 z0 := Tryz.sizeOf0
 v0 := Tryz.zeroValue0
 t2 := Tryz.underlying2
 a2 := Tryz.isAgg2
 z2 := Tryz.sizeOf2
 v2 := Tryz.zeroValue2
 t3 := Tryz.underlying3
 a3 := Tryz.isAgg3
 z3 := Tryz.sizeOf3
 v3 := Tryz.zeroValue3
 t4 := Tryz.underlying4
 a4 := Tryz.isAgg4
 z4 := Tryz.sizeOf4
 v4 := Tryz.zeroValue4
 t5 := Tryz.underlying5
 a5 := Tryz.isAgg5
 z5 := Tryz.sizeOf5
 v5 := Tryz.zeroValue5
 t9 := Tryz.underlying9
 a9 := Tryz.isAgg9
 z9 := Tryz.sizeOf9
 v9 := Tryz.zeroValue9
 t20 := Tryz.underlying20
 a20 := Tryz.isAgg20
 z20 := Tryz.sizeOf20
 v20 := Tryz.zeroValue20
 t37 := Tryz.underlying72
 a37 := Tryz.isAgg72
 z37 := Tryz.sizeOf72
 v37 := Tryz.zeroValue72
 t46 := Tryz.underlying241
 a46 := Tryz.isAgg241
 z46 := Tryz.sizeOf241
 v46 := Tryz.zeroValue241
 t51 := Tryz.underlying239
 a51 := Tryz.isAgg239
 z51 := Tryz.sizeOf239
 v51 := Tryz.zeroValue239
 t53 := Tryz.underlying215
 a53 := Tryz.isAgg215
 z53 := Tryz.sizeOf215
 v53 := Tryz.zeroValue215
 t171 := Tryz.underlying214
 a171 := Tryz.isAgg214
 z171 := Tryz.sizeOf214
 v171 := Tryz.zeroValue214
 t173 := Tryz.underlying218
 a173 := Tryz.isAgg218
 z173 := Tryz.sizeOf218
 v173 := Tryz.zeroValue218
 t212 := Tryz.underlying238
 a212 := Tryz.isAgg238
 z212 := Tryz.sizeOf238
 v212 := Tryz.zeroValue238
 t213 := Tryz.underlying240
 a213 := Tryz.isAgg240
 z213 := Tryz.sizeOf240
 t232 := Tryz.underlying248
 a232 := Tryz.isAgg248
 z232 := Tryz.sizeOf248
 v232 := Tryz.zeroValue248
 t233 := Tryz.underlying249
 a233 := Tryz.isAgg249
 z233 := Tryz.sizeOf249
 v233 := Tryz.zeroValue249
 g17 := by kernel_rfl
 g18 := by kernel_rfl
 g19 := by kernel_rfl
 i0 := by kernel_rfl
 i2 := by kernel_rfl
 i3 := by kernel_rfl
 i4 := by kernel_rfl
 i5 := by kernel_rfl
 i9 := by kernel_rfl
 i20 := by kernel_rfl
 i37 := by kernel_rfl
 i46 := by kernel_rfl
 i51 := by kernel_rfl
 i53 := by kernel_rfl
 i171 := by kernel_rfl
 i173 := by kernel_rfl
 i212 := by kernel_rfl
 i232 := by kernel_rfl
 i233 := by kernel_rfl
 m17 := by kernel_rfl
 m18 := by kernel_rfl
 m19 := by kernel_rfl }
def Tryz.lays166_ren : Go.Shelf.Ren := ⟨fun | 166 => 22 | 240 => 47 | 276 => 95 | n => n, fun | 37 => 72 | 70 => 71 | 72 => 74 | 75 => 76 | 80 => 81 | 164 => 162 | n => n, fun | n => n⟩
theorem Tryz.lays166 : Go.Proofs.Lays.n166 Tryz.prog Tryz.lays166_ren := {
 mixed := by kernel_rfl
 f166 := Tryz.func22.trans (congrArg some (by kernel_rfl))
 f240 := Tryz.func47.trans (congrArg some (by kernel_rfl))
 f276 := Tryz.func95.trans (congrArg some (by kernel_rfl))
 t0 := Tryz.underlying0
 a0 := Tryz.isAgg0
 z0 := Tryz.sizeOf0
 v0 := Tryz.zeroValue0
 t3 := Tryz.underlying3
 a3 := Tryz.isAgg3
 z3 := Tryz.sizeOf3
 v3 := Tryz.zeroValue3
 t4 := Tryz.underlying4
 a4 := Tryz.isAgg4
 z4 := Tryz.sizeOf4
 v4 := Tryz.zeroValue4
 t9 := Tryz.underlying9
 a9 := Tryz.isAgg9
 z9 := Tryz.sizeOf9
 v9 := Tryz.zeroValue9
 t20 := Tryz.underlying20
 a20 := Tryz.isAgg20
 z20 := Tryz.sizeOf20
 v20 := Tryz.zeroValue20
 t37 := Tryz.underlying72
 a37 := Tryz.isAgg72
 z37 := Tryz.sizeOf72
 v37 := Tryz.zeroValue72
 t70 := Tryz.underlying71
 a70 := Tryz.isAgg71
 z70 := Tryz.sizeOf71
 v70 := Tryz.zeroValue71
 t72 := Tryz.underlying74
 a72 := Tryz.isAgg74
 z72 := Tryz.sizeOf74
 v72 := Tryz.zeroValue74
 t75 := Tryz.underlying76
 a75 := Tryz.isAgg76
 z75 := Tryz.sizeOf76
 v75 := Tryz.zeroValue76
 t164 := Tryz.underlying162
 a164 := Tryz.isAgg162
 z164 := Tryz.sizeOf162
 v164 := Tryz.zeroValue162 }
theorem Tryz.extra166 : Builder.Extra Tryz.prog Tryz.lays166_ren := {
 sizeBuilder := by kernel_rfl
 liesBuilder := by kernel_rfl
 t5 := Tryz.underlying5
 a5 := Tryz.isAgg5
 z5 := Tryz.sizeOf5
 v5 := Tryz.zeroValue5
 infoByte := by kernel_rfl
 cellsByte := by kernel_rfl
 sizeByte := by kernel_rfl
 neB5 := by decide }
theorem Tryz.extra169 : Builder.Extra Tryz.prog Tryz.lays169_ren := {
 sizeBuilder := by kernel_rfl
 liesBuilder := by kernel_rfl
 t5 := Tryz.underlying5
 a5 := Tryz.isAgg5
 z5 := Tryz.sizeOf5
 v5 := Tryz.zeroValue5
 infoByte := by kernel_rfl
 cellsByte := by kernel_rfl
 sizeByte := by kernel_rfl
 neB5 := by decide }
end Go.Proofs
namespace Go.Proofs.PanB
open Go.Vs
open Go.Lib (itoa)
theorem g_bldWrite_c {s x : ByteArray} (h : s.size + x.size ≤ 140737488355328) : Con Tryz.prog 22 [.ptr 0 0, vstr x] [.abs (bldQ 74 5 s)] (.tup [(false, [.u (cI (x.size : Int))]), (false, [.dead])]) [.abs (bldQ 74 5 (s ++ x))] :=
 bldWrite_con Tryz.lays166 Tryz.extra166 rfl rfl rfl (enters_of Tryz.func22 (by kernel_rfl) rfl) h
theorem g_bldString_c {s : ByteArray} : Con Tryz.prog 29 [.ptr 0 0] [.abs (bldQ 74 5 s)] (vstr s) [.none] :=
 bldString_con Tryz.lays169 Tryz.extra169 rfl rfl rfl (enters_of Tryz.func29 (by kernel_rfl) rfl)
def g_itoa (n : Int) : Option ByteArray := ck (-9223372036854775808 ≤ n ∧ n ≤ 9223372036854775807) (some ⟨(itoa n).toArray⟩)
theorem g_itoa_c {a0 : Int} {r : ByteArray} (hF : g_itoa a0 = some r) : Con Tryz.prog 28 [vint .i64 a0] [] (vstr r) [] :=
 itoa_con (P := Tryz.prog) (fun {B w} (h : Glob.ok Tryz.prog B w) => h) Tryz.laysM171 rfl (enters_of Tryz.func28 (by kernel_rfl) rfl) (ckE hF).1 (ckE hF).2
def i_boardMap (a0 : MapState) : Option (ByteArray) :=
 (g_itoa a0.Slots).bind (fun y1 => ck ((⟨#[109, 97, 112, 32]⟩ : ByteArray).size + y1.size ≤ 9223372036854775807) (ck (((⟨#[109, 97, 112, 32]⟩ : ByteArray) ++ y1).size + (⟨#[44, 32, 115, 101, 114, 118, 101, 114, 115, 32]⟩ : ByteArray).size ≤ 9223372036854775807) ((g_itoa a0.Servers).bind (fun y2 => ck ((((⟨#[109, 97, 112, 32]⟩ : ByteArray) ++ y1) ++ (⟨#[44, 32, 115, 101, 114, 118, 101, 114, 115, 32]⟩ : ByteArray)).size + y2.size ≤ 9223372036854775807) (ck (((((⟨#[109, 97, 112, 32]⟩ : ByteArray) ++ y1) ++ (⟨#[44, 32, 115, 101, 114, 118, 101, 114, 115, 32]⟩ : ByteArray)) ++ y2).size + (⟨#[10]⟩ : ByteArray).size ≤ 9223372036854775807) (ck (ByteArray.empty.size + (((((⟨#[109, 97, 112, 32]⟩ : ByteArray) ++ y1) ++ (⟨#[44, 32, 115, 101, 114, 118, 101, 114, 115, 32]⟩ : ByteArray)) ++ y2) ++ (⟨#[10]⟩ : ByteArray)).size ≤ 140737488355328) (loopN (fun i5 (v22 : ByteArray) κ23 => lt (a0.Disks.getD i5 default) (fun x24 => (g_itoa x24.Id).bind (fun y25 => ck ((⟨#[32, 32, 100, 105, 115, 107, 32]⟩ : ByteArray).size + y25.size ≤ 9223372036854775807) (ck (((⟨#[32, 32, 100, 105, 115, 107, 32]⟩ : ByteArray) ++ y25).size + (⟨#[32, 115, 105, 122, 101, 32]⟩ : ByteArray).size ≤ 9223372036854775807) ((g_itoa x24.Size).bind (fun y26 => ck ((((⟨#[32, 32, 100, 105, 115, 107, 32]⟩ : ByteArray) ++ y25) ++ (⟨#[32, 115, 105, 122, 101, 32]⟩ : ByteArray)).size + y26.size ≤ 9223372036854775807) (ck (((((⟨#[32, 32, 100, 105, 115, 107, 32]⟩ : ByteArray) ++ y25) ++ (⟨#[32, 115, 105, 122, 101, 32]⟩ : ByteArray)) ++ y26).size + (⟨#[32, 101, 112, 111, 99, 104, 32]⟩ : ByteArray).size ≤ 9223372036854775807) ((g_itoa x24.Epoch).bind (fun y27 => ck ((((((⟨#[32, 32, 100, 105, 115, 107, 32]⟩ : ByteArray) ++ y25) ++ (⟨#[32, 115, 105, 122, 101, 32]⟩ : ByteArray)) ++ y26) ++ (⟨#[32, 101, 112, 111, 99, 104, 32]⟩ : ByteArray)).size + y27.size ≤ 9223372036854775807) (ix ([(⟨#[]⟩ : ByteArray), (⟨#[32, 115, 110, 97, 112, 112, 105, 110, 103]⟩ : ByteArray), (⟨#[32, 103, 111, 105, 110, 103]⟩ : ByteArray)] : List ByteArray) x24.Frozen (fun _ => ck (((((((⟨#[32, 32, 100, 105, 115, 107, 32]⟩ : ByteArray) ++ y25) ++ (⟨#[32, 115, 105, 122, 101, 32]⟩ : ByteArray)) ++ y26) ++ (⟨#[32, 101, 112, 111, 99, 104, 32]⟩ : ByteArray)) ++ y27).size + (([(⟨#[]⟩ : ByteArray), (⟨#[32, 115, 110, 97, 112, 112, 105, 110, 103]⟩ : ByteArray), (⟨#[32, 103, 111, 105, 110, 103]⟩ : ByteArray)] : List ByteArray).getD x24.Frozen.toNat default).size ≤ 9223372036854775807) (ck ((((((((⟨#[32, 32, 100, 105, 115, 107, 32]⟩ : ByteArray) ++ y25) ++ (⟨#[32, 115, 105, 122, 101, 32]⟩ : ByteArray)) ++ y26) ++ (⟨#[32, 101, 112, 111, 99, 104, 32]⟩ : ByteArray)) ++ y27) ++ (([(⟨#[]⟩ : ByteArray), (⟨#[32, 115, 110, 97, 112, 112, 105, 110, 103]⟩ : ByteArray), (⟨#[32, 103, 111, 105, 110, 103]⟩ : ByteArray)] : List ByteArray).getD x24.Frozen.toNat default)).size + (⟨#[10]⟩ : ByteArray).size ≤ 9223372036854775807) (ck (v22.size + ((((((((⟨#[32, 32, 100, 105, 115, 107, 32]⟩ : ByteArray) ++ y25) ++ (⟨#[32, 115, 105, 122, 101, 32]⟩ : ByteArray)) ++ y26) ++ (⟨#[32, 101, 112, 111, 99, 104, 32]⟩ : ByteArray)) ++ y27) ++ (([(⟨#[]⟩ : ByteArray), (⟨#[32, 115, 110, 97, 112, 112, 105, 110, 103]⟩ : ByteArray), (⟨#[32, 103, 111, 105, 110, 103]⟩ : ByteArray)] : List ByteArray).getD x24.Frozen.toNat default)) ++ (⟨#[10]⟩ : ByteArray)).size ≤ 140737488355328) (κ23 (v22 ++ ((((((((⟨#[32, 32, 100, 105, 115, 107, 32]⟩ : ByteArray) ++ y25) ++ (⟨#[32, 115, 105, 122, 101, 32]⟩ : ByteArray)) ++ y26) ++ (⟨#[32, 101, 112, 111, 99, 104, 32]⟩ : ByteArray)) ++ y27) ++ (([(⟨#[]⟩ : ByteArray), (⟨#[32, 115, 110, 97, 112, 112, 105, 110, 103]⟩ : ByteArray), (⟨#[32, 103, 111, 105, 110, 103]⟩ : ByteArray)] : List ByteArray).getD x24.Frozen.toNat default)) ++ (⟨#[10]⟩ : ByteArray))))))))))))))))) (fun (v22 : ByteArray) => loopN (fun i32 (v53 : ByteArray) κ54 => lt (a0.Views.getD i32 default) (fun x55 => (g_itoa ((i32 : Nat) : Int)).bind (fun y56 => ck ((⟨#[32, 32, 114, 97, 110, 103, 101, 32]⟩ : ByteArray).size + y56.size ≤ 9223372036854775807) (ck (((⟨#[32, 32, 114, 97, 110, 103, 101, 32]⟩ : ByteArray) ++ y56).size + (⟨#[32, 118, 105, 101, 119, 32]⟩ : ByteArray).size ≤ 9223372036854775807) ((g_itoa x55.Num).bind (fun y57 => ck ((((⟨#[32, 32, 114, 97, 110, 103, 101, 32]⟩ : ByteArray) ++ y56) ++ (⟨#[32, 118, 105, 101, 119, 32]⟩ : ByteArray)).size + y57.size ≤ 9223372036854775807) (ck (((((⟨#[32, 32, 114, 97, 110, 103, 101, 32]⟩ : ByteArray) ++ y56) ++ (⟨#[32, 118, 105, 101, 119, 32]⟩ : ByteArray)) ++ y57).size + (⟨#[58, 32]⟩ : ByteArray).size ≤ 9223372036854775807) ((g_itoa x55.A).bind (fun y58 => ck ((((((⟨#[32, 32, 114, 97, 110, 103, 101, 32]⟩ : ByteArray) ++ y56) ++ (⟨#[32, 118, 105, 101, 119, 32]⟩ : ByteArray)) ++ y57) ++ (⟨#[58, 32]⟩ : ByteArray)).size + y58.size ≤ 9223372036854775807) (ck (v53.size + ((((((⟨#[32, 32, 114, 97, 110, 103, 101, 32]⟩ : ByteArray) ++ y56) ++ (⟨#[32, 118, 105, 101, 119, 32]⟩ : ByteArray)) ++ y57) ++ (⟨#[58, 32]⟩ : ByteArray)) ++ y58).size ≤ 140737488355328) (cond (decide ((0 : Int) ≤ x55.B)) ((g_itoa x55.B).bind (fun y60 => ck ((⟨#[32]⟩ : ByteArray).size + y60.size ≤ 9223372036854775807) (ck ((v53 ++ ((((((⟨#[32, 32, 114, 97, 110, 103, 101, 32]⟩ : ByteArray) ++ y56) ++ (⟨#[32, 118, 105, 101, 119, 32]⟩ : ByteArray)) ++ y57) ++ (⟨#[58, 32]⟩ : ByteArray)) ++ y58)).size + ((⟨#[32]⟩ : ByteArray) ++ y60).size ≤ 140737488355328) (ck (((v53 ++ ((((((⟨#[32, 32, 114, 97, 110, 103, 101, 32]⟩ : ByteArray) ++ y56) ++ (⟨#[32, 118, 105, 101, 119, 32]⟩ : ByteArray)) ++ y57) ++ (⟨#[58, 32]⟩ : ByteArray)) ++ y58)) ++ ((⟨#[32]⟩ : ByteArray) ++ y60)).size + (⟨#[10]⟩ : ByteArray).size ≤ 140737488355328) (κ54 (((v53 ++ ((((((⟨#[32, 32, 114, 97, 110, 103, 101, 32]⟩ : ByteArray) ++ y56) ++ (⟨#[32, 118, 105, 101, 119, 32]⟩ : ByteArray)) ++ y57) ++ (⟨#[58, 32]⟩ : ByteArray)) ++ y58)) ++ ((⟨#[32]⟩ : ByteArray) ++ y60)) ++ (⟨#[10]⟩ : ByteArray))))))) (ck ((v53 ++ ((((((⟨#[32, 32, 114, 97, 110, 103, 101, 32]⟩ : ByteArray) ++ y56) ++ (⟨#[32, 118, 105, 101, 119, 32]⟩ : ByteArray)) ++ y57) ++ (⟨#[58, 32]⟩ : ByteArray)) ++ y58)).size + (⟨#[10]⟩ : ByteArray).size ≤ 140737488355328) (κ54 ((v53 ++ ((((((⟨#[32, 32, 114, 97, 110, 103, 101, 32]⟩ : ByteArray) ++ y56) ++ (⟨#[32, 118, 105, 101, 119, 32]⟩ : ByteArray)) ++ y57) ++ (⟨#[58, 32]⟩ : ByteArray)) ++ y58)) ++ (⟨#[10]⟩ : ByteArray))))))))))))))) (fun (v53 : ByteArray) => some v53) a0.Views.length 0 v22) a0.Disks.length 0 (ByteArray.empty ++ (((((⟨#[109, 97, 112, 32]⟩ : ByteArray) ++ y1) ++ (⟨#[44, 32, 115, 101, 114, 118, 101, 114, 115, 32]⟩ : ByteArray)) ++ y2) ++ (⟨#[10]⟩ : ByteArray))))))))))
theorem i_boardMap_c {t0_3 t0_4 t0_5 : Bool} {a0 : MapState} {r : ByteArray} (hF : i_boardMap a0 = some r) : Con Tryz.prog 23 [.val true [.u (cI a0.Slots), .u (cI a0.Servers), .u (cI a0.Next), .u (ul MapDisk.c 7 t0_3 a0.Disks), .u (ul MapView.c 3 t0_4 a0.Views), .u (ul MapDone.c 4 t0_5 a0.Done)]] [] (vstr r) [] := by
 refine Con.of_Dz tabOk Tryz.func23 rfl rfl rfl ?_
 delta i_boardMap at hF
 refine Dz.seq (Dz.reg (Dz.seq (Dz.reg ?_)))
 refine ⟨rfl, ?_⟩
 refine Dz.seq ?_
 refine Dz.drw 2 [⟨[13,14], [], 2, 2⟩, ⟨[13,14], [0], 2, 2⟩, ⟨[13,14], [], 2, 2⟩, ⟨[13,14,15], [], 2, 2⟩, ⟨[13,14,15], [], 2, 2⟩, ⟨[8,9,10,11,12], [], 2, 2⟩, ⟨[8,9,10,11,12], [0], 2, 2⟩, ⟨[11,12], [], 2, 2⟩, ⟨[], [], 2, 2⟩, ⟨[], [], 2, 2⟩, ⟨[], [1], 2, 2⟩] ⟨by kernel_rfl, by kernel_rfl, rfl⟩ ?_
 refine bdE hF (fun y1 hy1 hF => ?_)
 refine callG [] (g_itoa_c hy1) ⟨mv rfl, tv⟩ tv rfl ?_
 refine vck hF id (fun _ hF => ?_)
 refine vck hF id (fun _ hF => ?_)
 refine bdE hF (fun y2 hy2 hF => ?_)
 refine callG [] (g_itoa_c hy2) ⟨mv rfl, tv⟩ tv rfl ?_
 refine vck hF id (fun _ hF => ?_)
 refine vck hF id (fun _ hF => ?_)
 refine ckX hF (fun hk3 hF => ?_)
 refine callG [1] (g_bldWrite_c hk3) ⟨mp rfl, mv rfl, tv⟩ ⟨⟨rfl, rfl⟩, tv⟩ rfl ?_
 refine Dz.seq (Dz.seq (Dz.reg ?_))
 intro hb4; replace hb4 : a0.Disks.length ≤ 140737488355328 := hb4
 refine Dz.blk ?_
 refine Dz.cnt hF (fun i5 v22 => ([(1, .ptr 0 0), (3, .ptr 1 0), (20, .val false [.u (ul MapDisk.c 7 t0_3 a0.Disks)]), (21, vint .i64 ((a0.Disks.length : Nat) : Int)), (22, vint .i64 ((i5 : Nat) : Int))], [.box 46 [.u (cI a0.Slots), .u (cI a0.Servers), .u (cI a0.Next), .u (ul MapDisk.c 7 t0_3 a0.Disks), .u (ul MapView.c 3 t0_4 a0.Views), .u (ul MapDone.c 4 t0_5 a0.Done)], .abs (bldQ 74 5 v22)])) (entG [0, 1] ⟨mp rfl, mp rfl, mv rfl, mv rfl, mv rfl, tv⟩ ⟨⟨rfl, o_box rfl⟩, ⟨rfl, rfl⟩, tv⟩ rfl) (fun v22 hF => ?_) (fun i5 v22 κ23 hi0i5 hi1i5 hF => ?_)
 ·refine Dz.seq (Dz.reg (Dz.seq ?_))
  refine Dz.ff (b := decide (((0 + a0.Disks.length : Nat) : Int) < ((a0.Disks.length : Nat) : Int))) rfl (decide_eq_false (by omega)) ?_
  refine Dz.exit (Dz.seq (Dz.seq (Dz.reg ?_)))
  intro hb31; replace hb31 : a0.Views.length ≤ 140737488355328 := hb31
  refine Dz.blk ?_
  refine Dz.cnt hF (fun i32 v53 => ([(3, .ptr 0 0), (50, .val false [.u (ul MapView.c 3 t0_4 a0.Views)]), (51, vint .i64 ((a0.Views.length : Nat) : Int)), (52, vint .i64 ((i32 : Nat) : Int))], [.abs (bldQ 74 5 v53)])) (entG [1] ⟨mp rfl, mv rfl, mv rfl, mv rfl, tv⟩ ⟨⟨rfl, rfl⟩, tv⟩ rfl) (fun v53 hF => ?_) (fun i32 v53 κ54 hi0i32 hi1i32 hF => ?_)
  ·refine Dz.seq (Dz.reg (Dz.seq ?_))
   refine Dz.ff (b := decide (((0 + a0.Views.length : Nat) : Int) < ((a0.Views.length : Nat) : Int))) rfl (decide_eq_false (by omega)) ?_
   refine Dz.exit (Dz.seq (Dz.reg ?_))
   refine callG [0] g_bldString_c ⟨mp rfl, tv⟩ ⟨⟨rfl, rfl⟩, tv⟩ rfl ?_
   refine Dz.ret ?_
   cases hF
   exact finG [] [] rfl rfl (mv rfl) tv rfl
  ·refine Dz.seq (Dz.reg (Dz.seq ?_))
   refine Dz.tt (b := decide (((i32 : Nat) : Int) < ((a0.Views.length : Nat) : Int))) rfl (decide_eq_true (by omega)) ?_
   refine Dz.skip (Dz.seq (Dz.blk (Dz.seq (Dz.reg ?_))))
   refine vge (n := ((i32 : Nat) : Int)) (hi := (a0.Views.length : Int)) (by omega) (by omega) ?_
   have hF := ltE hF
   refine Dz.seq ?_
   refine Dz.drw 2 [⟨[61,62,66,67], [], 2, 2⟩, ⟨[61,62,66,67], [], 2, 2⟩, ⟨[61,62,63,66,67,68], [], 2, 2⟩, ⟨[61,62,63,66,67,68], [], 2, 2⟩, ⟨[57,58,59,60,66,67], [], 2, 2⟩, ⟨[57,58,59,60,66,67], [1], 2, 2⟩, ⟨[59,60,66,67], [], 2, 2⟩, ⟨[66,67,68], [], 2, 2⟩, ⟨[66,67,68], [], 2, 2⟩, ⟨[57,58,59,60,61,62,63,64,65], [], 2, 2⟩, ⟨[57,58,59,60,61,62,63,64,65], [1], 2, 2⟩, ⟨[59,60,64,65], [], 2, 2⟩, ⟨[], [], 2, 2⟩, ⟨[], [0], 2, 2⟩] ⟨by kernel_rfl, by kernel_rfl, rfl⟩ ?_
   refine bdE hF (fun y56 hy56 hF => ?_)
   refine callG [] (g_itoa_c hy56) ⟨mv rfl, tv⟩ tv rfl ?_
   refine vck hF id (fun _ hF => ?_)
   refine vck hF id (fun _ hF => ?_)
   refine bdE hF (fun y57 hy57 hF => ?_)
   refine callG [] (g_itoa_c hy57) ⟨mv rfl, tv⟩ tv rfl ?_
   refine vck hF id (fun _ hF => ?_)
   refine vck hF id (fun _ hF => ?_)
   refine bdE hF (fun y58 hy58 hF => ?_)
   refine callG [] (g_itoa_c hy58) ⟨mv rfl, tv⟩ tv rfl ?_
   refine vck hF id (fun _ hF => ?_)
   refine ckX hF (fun hk59 hF => ?_)
   refine callG [0] (g_bldWrite_c hk59) ⟨mp rfl, mv rfl, tv⟩ ⟨⟨rfl, rfl⟩, tv⟩ rfl ?_
   refine Dz.seq (Dz.seq ?_)
   refine Dz.ent (x := ([(3, .ptr 0 0), (7, .ptr 1 0), (50, .val false [.u (ul MapView.c 3 t0_4 a0.Views)]), (51, vint .i64 ((a0.Views.length : Nat) : Int)), (52, vint .i64 ((i32 : Nat) : Int))], [.abs (bldQ 74 5 (v53 ++ ((((((⟨#[32, 32, 114, 97, 110, 103, 101, 32]⟩ : ByteArray) ++ y56) ++ (⟨#[32, 118, 105, 101, 119, 32]⟩ : ByteArray)) ++ y57) ++ (⟨#[58, 32]⟩ : ByteArray)) ++ y58))), .box 116 (MapView.L (a0.Views.getD i32 default))])) (entG [0, 1] ⟨mp rfl, mp rfl, mv rfl, mv rfl, mv rfl, tv⟩ ⟨⟨rfl, rfl⟩, ⟨rfl, o_box rfl⟩, tv⟩ rfl) ?_
   refine Dz.reg ?_
   refine Dz.ite rfl hF (fun _ hF => ?_) (fun _ hF => ?_)
   ·refine Dz.reg ?_
    refine bdE hF (fun y60 hy60 hF => ?_)
    refine callG [] (g_itoa_c hy60) ⟨mv rfl, tv⟩ tv rfl ?_
    refine vck hF id (fun _ hF => ?_)
    refine ckX hF (fun hk61 hF => ?_)
    refine callG [0] (g_bldWrite_c hk61) ⟨mp rfl, mv rfl, tv⟩ ⟨⟨rfl, rfl⟩, tv⟩ rfl ?_
    refine Dz.reg ?_
    refine ckX hF (fun hk62 hF => ?_)
    refine callG [0] (g_bldWrite_c hk62) ⟨mp rfl, mv rfl, tv⟩ ⟨⟨rfl, rfl⟩, tv⟩ rfl ?_
    refine Dz.reg ?_
    refine vsucc (by omega) ?_
    exact ⟨(((v53 ++ ((((((⟨#[32, 32, 114, 97, 110, 103, 101, 32]⟩ : ByteArray) ++ y56) ++ (⟨#[32, 118, 105, 101, 119, 32]⟩ : ByteArray)) ++ y57) ++ (⟨#[58, 32]⟩ : ByteArray)) ++ y58)) ++ ((⟨#[32]⟩ : ByteArray) ++ y60)) ++ (⟨#[10]⟩ : ByteArray)), entG [0] ⟨mp rfl, mv rfl, mv rfl, mv rfl, tv⟩ ⟨⟨rfl, rfl⟩, tv⟩ rfl, hF⟩
   ·refine Dz.skip (Dz.reg ?_)
    refine ckX hF (fun hk63 hF => ?_)
    refine callG [0] (g_bldWrite_c hk63) ⟨mp rfl, mv rfl, tv⟩ ⟨⟨rfl, rfl⟩, tv⟩ rfl ?_
    refine Dz.reg ?_
    refine vsucc (by omega) ?_
    exact ⟨((v53 ++ ((((((⟨#[32, 32, 114, 97, 110, 103, 101, 32]⟩ : ByteArray) ++ y56) ++ (⟨#[32, 118, 105, 101, 119, 32]⟩ : ByteArray)) ++ y57) ++ (⟨#[58, 32]⟩ : ByteArray)) ++ y58)) ++ (⟨#[10]⟩ : ByteArray)), entG [0] ⟨mp rfl, mv rfl, mv rfl, mv rfl, tv⟩ ⟨⟨rfl, rfl⟩, tv⟩ rfl, hF⟩
 ·refine Dz.seq (Dz.reg (Dz.seq ?_))
  refine Dz.tt (b := decide (((i5 : Nat) : Int) < ((a0.Disks.length : Nat) : Int))) rfl (decide_eq_true (by omega)) ?_
  refine Dz.skip (Dz.seq (Dz.blk (Dz.seq (Dz.reg ?_))))
  refine vge (n := ((i5 : Nat) : Int)) (hi := (a0.Disks.length : Int)) (by omega) (by omega) ?_
  have hF := ltE hF
  refine Dz.ent (x := ([(1, .ptr 0 0), (3, .ptr 1 0), (5, .ptr 2 0), (20, .val false [.u (ul MapDisk.c 7 t0_3 a0.Disks)]), (21, vint .i64 ((a0.Disks.length : Nat) : Int)), (22, vint .i64 ((i5 : Nat) : Int))], [.box 46 [.u (cI a0.Slots), .u (cI a0.Servers), .u (cI a0.Next), .u (ul MapDisk.c 7 t0_3 a0.Disks), .u (ul MapView.c 3 t0_4 a0.Views), .u (ul MapDone.c 4 t0_5 a0.Done)], .abs (bldQ 74 5 v22), .box 113 (MapDisk.L (a0.Disks.getD i5 default))])) (entG [0, 1, 2] ⟨mp rfl, mp rfl, mp rfl, mv rfl, mv rfl, mv rfl, tv⟩ ⟨⟨rfl, o_box rfl⟩, ⟨rfl, rfl⟩, ⟨rfl, o_box rfl⟩, tv⟩ rfl) ?_
  refine Dz.drw 3 [⟨[31,32,36,37,40,41,42,43,44], [], 3, 3⟩, ⟨[31,32,36,37,40,41,42,43,44], [2], 3, 3⟩, ⟨[31,32,36,37,40,41,42,43,44], [], 3, 3⟩, ⟨[31,32,33,36,37,38,40,41,42,43,44], [], 3, 3⟩, ⟨[31,32,33,36,37,38,40,41,42,43,44], [], 3, 3⟩, ⟨[26,27,28,29,30,36,37,40,41,42,43,44], [], 3, 3⟩, ⟨[26,27,28,29,30,36,37,40,41,42,43,44], [2], 3, 3⟩, ⟨[29,30,36,37,40,41,42,43,44], [], 3, 3⟩, ⟨[36,37,38,40,41,42,43,44], [], 3, 3⟩, ⟨[36,37,38,40,41,42,43,44], [], 3, 3⟩, ⟨[26,27,28,29,30,31,32,33,34,35,40,41,42,43,44], [], 3, 3⟩, ⟨[26,27,28,29,30,31,32,33,34,35,40,41,42,43,44], [2], 3, 3⟩, ⟨[29,30,34,35,40,41,42,43,44], [], 3, 3⟩, ⟨[40,41,42,43,44], [], 3, 3⟩, ⟨[26,27,28,29,30,31,32,33,34,35,36,37,38,39,41,42], [], 3, 4⟩, ⟨[26,27,28,29,30,31,32,33,34,35,36,37,38,39,40], [], 4, 4⟩, ⟨[26,27,28,29,30,31,32,33,34,35,36,37,38,39,40], [2], 4, 4⟩, ⟨[26,27,28,29,30,31,32,33,34,35,36,37,38,39], [3], 4, 4⟩, ⟨[26,27,28,29,30,31,32,33,34,35,36,37,38,39], [3], 4, 4⟩, ⟨[], [], 4, 4⟩, ⟨[], [], 4, 4⟩, ⟨[], [1], 4, 4⟩] ⟨by kernel_rfl, by kernel_rfl, rfl⟩ ?_
  refine bdE hF (fun y25 hy25 hF => ?_)
  refine callG [] (g_itoa_c hy25) ⟨mv rfl, tv⟩ tv rfl ?_
  refine vck hF id (fun _ hF => ?_)
  refine vck hF id (fun _ hF => ?_)
  refine bdE hF (fun y26 hy26 hF => ?_)
  refine callG [] (g_itoa_c hy26) ⟨mv rfl, tv⟩ tv rfl ?_
  refine vck hF id (fun _ hF => ?_)
  refine vck hF id (fun _ hF => ?_)
  refine bdE hF (fun y27 hy27 hF => ?_)
  refine callG [] (g_itoa_c hy27) ⟨mv rfl, tv⟩ tv rfl ?_
  refine vck hF id (fun _ hF => ?_)
  refine vix (L := ([(⟨#[]⟩ : ByteArray), (⟨#[32, 115, 110, 97, 112, 112, 105, 110, 103]⟩ : ByteArray), (⟨#[32, 103, 111, 105, 110, 103]⟩ : ByteArray)] : List ByteArray)) (i := (a0.Disks.getD i5 default).Frozen) hF (fun ha28 hb29 hF => ?_)
  refine vck hF id (fun _ hF => ?_)
  refine vck hF id (fun _ hF => ?_)
  refine ckX hF (fun hk30 hF => ?_)
  refine callG [1] (g_bldWrite_c hk30) ⟨mp rfl, mv rfl, tv⟩ ⟨⟨rfl, rfl⟩, tv⟩ rfl ?_
  refine Dz.row 3 ([(⟨#[]⟩ : ByteArray), (⟨#[32, 115, 110, 97, 112, 112, 105, 110, 103]⟩ : ByteArray), (⟨#[32, 103, 111, 105, 110, 103]⟩ : ByteArray)] : List ByteArray).length (gl cStr ([(⟨#[]⟩ : ByteArray), (⟨#[32, 115, 110, 97, 112, 112, 105, 110, 103]⟩ : ByteArray), (⟨#[32, 103, 111, 105, 110, 103]⟩ : ByteArray)] : List ByteArray)) rfl (by simp <;> omega) (EqG.refl _ _ _) ?_
  refine Dz.ent (x := ([(1, .ptr 0 0), (3, .ptr 1 0), (20, .val false [.u (ul MapDisk.c 7 t0_3 a0.Disks)]), (21, vint .i64 ((a0.Disks.length : Nat) : Int)), (22, vint .i64 ((i5 : Nat) : Int))], [.box 46 [.u (cI a0.Slots), .u (cI a0.Servers), .u (cI a0.Next), .u (ul MapDisk.c 7 t0_3 a0.Disks), .u (ul MapView.c 3 t0_4 a0.Views), .u (ul MapDone.c 4 t0_5 a0.Done)], .abs (bldQ 74 5 (v22 ++ ((((((((⟨#[32, 32, 100, 105, 115, 107, 32]⟩ : ByteArray) ++ y25) ++ (⟨#[32, 115, 105, 122, 101, 32]⟩ : ByteArray)) ++ y26) ++ (⟨#[32, 101, 112, 111, 99, 104, 32]⟩ : ByteArray)) ++ y27) ++ (([(⟨#[]⟩ : ByteArray), (⟨#[32, 115, 110, 97, 112, 112, 105, 110, 103]⟩ : ByteArray), (⟨#[32, 103, 111, 105, 110, 103]⟩ : ByteArray)] : List ByteArray).getD (a0.Disks.getD i5 default).Frozen.toNat default)) ++ (⟨#[10]⟩ : ByteArray))))])) (entG [0, 1] ⟨mp rfl, mp rfl, mv rfl, mv rfl, mv rfl, tv⟩ ⟨⟨rfl, o_box rfl⟩, ⟨rfl, rfl⟩, tv⟩ rfl) ?_
  refine Dz.reg ?_
  refine vsucc (by omega) ?_
  exact ⟨(v22 ++ ((((((((⟨#[32, 32, 100, 105, 115, 107, 32]⟩ : ByteArray) ++ y25) ++ (⟨#[32, 115, 105, 122, 101, 32]⟩ : ByteArray)) ++ y26) ++ (⟨#[32, 101, 112, 111, 99, 104, 32]⟩ : ByteArray)) ++ y27) ++ (([(⟨#[]⟩ : ByteArray), (⟨#[32, 115, 110, 97, 112, 112, 105, 110, 103]⟩ : ByteArray), (⟨#[32, 103, 111, 105, 110, 103]⟩ : ByteArray)] : List ByteArray).getD (a0.Disks.getD i5 default).Frozen.toNat default)) ++ (⟨#[10]⟩ : ByteArray))), entG [0, 1] ⟨mp rfl, mp rfl, mv rfl, mv rfl, mv rfl, tv⟩ ⟨⟨rfl, o_box rfl⟩, ⟨rfl, rfl⟩, tv⟩ rfl, hF⟩
def i_copied_MapDisk (a0 : (List MapDisk)) : Option ((List MapDisk)) :=
 cond (decide (((a0.length : Nat) : Int) = 0)) (some ([] : List MapDisk)) (ck (0 ≤ ((a0.length : Nat) : Int) ∧ ((a0.length : Nat) : Int) * 72 ≤ 140737488355328) (some (cpy (List.replicate a0.length (({ Id := 0, Size := 0, Epoch := 0, Frozen := 0, Client := 0, Call := 0, Acks := [] } : MapDisk) : MapDisk)) a0)))
theorem i_copied_MapDisk_c {t0_0 : Bool} {a0 : (List MapDisk)} {r : (List MapDisk)} (hF : i_copied_MapDisk a0 = some r) : Con Tryz.prog 166 [.val false [.u (ul MapDisk.c 7 t0_0 a0)]] [] (.val false [.row 0]) [.row 113 r.length 7 (gl MapDisk.c r)] := by
 refine Con.of_Dz tabOk Tryz.func166 rfl rfl rfl ?_
 delta i_copied_MapDisk at hF
 refine Dz.seq (Dz.reg (Dz.seq (Dz.seq (Dz.reg ?_))))
 intro hb1; replace hb1 : a0.length ≤ 140737488355328 := hb1
 refine Dz.ite rfl hF (fun _ hF => ?_) (fun _ hF => ?_)
 ·refine Dz.seq (Dz.reg (Dz.ret ?_))
  cases hF
  exact finG [.slot 2 113 7] [0] rfl rfl (⟨rfl, rfl, tv⟩) ⟨⟨rfl, o_rowE (by simp <;> omega) EqG.nilr⟩, tv⟩ rfl
 ·refine Dz.skip (Dz.seq (Dz.reg ?_))
  intro hb2; replace hb2 : a0.length ≤ 140737488355328 := hb2
  refine vck hF (fun h => ⟨rfl, h⟩) (fun hk hF => ?_)
  refine Dz.row 0 (List.replicate a0.length (({ Id := 0, Size := 0, Epoch := 0, Frozen := 0, Client := 0, Call := 0, Acks := [] } : MapDisk) : MapDisk)).length (gl MapDisk.c (List.replicate a0.length (({ Id := 0, Size := 0, Epoch := 0, Frozen := 0, Client := 0, Call := 0, Acks := [] } : MapDisk) : MapDisk))) rfl (by simp <;> omega) (EqG.rep' (c := MapDisk.c) (sz := 7) _ ⟨lr, lr, lr, lr, lr, lr, LeU.nil, tv⟩) ?_
  refine Dz.seq (Dz.reg ?_)
  refine Dz.row 0 (cpy (List.replicate a0.length (({ Id := 0, Size := 0, Epoch := 0, Frozen := 0, Client := 0, Call := 0, Acks := [] } : MapDisk) : MapDisk)) a0).length (gl MapDisk.c (cpy (List.replicate a0.length (({ Id := 0, Size := 0, Epoch := 0, Frozen := 0, Client := 0, Call := 0, Acks := [] } : MapDisk) : MapDisk)) a0)) rfl (by simp <;> omega) (EqG.cpy rfl rfl (EqG.refl _ _ _) (EqG.refl _ _ _)) ?_
  refine Dz.seq (Dz.reg (Dz.ret ?_))
  cases hF
  exact finG [] [0] rfl rfl (⟨rfl, rfl, tv⟩) ⟨⟨rfl, o_row⟩, tv⟩ rfl
def i_copied_int (a0 : (List Int)) : Option ((List Int)) :=
 cond (decide (((a0.length : Nat) : Int) = 0)) (some ([] : List Int)) (ck (0 ≤ ((a0.length : Nat) : Int) ∧ ((a0.length : Nat) : Int) * 8 ≤ 140737488355328) (some (cpy (List.replicate a0.length (0 : Int)) a0)))
theorem i_copied_int_c {t0_0 : Bool} {a0 : (List Int)} {r : (List Int)} (hF : i_copied_int a0 = some r) : Con Tryz.prog 167 [.val false [.u (ul cInt 1 t0_0 a0)]] [] (.val false [.row 0]) [.row 3 r.length 1 (gl cInt r)] := by
 refine Con.of_Dz tabOk Tryz.func167 rfl rfl rfl ?_
 delta i_copied_int at hF
 refine Dz.seq (Dz.reg (Dz.seq (Dz.seq (Dz.reg ?_))))
 intro hb1; replace hb1 : a0.length ≤ 140737488355328 := hb1
 refine Dz.ite rfl hF (fun _ hF => ?_) (fun _ hF => ?_)
 ·refine Dz.seq (Dz.reg (Dz.ret ?_))
  cases hF
  exact finG [.slot 2 3 1] [0] rfl rfl (⟨rfl, rfl, tv⟩) ⟨⟨rfl, o_rowE (by simp <;> omega) EqG.nilr⟩, tv⟩ rfl
 ·refine Dz.skip (Dz.seq (Dz.reg ?_))
  intro hb2; replace hb2 : a0.length ≤ 140737488355328 := hb2
  refine vck hF (fun h => ⟨rfl, h⟩) (fun hk hF => ?_)
  refine Dz.row 0 (List.replicate a0.length (0 : Int)).length (gl cInt (List.replicate a0.length (0 : Int))) rfl (by simp <;> omega) (EqG.rep' (c := cInt) (sz := 1) _ ⟨lr, tv⟩) ?_
  refine Dz.seq (Dz.reg ?_)
  refine Dz.row 0 (cpy (List.replicate a0.length (0 : Int)) a0).length (gl cInt (cpy (List.replicate a0.length (0 : Int)) a0)) rfl (by simp <;> omega) (EqG.cpy rfl rfl (EqG.refl _ _ _) (EqG.refl _ _ _)) ?_
  refine Dz.seq (Dz.reg (Dz.ret ?_))
  cases hF
  exact finG [] [0] rfl rfl (⟨rfl, rfl, tv⟩) ⟨⟨rfl, o_row⟩, tv⟩ rfl
def i_disksCopy (a0 : (List MapDisk)) : Option ((List MapDisk)) :=
 (i_copied_MapDisk a0).bind (fun y1 => loopN (fun i3 (v10 : List MapDisk) κ11 => ix v10 ((i3 : Nat) : Int) (fun _ => (i_copied_int ((v10.getD i3 default).Acks)).bind (fun y12 => ix v10 ((i3 : Nat) : Int) (fun _ => lt (v10.set i3 ({ Id := (v10.getD i3 default).Id, Size := (v10.getD i3 default).Size, Epoch := (v10.getD i3 default).Epoch, Frozen := (v10.getD i3 default).Frozen, Client := (v10.getD i3 default).Client, Call := (v10.getD i3 default).Call, Acks := y12 } : MapDisk)) (fun r13 => κ11 r13))))) (fun (v10 : List MapDisk) => some v10) y1.length 0 y1)
theorem i_disksCopy_c {t0_0 : Bool} {a0 : (List MapDisk)} {r : (List MapDisk)} (hF : i_disksCopy a0 = some r) : Con Tryz.prog 135 [.val false [.u (ul MapDisk.c 7 t0_0 a0)]] [] (.val false [.row 0]) [.row 113 r.length 7 (gl MapDisk.c r)] := by
 refine Con.of_Dz tabOk Tryz.func135 rfl rfl rfl ?_
 delta i_disksCopy at hF
 refine Dz.seq (Dz.reg (Dz.seq (Dz.reg ?_)))
 refine bdE hF (fun y1 hy1 hF => ?_)
 refine callG [] (i_copied_MapDisk_c hy1) ⟨mv rfl, tv⟩ tv rfl ?_
 refine Dz.seq (Dz.seq (Dz.reg ?_))
 intro hb2; replace hb2 : y1.length ≤ 140737488355328 := hb2
 refine Dz.blk ?_
 refine Dz.cnt hF (fun i3 v10 => ([(3, .val false [.row 0]), (8, vint .i64 ((y1.length : Nat) : Int)), (9, vint .i64 ((i3 : Nat) : Int))], [.row 113 v10.length 7 (gl MapDisk.c v10)])) (entG [0] ⟨⟨rfl, rfl, tv⟩, mv rfl, mv rfl, tv⟩ ⟨⟨rfl, o_row⟩, tv⟩ rfl) (fun v10 hF => ?_) (fun i3 v10 κ11 hi0i3 hi1i3 hF => ?_)
 ·refine Dz.seq (Dz.reg (Dz.seq ?_))
  refine Dz.ff (b := decide (((0 + y1.length : Nat) : Int) < ((y1.length : Nat) : Int))) rfl (decide_eq_false (by omega)) ?_
  refine Dz.exit (Dz.seq (Dz.reg (Dz.ret ?_)))
  cases hF
  exact finG [] [0] rfl rfl (⟨rfl, rfl, tv⟩) ⟨⟨rfl, o_row⟩, tv⟩ rfl
 ·refine Dz.seq (Dz.reg (Dz.seq ?_))
  refine Dz.tt (b := decide (((i3 : Nat) : Int) < ((y1.length : Nat) : Int))) rfl (decide_eq_true (by omega)) ?_
  refine Dz.skip (Dz.seq (Dz.blk (Dz.seq (Dz.reg (Dz.reg ?_)))))
  refine vix hF (fun _ _ hF => ?_)
  refine bdE hF (fun y12 hy12 hF => ?_)
  refine callG [] (i_copied_int_c hy12) ⟨mv rfl, tv⟩ tv rfl ?_
  refine vix hF (fun _ _ hF => ?_)
  refine ltX hF (fun r13 hr13 hF => ?_)
  have hlr13 : r13.length = v10.length := by rw [hr13]; simp <;> omega
  refine Dz.row 0 r13.length (gl MapDisk.c r13) rfl (by rw [hr13]; simp <;> omega) (by rw [hr13]; exact (EqG.set' rfl (EqG.refl _ _ _) ⟨lr, lr, lr, lr, lr, lr, lr, tv⟩)) ?_
  refine Dz.reg ?_
  refine vsucc (by omega) ?_
  exact ⟨r13, entG [0] ⟨⟨rfl, rfl, tv⟩, mv rfl, mv rfl, tv⟩ ⟨⟨rfl, o_row⟩, tv⟩ rfl, hF⟩
def i_copied_MapView (a0 : (List MapView)) : Option ((List MapView)) :=
 cond (decide (((a0.length : Nat) : Int) = 0)) (some ([] : List MapView)) (ck (0 ≤ ((a0.length : Nat) : Int) ∧ ((a0.length : Nat) : Int) * 24 ≤ 140737488355328) (some (cpy (List.replicate a0.length (({ Num := 0, A := 0, B := 0 } : MapView) : MapView)) a0)))
theorem i_copied_MapView_c {t0_0 : Bool} {a0 : (List MapView)} {r : (List MapView)} (hF : i_copied_MapView a0 = some r) : Con Tryz.prog 136 [.val false [.u (ul MapView.c 3 t0_0 a0)]] [] (.val false [.row 0]) [.row 116 r.length 3 (gl MapView.c r)] := by
 refine Con.of_Dz tabOk Tryz.func136 rfl rfl rfl ?_
 delta i_copied_MapView at hF
 refine Dz.seq (Dz.reg (Dz.seq (Dz.seq (Dz.reg ?_))))
 intro hb1; replace hb1 : a0.length ≤ 140737488355328 := hb1
 refine Dz.ite rfl hF (fun _ hF => ?_) (fun _ hF => ?_)
 ·refine Dz.seq (Dz.reg (Dz.ret ?_))
  cases hF
  exact finG [.slot 2 116 3] [0] rfl rfl (⟨rfl, rfl, tv⟩) ⟨⟨rfl, o_rowE (by simp <;> omega) EqG.nilr⟩, tv⟩ rfl
 ·refine Dz.skip (Dz.seq (Dz.reg ?_))
  intro hb2; replace hb2 : a0.length ≤ 140737488355328 := hb2
  refine vck hF (fun h => ⟨rfl, h⟩) (fun hk hF => ?_)
  refine Dz.row 0 (List.replicate a0.length (({ Num := 0, A := 0, B := 0 } : MapView) : MapView)).length (gl MapView.c (List.replicate a0.length (({ Num := 0, A := 0, B := 0 } : MapView) : MapView))) rfl (by simp <;> omega) (EqG.rep' (c := MapView.c) (sz := 3) _ ⟨lr, lr, lr, tv⟩) ?_
  refine Dz.seq (Dz.reg ?_)
  refine Dz.row 0 (cpy (List.replicate a0.length (({ Num := 0, A := 0, B := 0 } : MapView) : MapView)) a0).length (gl MapView.c (cpy (List.replicate a0.length (({ Num := 0, A := 0, B := 0 } : MapView) : MapView)) a0)) rfl (by simp <;> omega) (EqG.cpy rfl rfl (EqG.refl _ _ _) (EqG.refl _ _ _)) ?_
  refine Dz.seq (Dz.reg (Dz.ret ?_))
  cases hF
  exact finG [] [0] rfl rfl (⟨rfl, rfl, tv⟩) ⟨⟨rfl, o_row⟩, tv⟩ rfl
def i_copied_MapDone (a0 : (List MapDone)) : Option ((List MapDone)) :=
 cond (decide (((a0.length : Nat) : Int) = 0)) (some ([] : List MapDone)) (ck (0 ≤ ((a0.length : Nat) : Int) ∧ ((a0.length : Nat) : Int) * 32 ≤ 140737488355328) (some (cpy (List.replicate a0.length (({ Client := 0, Call := 0, Code := 0, Value := 0 } : MapDone) : MapDone)) a0)))
theorem i_copied_MapDone_c {t0_0 : Bool} {a0 : (List MapDone)} {r : (List MapDone)} (hF : i_copied_MapDone a0 = some r) : Con Tryz.prog 137 [.val false [.u (ul MapDone.c 4 t0_0 a0)]] [] (.val false [.row 0]) [.row 207 r.length 4 (gl MapDone.c r)] := by
 refine Con.of_Dz tabOk Tryz.func137 rfl rfl rfl ?_
 delta i_copied_MapDone at hF
 refine Dz.seq (Dz.reg (Dz.seq (Dz.seq (Dz.reg ?_))))
 intro hb1; replace hb1 : a0.length ≤ 140737488355328 := hb1
 refine Dz.ite rfl hF (fun _ hF => ?_) (fun _ hF => ?_)
 ·refine Dz.seq (Dz.reg (Dz.ret ?_))
  cases hF
  exact finG [.slot 2 207 4] [0] rfl rfl (⟨rfl, rfl, tv⟩) ⟨⟨rfl, o_rowE (by simp <;> omega) EqG.nilr⟩, tv⟩ rfl
 ·refine Dz.skip (Dz.seq (Dz.reg ?_))
  intro hb2; replace hb2 : a0.length ≤ 140737488355328 := hb2
  refine vck hF (fun h => ⟨rfl, h⟩) (fun hk hF => ?_)
  refine Dz.row 0 (List.replicate a0.length (({ Client := 0, Call := 0, Code := 0, Value := 0 } : MapDone) : MapDone)).length (gl MapDone.c (List.replicate a0.length (({ Client := 0, Call := 0, Code := 0, Value := 0 } : MapDone) : MapDone))) rfl (by simp <;> omega) (EqG.rep' (c := MapDone.c) (sz := 4) _ ⟨lr, lr, lr, lr, tv⟩) ?_
  refine Dz.seq (Dz.reg ?_)
  refine Dz.row 0 (cpy (List.replicate a0.length (({ Client := 0, Call := 0, Code := 0, Value := 0 } : MapDone) : MapDone)) a0).length (gl MapDone.c (cpy (List.replicate a0.length (({ Client := 0, Call := 0, Code := 0, Value := 0 } : MapDone) : MapDone)) a0)) rfl (by simp <;> omega) (EqG.cpy rfl rfl (EqG.refl _ _ _) (EqG.refl _ _ _)) ?_
  refine Dz.seq (Dz.reg (Dz.ret ?_))
  cases hF
  exact finG [] [0] rfl rfl (⟨rfl, rfl, tv⟩) ⟨⟨rfl, o_row⟩, tv⟩ rfl
def i_mapCopy (a0 : MapState) : Option (MapState) :=
 (i_disksCopy a0.Disks).bind (fun y1 => (i_copied_MapView a0.Views).bind (fun y2 => (i_copied_MapDone a0.Done).bind (fun y3 => some ({ Slots := a0.Slots, Servers := a0.Servers, Next := a0.Next, Disks := y1, Views := y2, Done := y3 } : MapState))))
theorem i_mapCopy_c {t0_3 t0_4 t0_5 : Bool} {a0 : MapState} {r : MapState} (hF : i_mapCopy a0 = some r) : Con Tryz.prog 96 [.val true [.u (cI a0.Slots), .u (cI a0.Servers), .u (cI a0.Next), .u (ul MapDisk.c 7 t0_3 a0.Disks), .u (ul MapView.c 3 t0_4 a0.Views), .u (ul MapDone.c 4 t0_5 a0.Done)]] [] (.val true [.u (cI r.Slots), .u (cI r.Servers), .u (cI r.Next), .row 0, .row 1, .row 2]) [.row 113 r.Disks.length 7 (gl MapDisk.c r.Disks), .row 116 r.Views.length 3 (gl MapView.c r.Views), .row 207 r.Done.length 4 (gl MapDone.c r.Done)] := by
 refine Con.of_Dz tabOk Tryz.func96 rfl rfl rfl ?_
 delta i_mapCopy at hF
 refine Dz.seq (Dz.reg (Dz.seq (Dz.reg (Dz.seq (Dz.reg ?_)))))
 refine bdE hF (fun y1 hy1 hF => ?_)
 refine callG [] (i_disksCopy_c hy1) ⟨mv rfl, tv⟩ tv rfl ?_
 refine Dz.seq (Dz.reg ?_)
 refine bdE hF (fun y2 hy2 hF => ?_)
 refine callG [] (i_copied_MapView_c hy2) ⟨mv rfl, tv⟩ tv rfl ?_
 refine Dz.seq (Dz.reg ?_)
 refine bdE hF (fun y3 hy3 hF => ?_)
 refine callG [] (i_copied_MapDone_c hy3) ⟨mv rfl, tv⟩ tv rfl ?_
 refine Dz.seq (Dz.reg (Dz.ret ?_))
 cases hF
 exact finG [] [3, 4, 5] rfl rfl (⟨rfl, lr, lr, lr, rfl, rfl, rfl, tv⟩) ⟨⟨rfl, o_row⟩, ⟨rfl, o_row⟩, ⟨rfl, o_row⟩, tv⟩ rfl
def i_MapStart : Option (MapState) :=
 loopN (fun i1 (v6 : List MapView) κ7 => ck ((v6.length + 1) * 24 ≤ 140737488355328) (κ7 (v6 ++ ([({ Num := 1, A := (Int.tmod ((i1 : Nat) : Int) 3), B := (Int.tmod ((i1 + 1 : Nat) : Int) 3) } : MapView)] : List MapView)))) (fun (v6 : List MapView) => (i_mapCopy ({ Slots := 0, Servers := 3, Next := 1, Disks := [], Views := v6, Done := [] } : MapState)).bind (fun y8 => some y8)) 3 0 ([] : List MapView)
theorem i_MapStart_c {r : MapState} (hF : i_MapStart = some r) : Con Tryz.prog 48 [] [] (.val true [.u (cI r.Slots), .u (cI r.Servers), .u (cI r.Next), .row 0, .row 1, .row 2]) [.row 113 r.Disks.length 7 (gl MapDisk.c r.Disks), .row 116 r.Views.length 3 (gl MapView.c r.Views), .row 207 r.Done.length 4 (gl MapDone.c r.Done)] := by
 refine Con.of_Dz tabOk Tryz.func48 rfl rfl rfl ?_
 delta i_MapStart at hF
 refine Dz.seq (Dz.reg (Dz.seq (Dz.reg (Dz.seq (Dz.seq (Dz.reg (Dz.blk ?_)))))))
 refine Dz.cnt hF (fun i1 v6 => ([(0, .ptr 0 0), (1, .ptr 1 0), (2, vint .i64 ((i1 : Nat) : Int))], [.box 46 [.u (cI 0), .u (cI 0), .u (cI 0), .nil, .nil, .nil], .box 46 [.u (cI 0), .u (cI 3), .u (cI 1), .nil, .row 2, .nil], .row 116 v6.length 3 (gl MapView.c v6)])) (entF [.leaf 1 4 116 3] [0, 1, 2] rfl ⟨mp rfl, mp rfl, mv rfl, tv⟩ ⟨⟨rfl, ⟨rfl, lr, lr, lr, tv, tv, tv, tv⟩⟩, ⟨rfl, ⟨rfl, lr, lr, lr, tv, rfl, tv, tv⟩⟩, ⟨rfl, o_rowE (by simp <;> omega) EqG.nilr⟩, tv⟩ rfl) (fun v6 hF => ?_) (fun i1 v6 κ7 hi0i1 hi1i1 hF => ?_)
 ·refine Dz.seq (Dz.seq (Dz.reg ?_))
  refine Dz.ff (b := decide (((0 + 3 : Nat) : Int) < 3)) rfl (decide_eq_false (by omega)) ?_
  refine Dz.exit (Dz.seq (Dz.reg ?_))
  refine bdE hF (fun y8 hy8 hF => ?_)
  refine callL [] (i_mapCopy_c (t0_3 := false) (t0_5 := false) hy8) ⟨⟨rfl, lr, lr, lr, ⟨_, _, _, rfl⟩, ⟨rfl, rfl, lr⟩, ⟨_, _, _, rfl⟩, tv⟩, tv⟩ tv rfl ⟨⟨tv, tv, tv, tv, tv, tv, tv⟩, ⟨ntm_gl, ntm_gl, ntm_gl, tv⟩⟩ ?_
  refine Dz.ret ?_
  cases hF
  exact finG [] [3, 4, 5] rfl rfl (⟨rfl, lr, lr, lr, rfl, rfl, rfl, tv⟩) ⟨⟨rfl, o_row⟩, ⟨rfl, o_row⟩, ⟨rfl, o_row⟩, tv⟩ rfl
 ·refine Dz.seq (Dz.seq (Dz.reg ?_))
  refine Dz.tt (b := decide (((i1 : Nat) : Int) < 3)) rfl (decide_eq_true (by omega)) ?_
  refine Dz.skip (Dz.seq (Dz.blk (Dz.reg ?_)))
  refine ⟨by decide, _, rfl, ?_⟩
  refine vsucc (by omega) ?_
  refine ⟨by decide, _, rfl, ?_⟩
  refine vck hF id (fun _ hF => ?_)
  refine Dz.row 3 ([({ Num := 1, A := (Int.tmod ((i1 : Nat) : Int) 3), B := (Int.tmod ((i1 + 1 : Nat) : Int) 3) } : MapView)] : List MapView).length (gl MapView.c ([({ Num := 1, A := (Int.tmod ((i1 : Nat) : Int) 3), B := (Int.tmod ((i1 + 1 : Nat) : Int) 3) } : MapView)] : List MapView)) rfl (by simp <;> omega) (EqG.lit (c := MapView.c) (sz := 3) (L := ([({ Num := 1, A := (Int.tmod ((i1 : Nat) : Int) 3), B := (Int.tmod ((i1 + 1 : Nat) : Int) 3) } : MapView)] : List MapView)) ⟨lr, lr, lr, tv⟩) ?_
  refine Dz.row 4 (v6 ++ ([({ Num := 1, A := (Int.tmod ((i1 : Nat) : Int) 3), B := (Int.tmod ((i1 + 1 : Nat) : Int) 3) } : MapView)] : List MapView)).length (gl MapView.c (v6 ++ ([({ Num := 1, A := (Int.tmod ((i1 : Nat) : Int) 3), B := (Int.tmod ((i1 + 1 : Nat) : Int) 3) } : MapView)] : List MapView))) rfl (by simp <;> omega) (EqG.app rfl (by simp <;> omega) (EqG.refl _ _ _) (EqG.lit (c := MapView.c) (sz := 3) (L := ([({ Num := 1, A := (Int.tmod ((i1 : Nat) : Int) 3), B := (Int.tmod ((i1 + 1 : Nat) : Int) 3) } : MapView)] : List MapView)) ⟨lr, lr, lr, tv⟩)) ?_
  refine Dz.reg ?_
  refine vsucc (by omega) ?_
  exact ⟨(v6 ++ ([({ Num := 1, A := (Int.tmod ((i1 : Nat) : Int) 3), B := (Int.tmod ((i1 + 1 : Nat) : Int) 3) } : MapView)] : List MapView)), entG [0, 1, 4] ⟨mp rfl, mp rfl, mv rfl, tv⟩ ⟨⟨rfl, ⟨rfl, lr, lr, lr, tv, tv, tv, tv⟩⟩, ⟨rfl, ⟨rfl, lr, lr, lr, tv, rfl, tv, tv⟩⟩, ⟨rfl, o_row⟩, tv⟩ rfl, hF⟩
def i_doView (a0 : MapState) (a1 : Cmd) : Option (MapState) :=
 (i_isRange a1.Range).bind (fun y1 => cond (!y1) (some a0) (ix a0.Views a1.Range (fun _ => lt (a0.Views.getD a1.Range.toNat default) (fun x2 => jn (fun (v4 : Bool) => cond v4 (some a0) (ix a0.Views a1.Range (fun _ => lt (a0.Views.set a1.Range.toNat ({ Num := a1.Num, A := a1.A, B := (if a1.B > (-1) then a1.B else (-1)) } : MapView)) (fun r5 => some ({ Slots := a0.Slots, Servers := a0.Servers, Next := a0.Next, Disks := a0.Disks, Views := r5, Done := a0.Done } : MapState))))) (fun j6 => cond (!decide (a1.Num = (w64 (x2.Num + 1)))) (j6 true) (cond (decide (a1.A < 0)) (j6 true) (cond (!decide (a1.A = x2.A)) (cond (!decide (a1.A = x2.B)) (j6 true) (cond (decide (a0.Servers ≤ a1.B)) (j6 true) (cond (decide (a1.B = a1.A)) (j6 true) (cond (decide ((0 : Int) ≤ a1.B)) (j6 (decide ((0 : Int) ≤ x2.B))) (j6 false))))) (cond (decide (a0.Servers ≤ a1.B)) (j6 true) (cond (decide (a1.B = a1.A)) (j6 true) (cond (decide ((0 : Int) ≤ a1.B)) (j6 (decide ((0 : Int) ≤ x2.B))) (j6 false)))))))))))
theorem i_doView_c {a0 : MapState} {a1 : Cmd} {r : MapState} (hF : i_doView a0 a1 = some r) : Con Tryz.prog 97 [.val true [.u (cI a0.Slots), .u (cI a0.Servers), .u (cI a0.Next), .u (ul MapDisk.c 7 false a0.Disks), .row 0, .u (ul MapDone.c 4 false a0.Done)], .val true (Cmd.L a1)] [.row 116 a0.Views.length 3 (gl MapView.c a0.Views)] (.val true [.u (cI r.Slots), .u (cI r.Servers), .u (cI r.Next), .u (ul MapDisk.c 7 false r.Disks), .row 0, .u (ul MapDone.c 4 false r.Done)]) [.row 116 r.Views.length 3 (gl MapView.c r.Views)] := by
 refine Con.of_Dz tabOk Tryz.func97 rfl rfl rfl ?_
 delta i_doView at hF
 refine Dz.seq (Dz.reg (Dz.seq (Dz.seq (Dz.reg ?_))))
 refine bdE hF (fun y1 hy1 hF => ?_)
 refine callG [] (i_isRange_c hy1) ⟨mv rfl, tv⟩ tv rfl ?_
 refine Dz.ite rfl hF (fun _ hF => ?_) (fun _ hF => ?_)
 ·refine Dz.seq (Dz.reg (Dz.ret ?_))
  cases hF
  exact finG [] [0] rfl rfl (⟨rfl, lr, lr, lr, lr, rfl, lr, tv⟩) ⟨⟨rfl, o_row⟩, tv⟩ rfl
 ·refine Dz.skip (Dz.seq (Dz.reg ?_))
  refine vix hF (fun _ _ hF => ?_)
  have hF := ltE hF
  refine Dz.seq ?_
  refine Dz.jn hF (fun v4 => ([(2, .ptr 1 0), (3, .ptr 2 0), (4, .ptr 3 0), (65, vbool v4)], [.row 116 a0.Views.length 3 (gl MapView.c a0.Views), .box 46 [.u (cI a0.Slots), .u (cI a0.Servers), .u (cI a0.Next), .u (ul MapDisk.c 7 false a0.Disks), .row 0, .u (ul MapDone.c 4 false a0.Done)], .box 55 (Cmd.L a1), .box 46 [.u (cI 0), .u (cI 0), .u (cI 0), .nil, .nil, .nil]])) (fun v4 hF => ?_) (fun hF => ?_)
  ·refine Dz.ite rfl hF (fun _ hF => ?_) (fun _ hF => ?_)
   ·refine Dz.seq (Dz.reg (Dz.ret ?_))
    cases hF
    exact finG [] [0] rfl rfl (⟨rfl, lr, lr, lr, lr, rfl, lr, tv⟩) ⟨⟨rfl, o_row⟩, tv⟩ rfl
   ·refine Dz.skip (Dz.seq (Dz.reg ?_))
    refine vix hF (fun _ _ hF => ?_)
    refine ltX hF (fun r5 hr5 hF => ?_)
    have hlr5 : r5.length = a0.Views.length := by rw [hr5]; simp <;> omega
    refine Dz.row 0 r5.length (gl MapView.c r5) rfl (by rw [hr5]; simp <;> omega) (by rw [hr5]; exact (EqG.set' rfl (EqG.refl _ _ _) ⟨lr, lr, lr, tv⟩)) ?_
    refine Dz.seq (Dz.reg (Dz.ret ?_))
    cases hF
    exact finG [] [0] rfl rfl (⟨rfl, lr, lr, lr, lr, rfl, lr, tv⟩) ⟨⟨rfl, o_row⟩, tv⟩ rfl
  ·refine Dz.reg (vw64 ?_)
   refine vif hF (fun _ hF => ?_) (fun _ hF => ?_)
   ·exact ⟨true, entG [0, 1, 2, 3] ⟨mp rfl, mp rfl, mp rfl, mv rfl, tv⟩ ⟨⟨rfl, o_row⟩, ⟨rfl, ⟨rfl, lr, lr, lr, lr, rfl, lr, tv⟩⟩, ⟨rfl, o_box rfl⟩, ⟨rfl, ⟨rfl, lr, lr, lr, tv, tv, tv, tv⟩⟩, tv⟩ rfl, hF⟩
   ·refine vif hF (fun _ hF => ?_) (fun _ hF => ?_)
    ·exact ⟨true, entG [0, 1, 2, 3] ⟨mp rfl, mp rfl, mp rfl, mv rfl, tv⟩ ⟨⟨rfl, o_row⟩, ⟨rfl, ⟨rfl, lr, lr, lr, lr, rfl, lr, tv⟩⟩, ⟨rfl, o_box rfl⟩, ⟨rfl, ⟨rfl, lr, lr, lr, tv, tv, tv, tv⟩⟩, tv⟩ rfl, hF⟩
    ·refine vif hF (fun _ hF => ?_) (fun _ hF => ?_)
     ·refine vif hF (fun _ hF => ?_) (fun _ hF => ?_)
      ·exact ⟨true, entG [0, 1, 2, 3] ⟨mp rfl, mp rfl, mp rfl, mv rfl, tv⟩ ⟨⟨rfl, o_row⟩, ⟨rfl, ⟨rfl, lr, lr, lr, lr, rfl, lr, tv⟩⟩, ⟨rfl, o_box rfl⟩, ⟨rfl, ⟨rfl, lr, lr, lr, tv, tv, tv, tv⟩⟩, tv⟩ rfl, hF⟩
      ·refine vif hF (fun _ hF => ?_) (fun _ hF => ?_)
       ·exact ⟨true, entG [0, 1, 2, 3] ⟨mp rfl, mp rfl, mp rfl, mv rfl, tv⟩ ⟨⟨rfl, o_row⟩, ⟨rfl, ⟨rfl, lr, lr, lr, lr, rfl, lr, tv⟩⟩, ⟨rfl, o_box rfl⟩, ⟨rfl, ⟨rfl, lr, lr, lr, tv, tv, tv, tv⟩⟩, tv⟩ rfl, hF⟩
       ·refine vif hF (fun _ hF => ?_) (fun _ hF => ?_)
        ·exact ⟨true, entG [0, 1, 2, 3] ⟨mp rfl, mp rfl, mp rfl, mv rfl, tv⟩ ⟨⟨rfl, o_row⟩, ⟨rfl, ⟨rfl, lr, lr, lr, lr, rfl, lr, tv⟩⟩, ⟨rfl, o_box rfl⟩, ⟨rfl, ⟨rfl, lr, lr, lr, tv, tv, tv, tv⟩⟩, tv⟩ rfl, hF⟩
        ·refine vif hF (fun _ hF => ?_) (fun _ hF => ?_)
         ·exact ⟨(decide ((0 : Int) ≤ (a0.Views.getD a1.Range.toNat default).B)), entG [0, 1, 2, 3] ⟨mp rfl, mp rfl, mp rfl, mv rfl, tv⟩ ⟨⟨rfl, o_row⟩, ⟨rfl, ⟨rfl, lr, lr, lr, lr, rfl, lr, tv⟩⟩, ⟨rfl, o_box rfl⟩, ⟨rfl, ⟨rfl, lr, lr, lr, tv, tv, tv, tv⟩⟩, tv⟩ rfl, hF⟩
         ·exact ⟨false, entG [0, 1, 2, 3] ⟨mp rfl, mp rfl, mp rfl, mv rfl, tv⟩ ⟨⟨rfl, o_row⟩, ⟨rfl, ⟨rfl, lr, lr, lr, lr, rfl, lr, tv⟩⟩, ⟨rfl, o_box rfl⟩, ⟨rfl, ⟨rfl, lr, lr, lr, tv, tv, tv, tv⟩⟩, tv⟩ rfl, hF⟩
     ·refine vif hF (fun _ hF => ?_) (fun _ hF => ?_)
      ·exact ⟨true, entG [0, 1, 2, 3] ⟨mp rfl, mp rfl, mp rfl, mv rfl, tv⟩ ⟨⟨rfl, o_row⟩, ⟨rfl, ⟨rfl, lr, lr, lr, lr, rfl, lr, tv⟩⟩, ⟨rfl, o_box rfl⟩, ⟨rfl, ⟨rfl, lr, lr, lr, tv, tv, tv, tv⟩⟩, tv⟩ rfl, hF⟩
      ·refine vif hF (fun _ hF => ?_) (fun _ hF => ?_)
       ·exact ⟨true, entG [0, 1, 2, 3] ⟨mp rfl, mp rfl, mp rfl, mv rfl, tv⟩ ⟨⟨rfl, o_row⟩, ⟨rfl, ⟨rfl, lr, lr, lr, lr, rfl, lr, tv⟩⟩, ⟨rfl, o_box rfl⟩, ⟨rfl, ⟨rfl, lr, lr, lr, tv, tv, tv, tv⟩⟩, tv⟩ rfl, hF⟩
       ·refine vif hF (fun _ hF => ?_) (fun _ hF => ?_)
        ·exact ⟨(decide ((0 : Int) ≤ (a0.Views.getD a1.Range.toNat default).B)), entG [0, 1, 2, 3] ⟨mp rfl, mp rfl, mp rfl, mv rfl, tv⟩ ⟨⟨rfl, o_row⟩, ⟨rfl, ⟨rfl, lr, lr, lr, lr, rfl, lr, tv⟩⟩, ⟨rfl, o_box rfl⟩, ⟨rfl, ⟨rfl, lr, lr, lr, tv, tv, tv, tv⟩⟩, tv⟩ rfl, hF⟩
        ·exact ⟨false, entG [0, 1, 2, 3] ⟨mp rfl, mp rfl, mp rfl, mv rfl, tv⟩ ⟨⟨rfl, o_row⟩, ⟨rfl, ⟨rfl, lr, lr, lr, lr, rfl, lr, tv⟩⟩, ⟨rfl, o_box rfl⟩, ⟨rfl, ⟨rfl, lr, lr, lr, tv, tv, tv, tv⟩⟩, tv⟩ rfl, hF⟩
def i_diskAt (a0 : (List MapDisk)) (a1 : Int) : Option (Int) :=
 loopN (fun i2 (v4 : Unit) κ5 => lt (a0.getD i2 default) (fun x6 => cond (decide (x6.Id = a1)) (some ((i2 : Nat) : Int)) (κ5 ()))) (fun (v4 : Unit) => some (-1)) a0.length 0 ()
theorem i_diskAt_c {t0_0 : Bool} {a0 : (List MapDisk)} {a1 : Int} {r : Int} (hF : i_diskAt a0 a1 = some r) : Con Tryz.prog 138 [.val false [.u (ul MapDisk.c 7 t0_0 a0)], vint .i64 a1] [] (vint .i64 r) [] := by
 refine Con.of_Dz tabOk Tryz.func138 rfl rfl rfl ?_
 delta i_diskAt at hF
 refine Dz.seq (Dz.reg (Dz.seq (Dz.seq (Dz.reg ?_))))
 intro hb1; replace hb1 : a0.length ≤ 140737488355328 := hb1
 refine Dz.blk ?_
 refine Dz.cnt hF (fun i2 v4 => ([(1, vint .i64 a1), (7, .val false [.u (ul MapDisk.c 7 t0_0 a0)]), (8, vint .i64 ((a0.length : Nat) : Int)), (9, vint .i64 ((i2 : Nat) : Int))], [])) (entG [] ⟨mv rfl, mv rfl, mv rfl, mv rfl, tv⟩ tv rfl) (fun v4 hF => ?_) (fun i2 v4 κ5 hi0i2 hi1i2 hF => ?_)
 ·refine Dz.seq (Dz.reg (Dz.seq ?_))
  refine Dz.ff (b := decide (((0 + a0.length : Nat) : Int) < ((a0.length : Nat) : Int))) rfl (decide_eq_false (by omega)) ?_
  refine Dz.exit (Dz.seq (Dz.reg (Dz.ret ?_)))
  cases hF
  exact finG [] [] rfl rfl (mv rfl) tv rfl
 ·refine Dz.seq (Dz.reg (Dz.seq ?_))
  refine Dz.tt (b := decide (((i2 : Nat) : Int) < ((a0.length : Nat) : Int))) rfl (decide_eq_true (by omega)) ?_
  refine Dz.skip (Dz.seq (Dz.blk (Dz.seq (Dz.reg ?_))))
  refine vge (n := ((i2 : Nat) : Int)) (hi := (a0.length : Int)) (by omega) (by omega) ?_
  have hF := ltE hF
  refine Dz.seq (Dz.reg ?_)
  refine Dz.ite rfl hF (fun _ hF => ?_) (fun _ hF => ?_)
  ·refine Dz.seq (Dz.reg (Dz.ret ?_))
   cases hF
   exact finG [] [] rfl rfl (mv rfl) tv rfl
  ·refine Dz.skip (Dz.reg ?_)
   refine vsucc (by omega) ?_
   exact ⟨(), entG [] ⟨mv rfl, mv rfl, mv rfl, mv rfl, tv⟩ tv rfl, hF⟩
def i_tell (a0 : MapState) (a1 : MapDone) : Option (MapState) :=
 loopN (fun i2 (v13 : Bool × List MapDone) κ14 => lt (a0.Done.getD i2 default) (fun x15 => jn (fun (v18 : Bool × List MapDone) => cond (!decide (x15.Client = a1.Client)) (ck ((v18.2.length + 1) * 32 ≤ 140737488355328) (κ14 (v18.1, (v18.2 ++ ([x15] : List MapDone))))) (κ14 (v18.1, v18.2))) (fun j19 => cond (!v13.1) (cond (decide (a1.Client ≤ x15.Client)) (ck ((v13.2.length + 1) * 32 ≤ 140737488355328) (j19 (true, (v13.2 ++ ([a1] : List MapDone))))) (j19 (v13.1, v13.2))) (j19 (v13.1, v13.2))))) (fun (v13 : Bool × List MapDone) => cond (!v13.1) (ck ((v13.2.length + 1) * 32 ≤ 140737488355328) (some ({ Slots := a0.Slots, Servers := a0.Servers, Next := a0.Next, Disks := a0.Disks, Views := a0.Views, Done := (v13.2 ++ ([a1] : List MapDone)) } : MapState))) (some ({ Slots := a0.Slots, Servers := a0.Servers, Next := a0.Next, Disks := a0.Disks, Views := a0.Views, Done := v13.2 } : MapState))) a0.Done.length 0 (false, ([] : List MapDone))
theorem i_tell_c {t0_5 : Bool} {a0 : MapState} {a1 : MapDone} {r : MapState} (hF : i_tell a0 a1 = some r) : Con Tryz.prog 141 [.val true [.u (cI a0.Slots), .u (cI a0.Servers), .u (cI a0.Next), .u (ul MapDisk.c 7 false a0.Disks), .u (ul MapView.c 3 false a0.Views), .u (ul MapDone.c 4 t0_5 a0.Done)], .val true (MapDone.L a1)] [] (.val true [.u (cI r.Slots), .u (cI r.Servers), .u (cI r.Next), .u (ul MapDisk.c 7 false r.Disks), .u (ul MapView.c 3 false r.Views), .row 0]) [.row 207 r.Done.length 4 (gl MapDone.c r.Done)] := by
 refine Con.of_Dz tabOk Tryz.func141 rfl rfl rfl ?_
 delta i_tell at hF
 refine Dz.seq (Dz.reg (Dz.seq (Dz.reg (Dz.seq (Dz.reg (Dz.seq (Dz.seq ?_)))))))
 refine Dz.reg ?_
 intro hb1; replace hb1 : a0.Done.length ≤ 140737488355328 := hb1
 refine Dz.blk ?_
 refine Dz.cnt hF (fun i2 v13 => ([(2, .ptr 0 0), (3, .ptr 1 0), (4, .ptr 2 0), (5, .val false [.row 3]), (6, vbool v13.1), (10, .val false [.u (ul MapDone.c 4 t0_5 a0.Done)]), (11, vint .i64 ((a0.Done.length : Nat) : Int)), (12, vint .i64 ((i2 : Nat) : Int))], [.box 46 [.u (cI a0.Slots), .u (cI a0.Servers), .u (cI a0.Next), .u (ul MapDisk.c 7 false a0.Disks), .u (ul MapView.c 3 false a0.Views), .u (ul MapDone.c 4 t0_5 a0.Done)], .box 207 (MapDone.L a1), .box 46 [.u (cI 0), .u (cI 0), .u (cI 0), .nil, .nil, .nil], .row 207 v13.2.length 4 (gl MapDone.c v13.2)])) (entF [.slot 5 207 4] [0, 1, 2, 3] rfl ⟨mp rfl, mp rfl, mp rfl, ⟨rfl, rfl, tv⟩, mv rfl, mv rfl, mv rfl, mv rfl, tv⟩ ⟨⟨rfl, o_box rfl⟩, ⟨rfl, o_box rfl⟩, ⟨rfl, ⟨rfl, lr, lr, lr, tv, tv, tv, tv⟩⟩, ⟨rfl, o_rowE (by simp <;> omega) EqG.nilr⟩, tv⟩ rfl) (fun v13 hF => ?_) (fun i2 v13 κ14 hi0i2 hi1i2 hF => ?_)
 ·refine Dz.seq (Dz.reg (Dz.seq ?_))
  refine Dz.ff (b := decide (((0 + a0.Done.length : Nat) : Int) < ((a0.Done.length : Nat) : Int))) rfl (decide_eq_false (by omega)) ?_
  refine Dz.exit (Dz.seq (Dz.seq (Dz.reg ?_)))
  refine Dz.ite rfl hF (fun _ hF => ?_) (fun _ hF => ?_)
  ·refine Dz.reg ?_
   refine vck hF id (fun _ hF => ?_)
   refine Dz.row 4 ([a1] : List MapDone).length (gl MapDone.c ([a1] : List MapDone)) rfl (by simp <;> omega) (EqG.lit (c := MapDone.c) (sz := 4) (L := ([a1] : List MapDone)) ⟨lr, lr, lr, lr, tv⟩) ?_
   refine Dz.row 5 (v13.2 ++ ([a1] : List MapDone)).length (gl MapDone.c (v13.2 ++ ([a1] : List MapDone))) rfl (by simp <;> omega) (EqG.app rfl (by simp <;> omega) (EqG.refl _ _ _) (EqG.lit (c := MapDone.c) (sz := 4) (L := ([a1] : List MapDone)) ⟨lr, lr, lr, lr, tv⟩)) ?_
   refine Dz.seq (Dz.reg (Dz.seq (Dz.reg (Dz.ret ?_))))
   cases hF
   exact finG [] [5] rfl rfl (⟨rfl, lr, lr, lr, lr, lr, rfl, tv⟩) ⟨⟨rfl, o_row⟩, tv⟩ rfl
  ·refine Dz.skip (Dz.seq (Dz.reg (Dz.seq (Dz.reg (Dz.ret ?_)))))
   cases hF
   exact finG [] [3] rfl rfl (⟨rfl, lr, lr, lr, lr, lr, rfl, tv⟩) ⟨⟨rfl, o_row⟩, tv⟩ rfl
 ·refine Dz.seq (Dz.reg (Dz.seq ?_))
  refine Dz.tt (b := decide (((i2 : Nat) : Int) < ((a0.Done.length : Nat) : Int))) rfl (decide_eq_true (by omega)) ?_
  refine Dz.skip (Dz.seq (Dz.blk (Dz.seq (Dz.reg ?_))))
  refine vge (n := ((i2 : Nat) : Int)) (hi := (a0.Done.length : Int)) (by omega) (by omega) ?_
  have hF := ltE hF
  refine Dz.jn hF (fun v18 => ([(2, .ptr 0 0), (3, .ptr 1 0), (4, .ptr 2 0), (5, .val false [.row 3]), (6, vbool v18.1), (8, .ptr 4 0), (10, .val false [.u (ul MapDone.c 4 t0_5 a0.Done)]), (11, vint .i64 ((a0.Done.length : Nat) : Int)), (12, vint .i64 ((i2 : Nat) : Int))], [.box 46 [.u (cI a0.Slots), .u (cI a0.Servers), .u (cI a0.Next), .u (ul MapDisk.c 7 false a0.Disks), .u (ul MapView.c 3 false a0.Views), .u (ul MapDone.c 4 t0_5 a0.Done)], .box 207 (MapDone.L a1), .box 46 [.u (cI 0), .u (cI 0), .u (cI 0), .nil, .nil, .nil], .row 207 v18.2.length 4 (gl MapDone.c v18.2), .box 207 (MapDone.L (a0.Done.getD i2 default))])) (fun v18 hF => ?_) (fun hF => ?_)
  ·refine Dz.seq (Dz.reg ?_)
   refine Dz.ite rfl hF (fun _ hF => ?_) (fun _ hF => ?_)
   ·refine Dz.reg ?_
    refine vck hF id (fun _ hF => ?_)
    refine Dz.row 5 ([(a0.Done.getD i2 default)] : List MapDone).length (gl MapDone.c ([(a0.Done.getD i2 default)] : List MapDone)) rfl (by simp <;> omega) (EqG.lit (c := MapDone.c) (sz := 4) (L := ([(a0.Done.getD i2 default)] : List MapDone)) ⟨lr, lr, lr, lr, tv⟩) ?_
    refine Dz.row 6 (v18.2 ++ ([(a0.Done.getD i2 default)] : List MapDone)).length (gl MapDone.c (v18.2 ++ ([(a0.Done.getD i2 default)] : List MapDone))) rfl (by simp <;> omega) (EqG.app rfl (by simp <;> omega) (EqG.refl _ _ _) (EqG.lit (c := MapDone.c) (sz := 4) (L := ([(a0.Done.getD i2 default)] : List MapDone)) ⟨lr, lr, lr, lr, tv⟩)) ?_
    refine Dz.reg ?_
    refine vsucc (by omega) ?_
    exact ⟨(v18.1, (v18.2 ++ ([(a0.Done.getD i2 default)] : List MapDone))), entG [0, 1, 2, 6] ⟨mp rfl, mp rfl, mp rfl, ⟨rfl, rfl, tv⟩, mv rfl, mv rfl, mv rfl, mv rfl, tv⟩ ⟨⟨rfl, o_box rfl⟩, ⟨rfl, o_box rfl⟩, ⟨rfl, ⟨rfl, lr, lr, lr, tv, tv, tv, tv⟩⟩, ⟨rfl, o_row⟩, tv⟩ rfl, hF⟩
   ·refine Dz.skip (Dz.reg ?_)
    refine vsucc (by omega) ?_
    exact ⟨(v18.1, v18.2), entG [0, 1, 2, 3] ⟨mp rfl, mp rfl, mp rfl, ⟨rfl, rfl, tv⟩, mv rfl, mv rfl, mv rfl, mv rfl, tv⟩ ⟨⟨rfl, o_box rfl⟩, ⟨rfl, o_box rfl⟩, ⟨rfl, ⟨rfl, lr, lr, lr, tv, tv, tv, tv⟩⟩, ⟨rfl, o_row⟩, tv⟩ rfl, hF⟩
  ·refine Dz.seq (Dz.reg ?_)
   refine vif hF (fun _ hF => ?_) (fun _ hF => ?_)
   ·refine Dz.ite rfl hF (fun _ hF => ?_) (fun _ hF => ?_)
    ·refine Dz.seq (Dz.reg ?_)
     refine vck hF id (fun _ hF => ?_)
     refine Dz.row 5 ([a1] : List MapDone).length (gl MapDone.c ([a1] : List MapDone)) rfl (by simp <;> omega) (EqG.lit (c := MapDone.c) (sz := 4) (L := ([a1] : List MapDone)) ⟨lr, lr, lr, lr, tv⟩) ?_
     refine Dz.row 6 (v13.2 ++ ([a1] : List MapDone)).length (gl MapDone.c (v13.2 ++ ([a1] : List MapDone))) rfl (by simp <;> omega) (EqG.app rfl (by simp <;> omega) (EqG.refl _ _ _) (EqG.lit (c := MapDone.c) (sz := 4) (L := ([a1] : List MapDone)) ⟨lr, lr, lr, lr, tv⟩)) ?_
     refine Dz.reg ?_
     exact ⟨(true, (v13.2 ++ ([a1] : List MapDone))), entG [0, 1, 2, 6, 4] ⟨mp rfl, mp rfl, mp rfl, ⟨rfl, rfl, tv⟩, mv rfl, mp rfl, mv rfl, mv rfl, mv rfl, tv⟩ ⟨⟨rfl, o_box rfl⟩, ⟨rfl, o_box rfl⟩, ⟨rfl, ⟨rfl, lr, lr, lr, tv, tv, tv, tv⟩⟩, ⟨rfl, o_row⟩, ⟨rfl, o_box rfl⟩, tv⟩ rfl, hF⟩
    ·refine Dz.skip ?_
     exact ⟨(v13.1, v13.2), entG [0, 1, 2, 3, 4] ⟨mp rfl, mp rfl, mp rfl, ⟨rfl, rfl, tv⟩, mv rfl, mp rfl, mv rfl, mv rfl, mv rfl, tv⟩ ⟨⟨rfl, o_box rfl⟩, ⟨rfl, o_box rfl⟩, ⟨rfl, ⟨rfl, lr, lr, lr, tv, tv, tv, tv⟩⟩, ⟨rfl, o_row⟩, ⟨rfl, o_box rfl⟩, tv⟩ rfl, hF⟩
   ·refine Dz.ff (b := false) rfl rfl ?_
    refine Dz.skip ?_
    exact ⟨(v13.1, v13.2), entG [0, 1, 2, 3, 4] ⟨mp rfl, mp rfl, mp rfl, ⟨rfl, rfl, tv⟩, mv rfl, mp rfl, mv rfl, mv rfl, mv rfl, tv⟩ ⟨⟨rfl, o_box rfl⟩, ⟨rfl, o_box rfl⟩, ⟨rfl, ⟨rfl, lr, lr, lr, tv, tv, tv, tv⟩⟩, ⟨rfl, o_row⟩, ⟨rfl, o_box rfl⟩, tv⟩ rfl, hF⟩
def i_doneOf (a0 : MapState) (a1 : Int) : Option (MapDone) :=
 loopN (fun i2 (v4 : Unit) κ5 => lt (a0.Done.getD i2 default) (fun x6 => cond (decide (x6.Client = a1)) (some x6) (κ5 ()))) (fun (v4 : Unit) => some ({ Client := 0, Call := 0, Code := 0, Value := 0 } : MapDone)) a0.Done.length 0 ()
theorem i_doneOf_c {t0_3 t0_4 t0_5 : Bool} {a0 : MapState} {a1 : Int} {r : MapDone} (hF : i_doneOf a0 a1 = some r) : Con Tryz.prog 140 [.val true [.u (cI a0.Slots), .u (cI a0.Servers), .u (cI a0.Next), .u (ul MapDisk.c 7 t0_3 a0.Disks), .u (ul MapView.c 3 t0_4 a0.Views), .u (ul MapDone.c 4 t0_5 a0.Done)], vint .i64 a1] [] (.val true (MapDone.L r)) [] := by
 refine Con.of_Dz tabOk Tryz.func140 rfl rfl rfl ?_
 delta i_doneOf at hF
 refine Dz.seq (Dz.reg (Dz.seq (Dz.seq (Dz.reg ?_))))
 intro hb1; replace hb1 : a0.Done.length ≤ 140737488355328 := hb1
 refine Dz.blk ?_
 refine Dz.cnt hF (fun i2 v4 => ([(1, vint .i64 a1), (4, .ptr 0 0), (8, .val false [.u (ul MapDone.c 4 t0_5 a0.Done)]), (9, vint .i64 ((a0.Done.length : Nat) : Int)), (10, vint .i64 ((i2 : Nat) : Int))], [.box 207 [.u (cI 0), .u (cI 0), .u (cI 0), .u (cI 0)]])) (entG [1] ⟨mv rfl, mp rfl, mv rfl, mv rfl, mv rfl, tv⟩ ⟨⟨rfl, o_box rfl⟩, tv⟩ rfl) (fun v4 hF => ?_) (fun i2 v4 κ5 hi0i2 hi1i2 hF => ?_)
 ·refine Dz.seq (Dz.reg (Dz.seq ?_))
  refine Dz.ff (b := decide (((0 + a0.Done.length : Nat) : Int) < ((a0.Done.length : Nat) : Int))) rfl (decide_eq_false (by omega)) ?_
  refine Dz.exit (Dz.seq (Dz.reg (Dz.ret ?_)))
  cases hF
  exact finG [] [] rfl rfl (mv rfl) tv rfl
 ·refine Dz.seq (Dz.reg (Dz.seq ?_))
  refine Dz.tt (b := decide (((i2 : Nat) : Int) < ((a0.Done.length : Nat) : Int))) rfl (decide_eq_true (by omega)) ?_
  refine Dz.skip (Dz.seq (Dz.blk (Dz.seq (Dz.reg ?_))))
  refine vge (n := ((i2 : Nat) : Int)) (hi := (a0.Done.length : Int)) (by omega) (by omega) ?_
  have hF := ltE hF
  refine Dz.seq (Dz.reg ?_)
  refine Dz.ite rfl hF (fun _ hF => ?_) (fun _ hF => ?_)
  ·refine Dz.seq (Dz.reg (Dz.ret ?_))
   cases hF
   exact finG [] [] rfl rfl (mv rfl) tv rfl
  ·refine Dz.skip (Dz.reg ?_)
   refine vsucc (by omega) ?_
   exact ⟨(), entG [0] ⟨mv rfl, mp rfl, mv rfl, mv rfl, mv rfl, tv⟩ ⟨⟨rfl, o_box rfl⟩, tv⟩ rfl, hF⟩
def i_past (a0 : MapState) (a1 : Int) (a2 : Int) : Option (Bool) :=
 (i_doneOf a0 a1).bind (fun y1 => jn (fun (v2 : Unit) => loopN (fun i4 (v6 : Unit) κ7 => lt (a0.Disks.getD i4 default) (fun x8 => cond (!decide (x8.Frozen = 0)) (cond (decide (x8.Client = a1)) (cond (decide (a2 ≤ x8.Call)) (some true) (κ7 ())) (κ7 ())) (κ7 ()))) (fun (v6 : Unit) => some false) a0.Disks.length 0 ()) (fun j9 => cond (decide ((0 : Int) < y1.Call)) (cond (decide (a2 < y1.Call)) (some true) (cond (decide (y1.Call = a2)) (cond (!decide (y1.Code = 6)) (some true) (j9 ())) (j9 ()))) (j9 ())))
theorem i_past_c {t0_3 t0_4 t0_5 : Bool} {a0 : MapState} {a1 : Int} {a2 : Int} {r : Bool} (hF : i_past a0 a1 a2 = some r) : Con Tryz.prog 142 [.val true [.u (cI a0.Slots), .u (cI a0.Servers), .u (cI a0.Next), .u (ul MapDisk.c 7 t0_3 a0.Disks), .u (ul MapView.c 3 t0_4 a0.Views), .u (ul MapDone.c 4 t0_5 a0.Done)], vint .i64 a1, vint .i64 a2] [] (vbool r) [] := by
 refine Con.of_Dz tabOk Tryz.func142 rfl rfl rfl ?_
 delta i_past at hF
 refine Dz.seq (Dz.reg (Dz.seq (Dz.reg ?_)))
 refine bdE hF (fun y1 hy1 hF => ?_)
 refine callG [] (i_doneOf_c hy1) ⟨mv rfl, mv rfl, tv⟩ tv rfl ?_
 refine Dz.jn hF (fun v2 => ([(1, vint .i64 a1), (2, vint .i64 a2), (3, .ptr 0 0)], [.box 46 [.u (cI a0.Slots), .u (cI a0.Servers), .u (cI a0.Next), .u (ul MapDisk.c 7 t0_3 a0.Disks), .u (ul MapView.c 3 t0_4 a0.Views), .u (ul MapDone.c 4 t0_5 a0.Done)]])) (fun v2 hF => ?_) (fun hF => ?_)
 ·refine Dz.seq (Dz.seq (Dz.reg ?_))
  intro hb3; replace hb3 : a0.Disks.length ≤ 140737488355328 := hb3
  refine Dz.blk ?_
  refine Dz.cnt hF (fun i4 v6 => ([(1, vint .i64 a1), (2, vint .i64 a2), (34, .val false [.u (ul MapDisk.c 7 t0_3 a0.Disks)]), (35, vint .i64 ((a0.Disks.length : Nat) : Int)), (36, vint .i64 ((i4 : Nat) : Int))], [])) (entG [] ⟨mv rfl, mv rfl, mv rfl, mv rfl, mv rfl, tv⟩ tv rfl) (fun v6 hF => ?_) (fun i4 v6 κ7 hi0i4 hi1i4 hF => ?_)
  ·refine Dz.seq (Dz.reg (Dz.seq ?_))
   refine Dz.ff (b := decide (((0 + a0.Disks.length : Nat) : Int) < ((a0.Disks.length : Nat) : Int))) rfl (decide_eq_false (by omega)) ?_
   refine Dz.exit (Dz.seq (Dz.reg (Dz.ret ?_)))
   cases hF
   exact finG [] [] rfl rfl (mv rfl) tv rfl
  ·refine Dz.seq (Dz.reg (Dz.seq ?_))
   refine Dz.tt (b := decide (((i4 : Nat) : Int) < ((a0.Disks.length : Nat) : Int))) rfl (decide_eq_true (by omega)) ?_
   refine Dz.skip (Dz.seq (Dz.blk (Dz.seq (Dz.reg ?_))))
   refine vge (n := ((i4 : Nat) : Int)) (hi := (a0.Disks.length : Int)) (by omega) (by omega) ?_
   have hF := ltE hF
   refine Dz.seq (Dz.reg ?_)
   refine vif hF (fun _ hF => ?_) (fun _ hF => ?_)
   ·refine vif hF (fun _ hF => ?_) (fun _ hF => ?_)
    ·refine Dz.ite rfl hF (fun _ hF => ?_) (fun _ hF => ?_)
     ·refine Dz.seq (Dz.reg (Dz.ret ?_))
      cases hF
      exact finG [] [] rfl rfl (mv rfl) tv rfl
     ·refine Dz.skip (Dz.reg ?_)
      refine vsucc (by omega) ?_
      exact ⟨(), entG [] ⟨mv rfl, mv rfl, mv rfl, mv rfl, mv rfl, tv⟩ tv rfl, hF⟩
    ·refine Dz.ff (b := false) rfl rfl ?_
     refine Dz.skip (Dz.reg ?_)
     refine vsucc (by omega) ?_
     exact ⟨(), entG [] ⟨mv rfl, mv rfl, mv rfl, mv rfl, mv rfl, tv⟩ tv rfl, hF⟩
   ·refine Dz.ff (b := false) rfl rfl ?_
    refine Dz.skip (Dz.reg ?_)
    refine vsucc (by omega) ?_
    exact ⟨(), entG [] ⟨mv rfl, mv rfl, mv rfl, mv rfl, mv rfl, tv⟩ tv rfl, hF⟩
 ·refine Dz.seq (Dz.reg ?_)
  refine vif hF (fun _ hF => ?_) (fun _ hF => ?_)
  ·refine vif hF (fun _ hF => ?_) (fun _ hF => ?_)
   ·refine Dz.tt (b := true) rfl rfl ?_
    refine Dz.seq (Dz.reg (Dz.ret ?_))
    cases hF
    exact finG [] [] rfl rfl (mv rfl) tv rfl
   ·refine vif hF (fun _ hF => ?_) (fun _ hF => ?_)
    ·refine Dz.ite rfl hF (fun _ hF => ?_) (fun _ hF => ?_)
     ·refine Dz.seq (Dz.reg (Dz.ret ?_))
      cases hF
      exact finG [] [] rfl rfl (mv rfl) tv rfl
     ·refine Dz.skip ?_
      exact ⟨(), entG [0] ⟨mv rfl, mv rfl, mp rfl, tv⟩ ⟨⟨rfl, o_box rfl⟩, tv⟩ rfl, hF⟩
    ·refine Dz.ff (b := false) rfl rfl ?_
     refine Dz.skip ?_
     exact ⟨(), entG [0] ⟨mv rfl, mv rfl, mp rfl, tv⟩ ⟨⟨rfl, o_box rfl⟩, tv⟩ rfl, hF⟩
  ·refine Dz.ff (b := false) rfl rfl ?_
   refine Dz.skip ?_
   exact ⟨(), entG [0] ⟨mv rfl, mv rfl, mp rfl, tv⟩ ⟨⟨rfl, o_box rfl⟩, tv⟩ rfl, hF⟩
def i_judge (a0 : (List MapDisk)) (a1 : Int) (a2 : Int) (a3 : Int) (a4 : Bool) : Option (Int) :=
 (i_diskAt a0 a1).bind (fun y1 => cond (decide (y1 < 0)) (some 1) (ix a0 y1 (fun x2 => (i_in a2 0 (w64 (x2.Size - 1))).bind (fun y3 => cond (!y3) (some 2) (cond (!a4) (cond (!decide (a3 = 0)) (ix a0 y1 (fun x4 => (i_in a3 1 (w64 (x4.Epoch - 1))).bind (fun y5 => cond (!y5) (some 3) (some 0)))) (some 0)) (some 0))))))
theorem i_judge_c {t0_0 : Bool} {a0 : (List MapDisk)} {a1 : Int} {a2 : Int} {a3 : Int} {a4 : Bool} {r : Int} (hF : i_judge a0 a1 a2 a3 a4 = some r) : Con Tryz.prog 143 [.val false [.u (ul MapDisk.c 7 t0_0 a0)], vint .i64 a1, vint .i64 a2, vint .i64 a3, vbool a4] [] (vint .i64 r) [] := by
 refine Con.of_Dz tabOk Tryz.func143 rfl rfl rfl ?_
 delta i_judge at hF
 refine Dz.seq (Dz.reg (Dz.seq (Dz.reg ?_)))
 refine bdE hF (fun y1 hy1 hF => ?_)
 refine callG [] (i_diskAt_c hy1) ⟨mv rfl, mv rfl, tv⟩ tv rfl ?_
 refine Dz.seq (Dz.blk (Dz.seq (Dz.reg ?_)))
 refine Dz.ite rfl hF (fun _ hF => ?_) (fun _ hF => ?_)
 ·refine Dz.seq (Dz.reg (Dz.ret ?_))
  cases hF
  exact finG [] [] rfl rfl (mv rfl) tv rfl
 ·refine Dz.seq (Dz.reg ?_)
  refine vix hF (fun _ _ hF => ?_)
  refine vw64 ?_
  refine bdE hF (fun y3 hy3 hF => ?_)
  refine callG [] (i_in_c hy3) ⟨mv rfl, mv rfl, mv rfl, tv⟩ tv rfl ?_
  refine Dz.ite rfl hF (fun _ hF => ?_) (fun _ hF => ?_)
  ·refine Dz.seq (Dz.reg (Dz.ret ?_))
   cases hF
   exact finG [] [] rfl rfl (mv rfl) tv rfl
  ·refine Dz.seq (Dz.reg ?_)
   refine vif hF (fun _ hF => ?_) (fun _ hF => ?_)
   ·refine vif hF (fun _ hF => ?_) (fun _ hF => ?_)
    ·refine vix hF (fun _ _ hF => ?_)
     refine vw64 ?_
     refine bdE hF (fun y5 hy5 hF => ?_)
     refine callG [] (i_in_c hy5) ⟨mv rfl, mv rfl, mv rfl, tv⟩ tv rfl ?_
     refine Dz.ite rfl hF (fun _ hF => ?_) (fun _ hF => ?_)
     ·refine Dz.seq (Dz.reg (Dz.ret ?_))
      cases hF
      exact finG [] [] rfl rfl (mv rfl) tv rfl
     ·refine Dz.skip (Dz.seq (Dz.reg (Dz.ret ?_)))
      cases hF
      exact finG [] [] rfl rfl (mv rfl) tv rfl
    ·refine Dz.ff (b := false) rfl rfl ?_
     refine Dz.skip (Dz.seq (Dz.reg (Dz.ret ?_)))
     cases hF
     exact finG [] [] rfl rfl (mv rfl) tv rfl
   ·refine Dz.ff (b := false) rfl rfl ?_
    refine Dz.skip (Dz.seq (Dz.reg (Dz.ret ?_)))
    cases hF
    exact finG [] [] rfl rfl (mv rfl) tv rfl
def i_doCall (a0 : MapState) (a1 : Cmd) : Option (MapState) :=
 (i_isClient a1.Client).bind (fun y1 => cond (!y1) (some a0) (cond (decide (a1.Call < 1)) (some a0) ((i_past a0 a1.Client a1.Call).bind (fun y2 => cond y2 (some a0) ((i_diskAt a0.Disks a1.Disk).bind (fun y3 => jn (fun (v7 : Int × Int × MapState) => (i_tell v7.2.2 ({ Client := a1.Client, Call := a1.Call, Code := v7.1, Value := v7.2.1 } : MapDone)).bind (fun y8 => some y8)) (fun j9 => cond (decide (a1.Kind = 1)) ((i_in a1.Arg 1 8).bind (fun y10 => cond (!y10) (j9 (4, 0, a0)) (cond (decide ((4 : Int) < a0.Next)) (j9 (4, 0, a0)) (ck ((a0.Disks.length + 1) * 72 ≤ 140737488355328) (j9 (0, a0.Next, ({ Slots := a0.Slots, Servers := a0.Servers, Next := (w64 (a0.Next + 1)), Disks := (a0.Disks ++ ([({ Id := a0.Next, Size := a1.Arg, Epoch := 1, Frozen := 0, Client := 0, Call := 0, Acks := [] } : MapDisk)] : List MapDisk)), Views := a0.Views, Done := a0.Done } : MapState))))))) (jn (fun (v12 : Bool) => cond v12 (cond (decide (y3 < 0)) (j9 (1, 0, a0)) (ix a0.Disks y3 (fun _ => cond (!decide ((a0.Disks.getD y3.toNat default).Frozen = 0)) (j9 (5, 0, a0)) (ix a0.Disks y3 (fun _ => lt (a0.Disks.getD y3.toNat default) (fun x13 => cond (decide (a1.Kind = 3)) (ix a0.Disks y3 (fun _ => lt (a0.Disks.set y3.toNat ({ Id := x13.Id, Size := x13.Size, Epoch := x13.Epoch, Frozen := 2, Client := a1.Client, Call := a1.Call, Acks := [] } : MapDisk)) (fun r14 => some ({ Slots := a0.Slots, Servers := a0.Servers, Next := a0.Next, Disks := r14, Views := a0.Views, Done := a0.Done } : MapState)))) (ix a0.Disks y3 (fun _ => lt (a0.Disks.set y3.toNat ({ Id := x13.Id, Size := x13.Size, Epoch := x13.Epoch, Frozen := 1, Client := a1.Client, Call := a1.Call, Acks := [] } : MapDisk)) (fun r15 => some ({ Slots := a0.Slots, Servers := a0.Servers, Next := a0.Next, Disks := r15, Views := a0.Views, Done := a0.Done } : MapState)))))))))) (cond (decide (a1.Kind = 4)) (cond (decide (a0.Servers = 5)) (j9 (4, 0, a0)) (j9 (0, (w64 (a0.Servers + 1)), ({ Slots := a0.Slots, Servers := (w64 (a0.Servers + 1)), Next := a0.Next, Disks := a0.Disks, Views := a0.Views, Done := a0.Done } : MapState)))) (jn (fun (v16 : Unit) => (i_judge a0.Disks a1.Disk a1.Arg a1.Epoch (decide (a1.A = 1))).bind (fun y17 => cond (decide (y17 = 0)) (j9 (6, 0, a0)) (j9 (y17, 0, a0)))) (fun j18 => cond (decide (a1.A = 1)) ((i_isRange a1.Range).bind (fun y19 => cond (!y19) (some a0) (ix a0.Views a1.Range (fun x20 => cond (!decide (x20.Num = a1.Num)) (some a0) (j18 ()))))) (j18 ()))))) (fun j21 => cond (decide (a1.Kind = 2)) (j21 (decide (a1.Kind = 2))) (j21 (decide (a1.Kind = 3))))))))))))
theorem i_doCall_c {a0 : MapState} {a1 : Cmd} {r : MapState} (hF : i_doCall a0 a1 = some r) : Con Tryz.prog 99 [.val true [.u (cI a0.Slots), .u (cI a0.Servers), .u (cI a0.Next), .row 0, .u (ul MapView.c 3 false a0.Views), .u (ul MapDone.c 4 false a0.Done)], .val true (Cmd.L a1)] [.row 113 a0.Disks.length 7 (gl MapDisk.c a0.Disks)] (.val true (MapState.L r)) [.none] := by
 refine Con.of_Dz tabOk Tryz.func99 rfl rfl rfl ?_
 delta i_doCall at hF
 refine Dz.seq (Dz.reg (Dz.seq (Dz.seq (Dz.reg ?_))))
 refine bdE hF (fun y1 hy1 hF => ?_)
 refine callG [] (i_isClient_c hy1) ⟨mv rfl, tv⟩ tv rfl ?_
 refine vif hF (fun _ hF => ?_) (fun _ hF => ?_)
 ·refine Dz.tt (b := true) rfl rfl ?_
  refine Dz.seq (Dz.reg (Dz.ret ?_))
  cases hF
  exact finG [.frz 0] [0] rfl rfl (⟨rfl, lr, lr, lr, lr, lr, lr, tv⟩) ⟨⟨rfl, tv⟩, tv⟩ rfl
 ·refine vif hF (fun _ hF => ?_) (fun _ hF => ?_)
  ·refine Dz.tt (b := true) rfl rfl ?_
   refine Dz.seq (Dz.reg (Dz.ret ?_))
   cases hF
   exact finG [.frz 0] [0] rfl rfl (⟨rfl, lr, lr, lr, lr, lr, lr, tv⟩) ⟨⟨rfl, tv⟩, tv⟩ rfl
  ·refine bdE hF (fun y2 hy2 hF => ?_)
   refine callL [] (i_past_c hy2) ⟨⟨rfl, lr, lr, lr, ⟨rfl, rfl, lr⟩, lr, lr, tv⟩, mv rfl, mv rfl, tv⟩ tv rfl ⟨⟨tv, tv⟩, tv⟩ ?_
   refine Dz.ite rfl hF (fun _ hF => ?_) (fun _ hF => ?_)
   ·refine Dz.seq (Dz.reg (Dz.ret ?_))
    cases hF
    exact finG [.frz 0] [0] rfl rfl (⟨rfl, lr, lr, lr, lr, lr, lr, tv⟩) ⟨⟨rfl, tv⟩, tv⟩ rfl
   ·refine Dz.skip (Dz.seq (Dz.reg (Dz.seq (Dz.reg ?_))))
    refine bdE hF (fun y3 hy3 hF => ?_)
    refine callL [] (i_diskAt_c hy3) ⟨⟨rfl, ⟨rfl, rfl, lr⟩, tv⟩, mv rfl, tv⟩ tv rfl ⟨⟨tv, tv⟩, tv⟩ ?_
    refine Dz.jn hF (fun v7 => ([(2, .ptr 1 0), (3, .ptr 2 0), (4, .ptr 3 0), (5, vint .i64 v7.1), (6, vint .i64 v7.2.1)], [.none, .box 46 [.u (cI v7.2.2.Slots), .u (cI v7.2.2.Servers), .u (cI v7.2.2.Next), .row 4, .u (ul MapView.c 3 false v7.2.2.Views), .u (ul MapDone.c 4 false v7.2.2.Done)], .box 55 (Cmd.L a1), .box 46 [.u (cI 0), .u (cI 0), .u (cI 0), .nil, .nil, .nil], .row 113 v7.2.2.Disks.length 7 (gl MapDisk.c v7.2.2.Disks)])) (fun v7 hF => ?_) (fun hF => ?_)
    ·refine Dz.seq (Dz.reg ?_)
     refine bdE hF (fun y8 hy8 hF => ?_)
     refine callF [4] [] (i_tell_c hy8) ⟨⟨rfl, lr, lr, lr, lr, lr, lr, tv⟩, mv rfl, tv⟩ tv rfl ?_
     refine Dz.ret ?_
     cases hF
     exact finG [.frz 5] [0] rfl rfl (⟨rfl, lr, lr, lr, lr, lr, lr, tv⟩) ⟨⟨rfl, tv⟩, tv⟩ rfl
    ·refine Dz.seq (Dz.reg (Dz.blk (Dz.seq (Dz.reg ?_))))
     refine Dz.ite rfl hF (fun _ hF => ?_) (fun _ hF => ?_)
     ·refine Dz.seq (Dz.seq (Dz.reg ?_))
      refine bdE hF (fun y10 hy10 hF => ?_)
      refine callG [] (i_in_c hy10) ⟨mv rfl, mv rfl, mv rfl, tv⟩ tv rfl ?_
      refine vif hF (fun _ hF => ?_) (fun _ hF => ?_)
      ·refine Dz.tt (b := true) rfl rfl ?_
       refine Dz.seq (Dz.reg (Dz.exit ?_))
       exact ⟨(4, 0, a0), entG [0, 1, 2, 3, 0] ⟨mp rfl, mp rfl, mp rfl, mv rfl, mv rfl, tv⟩ ⟨⟨rfl, tv⟩, ⟨rfl, ⟨rfl, lr, lr, lr, rfl, lr, lr, tv⟩⟩, ⟨rfl, o_box rfl⟩, ⟨rfl, ⟨rfl, lr, lr, lr, tv, tv, tv, tv⟩⟩, ⟨rfl, o_row⟩, tv⟩ rfl, hF⟩
      ·refine Dz.ite rfl hF (fun _ hF => ?_) (fun _ hF => ?_)
       ·refine Dz.seq (Dz.reg (Dz.exit ?_))
        exact ⟨(4, 0, a0), entG [0, 1, 2, 3, 0] ⟨mp rfl, mp rfl, mp rfl, mv rfl, mv rfl, tv⟩ ⟨⟨rfl, tv⟩, ⟨rfl, ⟨rfl, lr, lr, lr, rfl, lr, lr, tv⟩⟩, ⟨rfl, o_box rfl⟩, ⟨rfl, ⟨rfl, lr, lr, lr, tv, tv, tv, tv⟩⟩, ⟨rfl, o_row⟩, tv⟩ rfl, hF⟩
       ·refine Dz.skip (Dz.seq (Dz.reg ?_))
        refine vck hF id (fun _ hF => ?_)
        refine Dz.row 4 ([({ Id := a0.Next, Size := a1.Arg, Epoch := 1, Frozen := 0, Client := 0, Call := 0, Acks := [] } : MapDisk)] : List MapDisk).length (gl MapDisk.c ([({ Id := a0.Next, Size := a1.Arg, Epoch := 1, Frozen := 0, Client := 0, Call := 0, Acks := [] } : MapDisk)] : List MapDisk)) rfl (by simp <;> omega) (EqG.lit (c := MapDisk.c) (sz := 7) (L := ([({ Id := a0.Next, Size := a1.Arg, Epoch := 1, Frozen := 0, Client := 0, Call := 0, Acks := [] } : MapDisk)] : List MapDisk)) ⟨lr, lr, lr, lr, lr, lr, LeU.nil, tv⟩) ?_
        refine Dz.row 5 (a0.Disks ++ ([({ Id := a0.Next, Size := a1.Arg, Epoch := 1, Frozen := 0, Client := 0, Call := 0, Acks := [] } : MapDisk)] : List MapDisk)).length (gl MapDisk.c (a0.Disks ++ ([({ Id := a0.Next, Size := a1.Arg, Epoch := 1, Frozen := 0, Client := 0, Call := 0, Acks := [] } : MapDisk)] : List MapDisk))) rfl (by simp <;> omega) (EqG.app rfl (by simp <;> omega) (EqG.refl _ _ _) (EqG.lit (c := MapDisk.c) (sz := 7) (L := ([({ Id := a0.Next, Size := a1.Arg, Epoch := 1, Frozen := 0, Client := 0, Call := 0, Acks := [] } : MapDisk)] : List MapDisk)) ⟨lr, lr, lr, lr, lr, lr, LeU.nil, tv⟩)) ?_
        refine Dz.seq (Dz.reg (Dz.reg (vw64 ?_)))
        exact ⟨(0, a0.Next, ({ Slots := a0.Slots, Servers := a0.Servers, Next := (w64 (a0.Next + 1)), Disks := (a0.Disks ++ ([({ Id := a0.Next, Size := a1.Arg, Epoch := 1, Frozen := 0, Client := 0, Call := 0, Acks := [] } : MapDisk)] : List MapDisk)), Views := a0.Views, Done := a0.Done } : MapState)), entG [0, 1, 2, 3, 5] ⟨mp rfl, mp rfl, mp rfl, mv rfl, mv rfl, tv⟩ ⟨⟨rfl, tv⟩, ⟨rfl, ⟨rfl, lr, lr, lr, rfl, lr, lr, tv⟩⟩, ⟨rfl, o_box rfl⟩, ⟨rfl, ⟨rfl, lr, lr, lr, tv, tv, tv, tv⟩⟩, ⟨rfl, o_row⟩, tv⟩ rfl, hF⟩
     ·refine Dz.jn hF (fun v12 => ([(2, .ptr 1 0), (3, .ptr 2 0), (4, .ptr 3 0), (5, vint .i64 0), (6, vint .i64 0), (7, vint .i64 y3), (33, vint .i64 a1.Kind), (97, vbool v12)], [.row 113 a0.Disks.length 7 (gl MapDisk.c a0.Disks), .box 46 [.u (cI a0.Slots), .u (cI a0.Servers), .u (cI a0.Next), .row 0, .u (ul MapView.c 3 false a0.Views), .u (ul MapDone.c 4 false a0.Done)], .box 55 (Cmd.L a1), .box 46 [.u (cI 0), .u (cI 0), .u (cI 0), .nil, .nil, .nil]])) (fun v12 hF => ?_) (fun hF => ?_)
      ·refine Dz.ite rfl hF (fun _ hF => ?_) (fun _ hF => ?_)
       ·refine Dz.blk (Dz.seq (Dz.reg ?_))
        refine Dz.ite rfl hF (fun _ hF => ?_) (fun _ hF => ?_)
        ·refine Dz.reg ?_
         exact ⟨(1, 0, a0), entG [0, 1, 2, 3, 0] ⟨mp rfl, mp rfl, mp rfl, mv rfl, mv rfl, tv⟩ ⟨⟨rfl, tv⟩, ⟨rfl, ⟨rfl, lr, lr, lr, rfl, lr, lr, tv⟩⟩, ⟨rfl, o_box rfl⟩, ⟨rfl, ⟨rfl, lr, lr, lr, tv, tv, tv, tv⟩⟩, ⟨rfl, o_row⟩, tv⟩ rfl, hF⟩
        ·refine Dz.seq (Dz.reg ?_)
         refine vix hF (fun _ _ hF => ?_)
         refine Dz.ite rfl hF (fun _ hF => ?_) (fun _ hF => ?_)
         ·refine Dz.reg ?_
          exact ⟨(5, 0, a0), entG [0, 1, 2, 3, 0] ⟨mp rfl, mp rfl, mp rfl, mv rfl, mv rfl, tv⟩ ⟨⟨rfl, tv⟩, ⟨rfl, ⟨rfl, lr, lr, lr, rfl, lr, lr, tv⟩⟩, ⟨rfl, o_box rfl⟩, ⟨rfl, ⟨rfl, lr, lr, lr, tv, tv, tv, tv⟩⟩, ⟨rfl, o_row⟩, tv⟩ rfl, hF⟩
         ·refine Dz.seq (Dz.reg ?_)
          refine vix hF (fun _ _ hF => ?_)
          have hF := ltE hF
          refine Dz.seq ?_
          refine Dz.drw 5 [⟨[107,108,109], [], 5, 5⟩, ⟨[107,108,109], [2], 5, 5⟩, ⟨[105,106,109,110], [], 5, 5⟩, ⟨[105,106,109,110], [2], 5, 5⟩, ⟨[105,106,107,108], [], 5, 5⟩, ⟨[105,106,107,108], [4], 5, 5⟩, ⟨[107,108], [], 5, 5⟩, ⟨[107,108], [4], 5, 5⟩, ⟨[], [], 5, 5⟩, ⟨[], [4], 5, 5⟩, ⟨[], [], 5, 5⟩, ⟨[], [4], 5, 5⟩] ⟨by kernel_rfl, by kernel_rfl, rfl⟩ ?_
          refine Dz.seq (Dz.seq (Dz.reg ?_))
          refine Dz.ite rfl hF (fun _ hF => ?_) (fun _ hF => ?_)
          ·refine Dz.reg (Dz.seq (Dz.reg ?_))
           refine vix hF (fun _ _ hF => ?_)
           refine ltX hF (fun r14 hr14 hF => ?_)
           have hlr14 : r14.length = a0.Disks.length := by rw [hr14]; simp <;> omega
           refine Dz.row 0 r14.length (gl MapDisk.c r14) rfl (by rw [hr14]; simp <;> omega) (by rw [hr14]; exact (EqG.set' rfl (EqG.refl _ _ _) ⟨lr, lr, lr, lr, lr, lr, LeU.nil, tv⟩)) ?_
           refine Dz.seq (Dz.reg (Dz.ret ?_))
           cases hF
           exact finG [.frz 0] [0] rfl rfl (⟨rfl, lr, lr, lr, lr, lr, lr, tv⟩) ⟨⟨rfl, tv⟩, tv⟩ rfl
          ·refine Dz.skip (Dz.seq (Dz.reg ?_))
           refine vix hF (fun _ _ hF => ?_)
           refine ltX hF (fun r15 hr15 hF => ?_)
           have hlr15 : r15.length = a0.Disks.length := by rw [hr15]; simp <;> omega
           refine Dz.row 0 r15.length (gl MapDisk.c r15) rfl (by rw [hr15]; simp <;> omega) (by rw [hr15]; exact (EqG.set' rfl (EqG.refl _ _ _) ⟨lr, lr, lr, lr, lr, lr, LeU.nil, tv⟩)) ?_
           refine Dz.seq (Dz.reg (Dz.ret ?_))
           cases hF
           exact finG [.frz 0] [0] rfl rfl (⟨rfl, lr, lr, lr, lr, lr, lr, tv⟩) ⟨⟨rfl, tv⟩, tv⟩ rfl
       ·refine Dz.seq (Dz.reg ?_)
        refine Dz.ite rfl hF (fun _ hF => ?_) (fun _ hF => ?_)
        ·refine Dz.seq (Dz.seq (Dz.reg ?_))
         refine Dz.ite rfl hF (fun _ hF => ?_) (fun _ hF => ?_)
         ·refine Dz.seq (Dz.reg (Dz.exit ?_))
          exact ⟨(4, 0, a0), entG [0, 1, 2, 3, 0] ⟨mp rfl, mp rfl, mp rfl, mv rfl, mv rfl, tv⟩ ⟨⟨rfl, tv⟩, ⟨rfl, ⟨rfl, lr, lr, lr, rfl, lr, lr, tv⟩⟩, ⟨rfl, o_box rfl⟩, ⟨rfl, ⟨rfl, lr, lr, lr, tv, tv, tv, tv⟩⟩, ⟨rfl, o_row⟩, tv⟩ rfl, hF⟩
         ·refine Dz.skip (Dz.seq (Dz.reg (vw64 (Dz.reg ?_))))
          exact ⟨(0, (w64 (a0.Servers + 1)), ({ Slots := a0.Slots, Servers := (w64 (a0.Servers + 1)), Next := a0.Next, Disks := a0.Disks, Views := a0.Views, Done := a0.Done } : MapState)), entG [0, 1, 2, 3, 0] ⟨mp rfl, mp rfl, mp rfl, mv rfl, mv rfl, tv⟩ ⟨⟨rfl, tv⟩, ⟨rfl, ⟨rfl, lr, lr, lr, rfl, lr, lr, tv⟩⟩, ⟨rfl, o_box rfl⟩, ⟨rfl, ⟨rfl, lr, lr, lr, tv, tv, tv, tv⟩⟩, ⟨rfl, o_row⟩, tv⟩ rfl, hF⟩
        ·refine Dz.jn hF (fun v16 => ([(2, .ptr 1 0), (3, .ptr 2 0), (4, .ptr 3 0), (6, vint .i64 0)], [.row 113 a0.Disks.length 7 (gl MapDisk.c a0.Disks), .box 46 [.u (cI a0.Slots), .u (cI a0.Servers), .u (cI a0.Next), .row 0, .u (ul MapView.c 3 false a0.Views), .u (ul MapDone.c 4 false a0.Done)], .box 55 (Cmd.L a1), .box 46 [.u (cI 0), .u (cI 0), .u (cI 0), .nil, .nil, .nil]])) (fun v16 hF => ?_) (fun hF => ?_)
         ·refine Dz.seq (Dz.reg ?_)
          refine bdE hF (fun y17 hy17 hF => ?_)
          refine callL [] (i_judge_c hy17) ⟨⟨rfl, ⟨rfl, rfl, lr⟩, tv⟩, mv rfl, mv rfl, mv rfl, mv rfl, tv⟩ tv rfl ⟨⟨tv, tv⟩, tv⟩ ?_
          refine Dz.seq (Dz.reg ?_)
          refine Dz.ite rfl hF (fun _ hF => ?_) (fun _ hF => ?_)
          ·refine Dz.reg ?_
           exact ⟨(6, 0, a0), entG [0, 1, 2, 3, 0] ⟨mp rfl, mp rfl, mp rfl, mv rfl, mv rfl, tv⟩ ⟨⟨rfl, tv⟩, ⟨rfl, ⟨rfl, lr, lr, lr, rfl, lr, lr, tv⟩⟩, ⟨rfl, o_box rfl⟩, ⟨rfl, ⟨rfl, lr, lr, lr, tv, tv, tv, tv⟩⟩, ⟨rfl, o_row⟩, tv⟩ rfl, hF⟩
          ·refine Dz.skip ?_
           exact ⟨(y17, 0, a0), entG [0, 1, 2, 3, 0] ⟨mp rfl, mp rfl, mp rfl, mv rfl, mv rfl, tv⟩ ⟨⟨rfl, tv⟩, ⟨rfl, ⟨rfl, lr, lr, lr, rfl, lr, lr, tv⟩⟩, ⟨rfl, o_box rfl⟩, ⟨rfl, ⟨rfl, lr, lr, lr, tv, tv, tv, tv⟩⟩, ⟨rfl, o_row⟩, tv⟩ rfl, hF⟩
         ·refine Dz.seq ?_
          refine Dz.drw 4 [⟨[], [], 4, 4⟩, ⟨[], [2], 4, 4⟩, ⟨[], [], 4, 4⟩, ⟨[], [], 4, 4⟩, ⟨[], [], 4, 4⟩, ⟨[], [2], 4, 4⟩, ⟨[], [], 4, 4⟩, ⟨[], [], 4, 4⟩, ⟨[], [], 4, 4⟩, ⟨[45,46,50,51], [], 4, 4⟩, ⟨[45,46,50,51], [1], 4, 4⟩, ⟨[43,44,50,51], [], 4, 4⟩, ⟨[43,44,50,51], [2], 4, 4⟩, ⟨[50,51], [], 4, 4⟩, ⟨[50,51], [], 4, 4⟩, ⟨[50,51], [], 4, 4⟩, ⟨[43,44,45,46,47,48,49], [], 4, 4⟩, ⟨[43,44,45,46,47,48,49], [2], 4, 4⟩, ⟨[], [], 4, 4⟩, ⟨[], [], 4, 4⟩, ⟨[], [], 4, 4⟩] ⟨by kernel_rfl, by kernel_rfl, rfl⟩ ?_
          refine vif hF (fun _ hF => ?_) (fun _ hF => ?_)
          ·refine bdE hF (fun y19 hy19 hF => ?_)
           refine callG [] (i_isRange_c hy19) ⟨mv rfl, tv⟩ tv rfl ?_
           refine vif hF (fun _ hF => ?_) (fun _ hF => ?_)
           ·refine Dz.tt (b := true) rfl rfl ?_
            refine Dz.seq (Dz.reg (Dz.ret ?_))
            cases hF
            exact finG [.frz 0] [0] rfl rfl (⟨rfl, lr, lr, lr, lr, lr, lr, tv⟩) ⟨⟨rfl, tv⟩, tv⟩ rfl
           ·refine vix hF (fun _ _ hF => ?_)
            refine Dz.ite rfl hF (fun _ hF => ?_) (fun _ hF => ?_)
            ·refine Dz.seq (Dz.reg (Dz.ret ?_))
             cases hF
             exact finG [.frz 0] [0] rfl rfl (⟨rfl, lr, lr, lr, lr, lr, lr, tv⟩) ⟨⟨rfl, tv⟩, tv⟩ rfl
            ·refine Dz.skip ?_
             exact ⟨(), entG [0, 1, 2, 3] ⟨mp rfl, mp rfl, mp rfl, mv rfl, tv⟩ ⟨⟨rfl, o_row⟩, ⟨rfl, ⟨rfl, lr, lr, lr, rfl, lr, lr, tv⟩⟩, ⟨rfl, o_box rfl⟩, ⟨rfl, ⟨rfl, lr, lr, lr, tv, tv, tv, tv⟩⟩, tv⟩ rfl, hF⟩
          ·refine Dz.ff (b := false) rfl rfl ?_
           refine Dz.skip ?_
           exact ⟨(), entG [0, 1, 2, 3] ⟨mp rfl, mp rfl, mp rfl, mv rfl, tv⟩ ⟨⟨rfl, o_row⟩, ⟨rfl, ⟨rfl, lr, lr, lr, rfl, lr, lr, tv⟩⟩, ⟨rfl, o_box rfl⟩, ⟨rfl, ⟨rfl, lr, lr, lr, tv, tv, tv, tv⟩⟩, tv⟩ rfl, hF⟩
      ·refine Dz.seq (Dz.reg ?_)
       refine Dz.ite rfl hF (fun _ hF => ?_) (fun _ hF => ?_)
       ·refine Dz.skip ?_
        exact ⟨(decide (a1.Kind = 2)), entG [0, 1, 2, 3] ⟨mp rfl, mp rfl, mp rfl, mv rfl, mv rfl, mv rfl, mv rfl, mv rfl, tv⟩ ⟨⟨rfl, o_row⟩, ⟨rfl, ⟨rfl, lr, lr, lr, rfl, lr, lr, tv⟩⟩, ⟨rfl, o_box rfl⟩, ⟨rfl, ⟨rfl, lr, lr, lr, tv, tv, tv, tv⟩⟩, tv⟩ rfl, hF⟩
       ·refine Dz.reg ?_
        exact ⟨(decide (a1.Kind = 3)), entG [0, 1, 2, 3] ⟨mp rfl, mp rfl, mp rfl, mv rfl, mv rfl, mv rfl, mv rfl, mv rfl, tv⟩ ⟨⟨rfl, o_row⟩, ⟨rfl, ⟨rfl, lr, lr, lr, rfl, lr, lr, tv⟩⟩, ⟨rfl, o_box rfl⟩, ⟨rfl, ⟨rfl, lr, lr, lr, tv, tv, tv, tv⟩⟩, tv⟩ rfl, hF⟩
end Go.Proofs.PanB

namespace Go.Proofs.PanB
set_option maxRecDepth 8000
open Go.Vs
open Go.RowKit (Below)
theorem walk80_nil (A : Option Addr) (c : Nat) (w : World) : Calls Tryz.prog 167 #[.slice A 0 c] w fun e w' => e = .returned (.slice none 0 0) ∧ w' = w := by
 go_enter Tryz.func167, Tryz.ntmps167
 go_wp2
 go_ret
 exact ⟨rfl, rfl⟩
theorem walk80 (A : Option Addr) (n c : Nat) (w w1 w2 : World) (vm : Value) (hn : 0 < n) (hm : (Instr.makeSlice 58 (.int .i64 n) (.int .i64 n)).run Tryz.prog w = .ok vm w1)
  (hc : ∀ ty, (Builtin.copy_ #[58, 58] ty #[vm, .slice A n c]).run Tryz.prog w1 = .ok (goInt n) w2) :
  Calls Tryz.prog 167 #[.slice A n c] w fun e w' => e = .returned vm ∧ w' = w2 := by
 have hne : ((n : Int) == 0) = false := by simp; omega
 go_enter Tryz.func167, Tryz.ntmps167
 go_wp2
 go_ret
 exact ⟨rfl, rfl⟩
def intVs (L : List Int) : List Value := L.map (Value.int .i64)
theorem intVs_get {L : List Int} {i : Nat} (h : i < L.length) : (intVs L)[i]? = some (.int .i64 (L.getD i default)) := by
 unfold intVs
 rw [List.getElem?_map, List.getElem?_eq_getElem h, List.getD_eq_getElem?_getD, List.getElem?_eq_getElem h]; rfl
def xul {α : Type} [Inhabited α] (c : α → Nat → U) (sz : Nat) (L : List α) : U := .xsl L.length sz (gl c L)
def gX (g0 : Gh) (X : Nat → Prop) : Gh := { g0 with Fz := fun b => g0.Fz b ∨ X b, om := fun _ => none, df := fun _ => False }
theorem i_copied_int_x {t0_0 : Bool} {a0 : (List Int)} {r : (List Int)} (hF : i_copied_int a0 = some r) : Con Tryz.prog 167 [.val false [.u (ul cInt 1 t0_0 a0)]] [] (.val false [.u (xul cInt 1 r)]) [] := by
 refine ⟨(i_copied_int_c (t0_0 := t0_0) hF).1, fun w0 g0 vals hpre _ => ?_⟩
 obtain ⟨v, rfl⟩ : ∃ v, vals = [v] := by
  have := hpre.args
  match vals, this with
  | [v], _ => exact ⟨v, rfl⟩
  | [], h => exact h.elim
  | _ :: _ :: _, h => exact h.2.elim
 obtain ⟨A, c, rfl, h1, h2, h3⟩ : RU w0 g0 (ul cInt 1 t0_0 a0) v := RV.cell hpre.args.1
 unfold i_copied_int at hF
 have hpost : ∀ (X : Nat → Prop) (w : World) (v : Value), RU w (gX g0 X) (xul cInt 1 r) v → v.oneCell' = true → (∀ b, X b → w0.heap.size ≤ b ∧ b < w.heap.size) → w.os = w0.os → w.tape = w0.tape → w.output = w0.output → w0.heap.size ≤ w.heap.size →
   (∀ k, k < w0.heap.size → w.heap[k]? = w0.heap[k]?) → Post 0 (.val false [.u (xul cInt 1 r)]) [] w0 g0 w (gX g0 X) v := fun X w v hu _ hX e1 e2 e3 e4 e5 =>
  ⟨RV.of_cell hu, fun r hr => absurd hr (Nat.not_lt_zero r), fun r => ⟨fun h => h.elim, fun h => absurd h (Nat.not_lt_zero r)⟩, Nat.le_refl _, fun b hb => by
   rcases hb with hb | hb
   ·exact ⟨.inr (.inl hb), Nat.lt_of_lt_of_le (hpre.fz b hb).1 e4, rfl⟩
   ·exact ⟨.inl (hX b hb).1, (hX b hb).2, rfl⟩, rfl, fun _ _ => rfl, fun b r h => (by cases h), fun r hr => absurd hr (Nat.not_lt_zero r), e1, e2, e3, e4, fun k hk _ => e5 k hk⟩
 by_cases hn : a0.length = 0
 ·rw [decide_eq_true (by omega), cond_true] at hF
  cases hF
  obtain rfl : a0 = [] := List.eq_nil_of_length_eq_zero hn
  have h := walk80_nil A c w0
  refine h.mono fun e w ⟨he, hw⟩ => ?_
  subst he; subst hw
  exact ⟨_, gX g0 (fun _ => False), rfl, hpost _ _ _ ⟨none, rfl, by decide, fun h => absurd h (Nat.lt_irrefl 0)⟩ rfl (fun b h => h.elim) rfl rfl rfl (Nat.le_refl _) fun _ _ => rfl⟩
 ·rw [decide_eq_false (by omega), cond_false] at hF
  obtain ⟨hk, hF⟩ := ckE hF
  obtain ⟨b, o, rfl, hz, hc⟩ := h3 (by omega)
  have hr : r = a0 := by
   have : cpy (List.replicate a0.length (0 : Int)) a0 = a0 := by unfold cpy; simp
   rw [this] at hF
   exact (Option.some.inj hF).symm
  subst hr
  have hcell : ∀ i, i < r.length → w0.cell? ⟨b, o + i, none⟩ = some (.int .i64 (r.getD i default)) := fun i hi => by
   obtain ⟨x, hx, hu⟩ := hc i hi 0 (by omega)
   rw [show x = .int .i64 (r.getD i default) from hu] at hx
   simpa using hx
  have hb : b < w0.heap.size := by
   rcases hz with hz | ⟨_, hz⟩
   ·exact (hpre.fz b hz).1
   ·exact (hpre.tz b hz).1
  have ty := tabOk 3 _ (show T 3 = some _ from rfl)
  have hu : Tryz.prog.underlying 58 = some (.slice 3) := (tabOk 58 _ (show T 58 = some _ from rfl)).desc
  obtain ⟨inf, z, q1, q2, q3, q4, q5⟩ := ty.info
  have hm := run_make (P := Tryz.prog) w0 58 3 inf z hu q1 q4 .i64 .i64 (r.length : Int) (r.length : Int) (by omega) (Int.le_refl _) (by rw [q3]; simp only [bound] at h2; show (8 : Int) * _ ≤ _; omega) (by simp only [bound] at h2; omega)
  simp only [Int.toNat_natCast] at hm
  have hinf : inf.size = 1 := q2
  rw [hinf, Nat.mul_one] at hm
  generalize hw1 : w0.alloc (.cells (madeCells z.cells r.length) 3) = w1 at hm
  have hg1 : w1.heap[w0.heap.size]? = some (.cells (madeCells z.cells r.length) 3 (0, 0)) := by rw [← hw1]; exact heap_alloc_new w0 _
  have hold : ∀ k, k < w0.heap.size → w1.heap[k]? = w0.heap[k]? := fun k hk => by rw [← hw1]; exact heap_alloc_old w0 _ hk
  have hlen : (intVs r).length = r.length := by simp [intVs]
  have hcp := fun ty => run_copy (P := Tryz.prog) (t := 58) (t2 := 58) (ty := ty) hu (tabOk 3 _ (show T 3 = some _ from rfl)) w0.heap.size r.length r.length (some ⟨b, o, none⟩) r.length c (madeCells z.cells r.length) (intVs r) w1 hg1
   (by simp [madeCells]) (by rw [hlen]; simp) (fun v hv => by
    obtain ⟨x, _, rfl⟩ := List.mem_map.1 hv
    rfl) (fun h => by cases h) (fun ad had q v hv => by
    injection had with had
    subst had
    rw [addr_add]
    have hq : q < r.length := by rw [← hlen]; exact (List.getElem?_eq_some_iff.1 hv).1
    rw [intVs_get hq] at hv
    injection hv with hv
    rw [← hv, ← hcell q hq]
    exact cell_of_heap (hold b hb))
  have hmin : Nat.min r.length r.length = r.length := Nat.min_self _
  rw [hmin] at hcp
  refine (walk80 (some ⟨b, o, none⟩) r.length c w0 w1 _ _ (by omega) hm (fun ty => hcp ty)).mono fun e w ⟨he, hw⟩ => ?_
  subst he
  have hsz : w.heap.size = w0.heap.size + 1 := by rw [hw, setRow_size, ← hw1]; exact Array.size_push ..
  have hg2 := setRow_heap w1 w0.heap.size _ (spliceL (madeCells z.cells r.length).toList 0 (intVs r)).toArray 3 _ hg1
  rw [← hw] at hg2
  refine ⟨_, gX g0 (fun b => b = w0.heap.size), rfl, hpost _ _ _ ⟨_, rfl, h2, fun _ => ⟨w0.heap.size, 0, rfl, .inr rfl, fun i hi j hj => ⟨.int .i64 (r.getD i default), ?_, rfl⟩⟩⟩ rfl (fun b hb => by subst hb; omega) ?_ ?_ ?_ (by omega) fun k hk => ?_⟩
  ·rw [cell_of_row w _ _ _ 3 _ hg2]
   obtain rfl : j = 0 := by omega
   have hml : (madeCells z.cells r.length).size = r.length := by simp [madeCells]
   simp only [Nat.zero_add, Nat.mul_one, Nat.add_zero, List.getElem?_toArray]
   unfold spliceL
   rw [List.take_zero, List.nil_append, List.getElem?_append_left (by rw [hlen]; exact hi)]
   exact intVs_get hi
  ·rw [hw, ← hw1]; rfl
  ·rw [hw, ← hw1]; rfl
  ·rw [hw, ← hw1]; rfl
  ·rw [hw, setRow_other _ _ _ _ (by omega)]
   exact hold k hk
theorem ixE {α R : Type} [Inhabited α] {L : List α} {i : Int} {κ : α → Option R} {r : R} (hF : ix L i κ = some r) : 0 ≤ i ∧ i < (L.length : Int) ∧ κ (L.getD i.toNat default) = some r := by
 unfold ix at hF
 split at hF
 case isTrue hh => exact ⟨hh.1, hh.2, hF⟩
 case isFalse => cases hF
def MapDisk.cx (x : MapDisk) : Nat → U
 | 6 => xul cInt 1 x.Acks
 | j => MapDisk.c x j
theorem cx_c (x : MapDisk) (j : Nat) : LeU (MapDisk.cx x j) (MapDisk.c x j) := by
 unfold MapDisk.cx
 split
 ·exact ⟨_, _, _, .inl ⟨false, rfl⟩, rfl, fun _ => rfl, fun i _ j _ => lr⟩
 ·exact lr
theorem cx_of {x : MapDisk} {j : Nat} (h : j ≠ 6) : MapDisk.cx x j = MapDisk.c x j := by
 unfold MapDisk.cx
 split
 ·exact absurd rfl h
 ·rfl
theorem EqG.cx {n sz : Nat} {L : List MapDisk} : EqG n sz (gl MapDisk.cx L) (gl MapDisk.c L) := fun i _ j _ => cx_c _ j
def gmx (k : Nat) (L : List MapDisk) : Nat → Nat → U := fun i j => cond (Nat.blt i k) (MapDisk.cx (L.getD i default) j) (MapDisk.c (L.getD i default) j)
theorem gmx_0 {n sz : Nat} {L : List MapDisk} : EqG n sz (gl MapDisk.c L) (gmx 0 L) := fun i _ j _ => by
 unfold gmx
 rw [blt_f (Nat.zero_le i)]; exact lr
theorem gmx_all {n sz : Nat} {L : List MapDisk} : EqG n sz (gmx n L) (gl MapDisk.cx L) := fun i hi j _ => by
 unfold gmx
 rw [blt_t hi]; exact lr
theorem gmx_get {k : Nat} {L : List MapDisk} : LeU (gmx k L k 6) (ul cInt 1 false (L.getD k default).Acks) := by
 unfold gmx
 rw [blt_f (Nat.le_refl k)]; exact lr
theorem gmx_set {n k : Nat} {L : List MapDisk} {a : List Int} {x : MapDisk} (hk : k < L.length) (h6 : x.Acks = a) (h : ∀ j, j ≠ 6 → MapDisk.c (L.getD k default) j = MapDisk.c x j) : EqG n 7 (storeRow (gmx k L) k 6 [xul cInt 1 a]) (gmx (k + 1) (L.set k x)) := by
 intro i hi j hj
 show LeU (cond (Nat.beq i k && Nat.ble 6 j && Nat.blt j 7) ([xul cInt 1 a].getD (j - 6) dU) (gmx k L i j)) (gmx (k + 1) (L.set k x) i j)
 rw [beq_eq]
 by_cases e : i = k
 ·subst e
  rw [decide_eq_true rfl, Bool.true_and]
  have hx : (L.set i x).getD i default = x := by
   rw [List.getD_eq_getElem?_getD, List.getElem?_set_self hk]; rfl
  unfold gmx
  rw [hx, blt_t (Nat.lt_succ_self i), blt_f (Nat.le_refl i), cond_true, cond_false]
  by_cases e6 : j = 6
  ·subst e6
   subst h6
   exact lr
  ·have : (Nat.ble 6 j && Nat.blt j 7) = false := by
    rw [Bool.and_eq_false_iff]
    rcases Nat.lt_or_ge j 6 with h1 | h1
    ·left
     cases hb : Nat.ble 6 j with
     | false => rfl
     | true => have := Nat.le_of_ble_eq_true hb; omega
    ·omega
   rw [this, cond_false, h j e6, cx_of e6]; exact lr
 ·rw [decide_eq_false e, Bool.false_and, Bool.false_and, cond_false]
  have hx : (L.set k x).getD i default = L.getD i default := by
   rw [List.getD_eq_getElem?_getD, List.getD_eq_getElem?_getD, List.getElem?_set_ne (fun e' => e e'.symm)]
  unfold gmx
  rw [hx]
  rcases Nat.lt_or_ge i k with h1 | h1
  ·rw [blt_t h1, blt_t (by omega : i < k + 1)]; exact lr
  ·rw [blt_f h1, blt_f (by omega : k + 1 ≤ i)]; exact lr
theorem c_but (x : MapDisk) (a : List Int) : ∀ j, j ≠ 6 → MapDisk.c x j = MapDisk.c { x with Acks := a } j
 | 0, _ => rfl
 | 1, _ => rfl
 | 2, _ => rfl
 | 3, _ => rfl
 | 4, _ => rfl
 | 5, _ => rfl
 | 6, h => absurd rfl h
 | _ + 7, _ => rfl
theorem copied_len {r : List MapDisk} (n : Nat) : ∀ (d i : Nat) (v : List MapDisk), v.length = n → loopN (fun i3 (v10 : List MapDisk) κ11 => ix v10 ((i3 : Nat) : Int) (fun _ => (i_copied_int ((v10.getD i3 default).Acks)).bind (fun y12 => ix v10 ((i3 : Nat) : Int) (fun _ => lt (v10.set i3 ({ Id := (v10.getD i3 default).Id, Size := (v10.getD i3 default).Size, Epoch := (v10.getD i3 default).Epoch, Frozen := (v10.getD i3 default).Frozen, Client := (v10.getD i3 default).Client, Call := (v10.getD i3 default).Call, Acks := y12 } : MapDisk)) (fun r13 => κ11 r13))))) (fun (v10 : List MapDisk) => some v10) d i v = some r → r.length = n
 | 0, i, v, hv, h => by
  have : some v = some r := h
  rw [← Option.some.inj this]; exact hv
 | d + 1, i, v, hv, h => by
  rw [loopN] at h
  have h := (ixE h).2.2
  obtain ⟨y, _, h⟩ := Option.bind_eq_some_iff.1 h
  have h := (ixE h).2.2
  exact copied_len n d (i + 1) _ (by simpa using hv) h
theorem i_disksCopy_x {t0_0 : Bool} {a0 : (List MapDisk)} {r : (List MapDisk)} (hF : i_disksCopy a0 = some r) : Con Tryz.prog 135 [.val false [.u (ul MapDisk.c 7 t0_0 a0)]] [] (.val false [.row 0]) [.row 113 r.length 7 (gl MapDisk.cx r)] := by
 refine Con.of_Dz tabOk Tryz.func135 rfl rfl rfl ?_
 delta i_disksCopy at hF
 refine Dz.seq (Dz.reg (Dz.seq (Dz.reg ?_)))
 refine bdE hF (fun y1 hy1 hF => ?_)
 refine callG [] (i_copied_MapDisk_c hy1) ⟨mv rfl, tv⟩ tv rfl ?_
 have hlen := copied_len y1.length _ 0 _ rfl hF
 refine Dz.seq (Dz.seq (Dz.reg ?_))
 intro hb2; replace hb2 : y1.length ≤ 140737488355328 := hb2
 refine Dz.blk ?_
 refine Dz.cnt hF (fun i3 v10 => ([(3, .val false [.row 0]), (8, vint .i64 ((y1.length : Nat) : Int)), (9, vint .i64 ((i3 : Nat) : Int))], [.row 113 y1.length 7 (gmx i3 v10)])) (entG [0] ⟨⟨rfl, rfl, tv⟩, mv rfl, mv rfl, tv⟩ ⟨⟨rfl, o_rowE rfl gmx_0⟩, tv⟩ rfl) (fun v10 hF => ?_) (fun i3 v10 κ11 hi0i3 hi1i3 hF => ?_)
 ·refine Dz.seq (Dz.reg (Dz.seq ?_))
  refine Dz.ff (b := decide (((0 + y1.length : Nat) : Int) < ((y1.length : Nat) : Int))) rfl (decide_eq_false (by omega)) ?_
  refine Dz.exit (Dz.seq (Dz.reg (Dz.ret ?_)))
  cases hF
  exact finG [] [0] rfl rfl (⟨rfl, rfl, tv⟩) ⟨⟨rfl, o_rowE hlen.symm (by rw [Nat.zero_add]; exact gmx_all)⟩, tv⟩ rfl
 ·refine Dz.seq (Dz.reg (Dz.seq ?_))
  refine Dz.tt (b := decide (((i3 : Nat) : Int) < ((y1.length : Nat) : Int))) rfl (decide_eq_true (by omega)) ?_
  refine Dz.skip (Dz.seq (Dz.blk (Dz.seq (Dz.reg (Dz.reg ?_)))))
  obtain ⟨_, hi3, hF⟩ := ixE hF
  refine ⟨⟨by omega, by omega⟩, ?_⟩
  refine bdE hF (fun y12 hy12 hF => ?_)
  refine callG [] (i_copied_int_x (t0_0 := false) hy12) ⟨⟨rfl, gmx_get, tv⟩, tv⟩ tv rfl ?_
  obtain ⟨_, _, hF⟩ := ixE hF
  refine ⟨⟨by omega, by omega⟩, ?_⟩
  refine ltX hF (fun r13 hr13 hF => ?_)
  have hlr13 : r13.length = v10.length := by rw [hr13]; simp <;> omega
  refine Dz.row 0 y1.length (gmx (i3 + 1) r13) rfl rfl (by rw [hr13]; exact (gmx_set (by omega) rfl (c_but _ _))) ?_
  refine Dz.reg ?_
  refine vsucc (by omega) ?_
  exact ⟨r13, entG [0] ⟨⟨rfl, rfl, tv⟩, mv rfl, mv rfl, tv⟩ ⟨⟨rfl, o_row⟩, tv⟩ rfl, hF⟩
theorem i_mapCopy_x {t0_3 t0_4 t0_5 : Bool} {a0 : MapState} {r : MapState} (hF : i_mapCopy a0 = some r) : Con Tryz.prog 96 [.val true [.u (cI a0.Slots), .u (cI a0.Servers), .u (cI a0.Next), .u (ul MapDisk.c 7 t0_3 a0.Disks), .u (ul MapView.c 3 t0_4 a0.Views), .u (ul MapDone.c 4 t0_5 a0.Done)]] [] (.val true [.u (cI r.Slots), .u (cI r.Servers), .u (cI r.Next), .row 0, .row 1, .row 2]) [.row 113 r.Disks.length 7 (gl MapDisk.cx r.Disks), .row 116 r.Views.length 3 (gl MapView.c r.Views), .row 207 r.Done.length 4 (gl MapDone.c r.Done)] := by
 refine Con.of_Dz tabOk Tryz.func96 rfl rfl rfl ?_
 delta i_mapCopy at hF
 refine Dz.seq (Dz.reg (Dz.seq (Dz.reg (Dz.seq (Dz.reg ?_)))))
 refine bdE hF (fun y1 hy1 hF => ?_)
 refine callG [] (i_disksCopy_x hy1) ⟨mv rfl, tv⟩ tv rfl ?_
 refine Dz.seq (Dz.reg ?_)
 refine bdE hF (fun y2 hy2 hF => ?_)
 refine callG [] (i_copied_MapView_c hy2) ⟨mv rfl, tv⟩ tv rfl ?_
 refine Dz.seq (Dz.reg ?_)
 refine bdE hF (fun y3 hy3 hF => ?_)
 refine callG [] (i_copied_MapDone_c hy3) ⟨mv rfl, tv⟩ tv rfl ?_
 refine Dz.seq (Dz.reg (Dz.ret ?_))
 cases hF
 exact finG [] [3, 4, 5] rfl rfl (⟨rfl, lr, lr, lr, rfl, rfl, rfl, tv⟩) ⟨⟨rfl, o_row⟩, ⟨rfl, o_row⟩, ⟨rfl, o_row⟩, tv⟩ rfl
def i_hasNumber (a0 : (List Int)) (a1 : Int) : Option (Bool) :=
 loopN (fun i2 (v3 : Unit) κ4 => cond (decide ((a0.getD i2 default) = a1)) (some true) (κ4 ())) (fun (v3 : Unit) => some false) a0.length 0 ()
theorem i_hasNumber_c {t0_0 : Bool} {a0 : (List Int)} {a1 : Int} {r : Bool} (hF : i_hasNumber a0 a1 = some r) : Con Tryz.prog 139 [.val false [.u (ul cInt 1 t0_0 a0)], vint .i64 a1] [] (vbool r) [] := by
 refine Con.of_Dz tabOk Tryz.func139 rfl rfl rfl ?_
 delta i_hasNumber at hF
 refine Dz.seq (Dz.reg (Dz.seq (Dz.seq (Dz.reg ?_))))
 intro hb1; replace hb1 : a0.length ≤ 140737488355328 := hb1
 refine Dz.blk ?_
 refine Dz.cnt hF (fun i2 v3 => ([(1, vint .i64 a1), (7, .val false [.u (ul cInt 1 t0_0 a0)]), (8, vint .i64 ((a0.length : Nat) : Int)), (9, vint .i64 ((i2 : Nat) : Int))], [])) (entG [] ⟨mv rfl, mv rfl, mv rfl, mv rfl, tv⟩ tv rfl) (fun v3 hF => ?_) (fun i2 v3 κ4 hi0i2 hi1i2 hF => ?_)
 ·refine Dz.seq (Dz.reg (Dz.seq ?_))
  refine Dz.ff (b := decide (((0 + a0.length : Nat) : Int) < ((a0.length : Nat) : Int))) rfl (decide_eq_false (by omega)) ?_
  refine Dz.exit (Dz.seq (Dz.reg (Dz.ret ?_)))
  cases hF
  exact finG [] [] rfl rfl (mv rfl) tv rfl
 ·refine Dz.seq (Dz.reg (Dz.seq ?_))
  refine Dz.tt (b := decide (((i2 : Nat) : Int) < ((a0.length : Nat) : Int))) rfl (decide_eq_true (by omega)) ?_
  refine Dz.skip (Dz.seq (Dz.blk (Dz.seq (Dz.reg ?_))))
  refine vge (n := ((i2 : Nat) : Int)) (hi := (a0.length : Int)) (by omega) (by omega) ?_
  refine Dz.seq (Dz.reg ?_)
  refine Dz.ite rfl hF (fun _ hF => ?_) (fun _ hF => ?_)
  ·refine Dz.seq (Dz.reg (Dz.ret ?_))
   cases hF
   exact finG [] [] rfl rfl (mv rfl) tv rfl
  ·refine Dz.skip (Dz.reg ?_)
   refine vsucc (by omega) ?_
   exact ⟨(), entG [] ⟨mv rfl, mv rfl, mv rfl, mv rfl, tv⟩ tv rfl, hF⟩
def MapDisk.Lx (x : MapDisk) : List Vs.L := [.u (cI x.Id), .u (cI x.Size), .u (cI x.Epoch), .u (cI x.Frozen), .u (cI x.Client), .u (cI x.Call), .u (xul cInt 1 x.Acks)]
theorem xul_ul {L : List Int} {t : Bool} : LeU (xul cInt 1 L) (ul cInt 1 t L) := ⟨_, _, _, .inl ⟨t, rfl⟩, rfl, fun _ => rfl, fun i _ j _ => lr⟩
def i_doAck (a0 : MapState) (a1 : Cmd) : Option (MapState) :=
 (i_diskAt a0.Disks a1.Disk).bind (fun y1 => cond (decide (y1 < 0)) (some a0) ((i_isRange a1.Range).bind (fun y2 => cond (!y2) (some a0) (ix a0.Disks y1 (fun _ => lt (a0.Disks.getD y1.toNat default) (fun x3 => cond (decide (x3.Frozen = 0)) (some a0) (cond (!decide (x3.Epoch = a1.Epoch)) (some a0) (ix a0.Views a1.Range (fun x4 => cond (!decide (x4.Num = a1.Num)) (some a0) ((i_hasNumber x3.Acks a1.Range).bind (fun y5 => cond y5 (some a0) (ck ((x3.Acks.length + 1) * 8 ≤ 140737488355328) (cond (decide ((((x3.Acks ++ ([a1.Range] : List Int)).length : Nat) : Int) < 3)) (ix a0.Disks y1 (fun _ => lt (a0.Disks.set y1.toNat ({ Id := x3.Id, Size := x3.Size, Epoch := x3.Epoch, Frozen := x3.Frozen, Client := x3.Client, Call := x3.Call, Acks := (x3.Acks ++ ([a1.Range] : List Int)) } : MapDisk)) (fun r7 => some ({ Slots := a0.Slots, Servers := a0.Servers, Next := a0.Next, Disks := r7, Views := a0.Views, Done := a0.Done } : MapState)))) (jn (fun (v10 : Int × List MapDisk) => (i_doneOf ({ Slots := a0.Slots, Servers := a0.Servers, Next := a0.Next, Disks := v10.2, Views := a0.Views, Done := a0.Done } : MapState) x3.Client).bind (fun y11 => cond (decide (x3.Call < y11.Call)) (some ({ Slots := a0.Slots, Servers := a0.Servers, Next := a0.Next, Disks := v10.2, Views := a0.Views, Done := a0.Done } : MapState)) ((i_tell ({ Slots := a0.Slots, Servers := a0.Servers, Next := a0.Next, Disks := v10.2, Views := a0.Views, Done := a0.Done } : MapState) ({ Client := x3.Client, Call := x3.Call, Code := 0, Value := v10.1 } : MapDone)).bind (fun y12 => some y12)))) (fun j13 => cond (decide (x3.Frozen = 1)) (ix a0.Disks y1 (fun _ => j13 (x3.Epoch, (a0.Disks.set y1.toNat ({ Id := x3.Id, Size := x3.Size, Epoch := (w64 (x3.Epoch + 1)), Frozen := 0, Client := 0, Call := 0, Acks := [] } : MapDisk))))) (ck (0 ≤ y1 ∧ y1 ≤ ((a0.Disks.length : Nat) : Int)) (ck (0 ≤ (w64 (y1 + 1)) ∧ (w64 (y1 + 1)) ≤ ((a0.Disks.length : Nat) : Int)) (ck ((y1.toNat + (a0.Disks.length - (w64 (y1 + 1)).toNat)) * 72 ≤ 140737488355328) (j13 (0, (a0.Disks.take y1.toNat ++ a0.Disks.drop ((w64 (y1 + 1)).toNat))))))))))))))))))))))
theorem i_doAck_x {a0 : MapState} {a1 : Cmd} {r : MapState} (hF : i_doAck a0 a1 = some r) : Con Tryz.prog 98 [.val true [.u (cI a0.Slots), .u (cI a0.Servers), .u (cI a0.Next), .row 0, .u (ul MapView.c 3 false a0.Views), .u (ul MapDone.c 4 false a0.Done)], .val true (Cmd.L a1)] [.row 113 a0.Disks.length 7 (gl MapDisk.cx a0.Disks)] (.val true (MapState.L r)) [.none] := by
 refine Con.of_Dz tabOk Tryz.func98 rfl rfl rfl ?_
 delta i_doAck at hF
 refine Dz.seq (Dz.reg (Dz.seq (Dz.reg ?_)))
 refine bdE hF (fun y1 hy1 hF => ?_)
 refine callL [] (i_diskAt_c hy1) ⟨⟨rfl, ⟨rfl, rfl, LeU.cut rfl EqG.cx⟩, tv⟩, mv rfl, tv⟩ tv rfl ⟨⟨tv, tv⟩, tv⟩ ?_
 refine Dz.seq (Dz.seq (Dz.reg ?_))
 refine vif hF (fun _ hF => ?_) (fun _ hF => ?_)
 ·refine Dz.tt (b := true) rfl rfl ?_
  refine Dz.seq (Dz.reg ?_)
  refine Dz.row 0 a0.Disks.length (gl MapDisk.c a0.Disks) rfl rfl EqG.cx ?_
  refine Dz.ret ?_
  cases hF
  exact finG [.frz 0] [0] rfl rfl (⟨rfl, lr, lr, lr, lr, lr, lr, tv⟩) ⟨⟨rfl, tv⟩, tv⟩ rfl
 ·refine bdE hF (fun y2 hy2 hF => ?_)
  refine callG [] (i_isRange_c hy2) ⟨mv rfl, tv⟩ tv rfl ?_
  refine Dz.ite rfl hF (fun _ hF => ?_) (fun _ hF => ?_)
  ·refine Dz.seq (Dz.reg ?_)
   refine Dz.row 0 a0.Disks.length (gl MapDisk.c a0.Disks) rfl rfl EqG.cx ?_
   refine Dz.ret ?_
   cases hF
   exact finG [.frz 0] [0] rfl rfl (⟨rfl, lr, lr, lr, lr, lr, lr, tv⟩) ⟨⟨rfl, tv⟩, tv⟩ rfl
  ·refine Dz.skip (Dz.seq (Dz.reg ?_))
   refine vix hF (fun _ _ hF => ?_)
   have hF := ltE hF
   refine Dz.seq (Dz.seq ?_)
   refine Dz.drw 5 [⟨[], [], 5, 5⟩, ⟨[], [4], 5, 5⟩, ⟨[], [], 5, 5⟩, ⟨[], [], 5, 5⟩, ⟨[33,34], [], 5, 5⟩, ⟨[33,34], [4], 5, 5⟩, ⟨[31,32], [], 5, 5⟩, ⟨[31,32], [2], 5, 5⟩, ⟨[], [], 5, 5⟩, ⟨[], [], 5, 5⟩, ⟨[], [], 5, 5⟩, ⟨[40,41,45,46], [], 5, 5⟩, ⟨[40,41,45,46], [1], 5, 5⟩, ⟨[38,39,45,46], [], 5, 5⟩, ⟨[38,39,45,46], [2], 5, 5⟩, ⟨[45,46], [], 5, 5⟩, ⟨[45,46], [], 5, 5⟩, ⟨[45,46], [], 5, 5⟩, ⟨[38,39,40,41,42,43,44], [], 5, 5⟩, ⟨[38,39,40,41,42,43,44], [2], 5, 5⟩, ⟨[], [], 5, 5⟩, ⟨[], [], 5, 5⟩, ⟨[], [], 5, 5⟩, ⟨[52,53], [], 5, 5⟩, ⟨[52,53], [4], 5, 5⟩, ⟨[50,51], [], 5, 5⟩, ⟨[50,51], [2], 5, 5⟩, ⟨[], [], 5, 5⟩, ⟨[], [], 5, 5⟩] ⟨by kernel_rfl, by kernel_rfl, rfl⟩ ?_
   refine vif hF (fun _ hF => ?_) (fun _ hF => ?_)
   ·refine Dz.tt (b := true) rfl rfl ?_
    refine Dz.seq (Dz.reg ?_)
    refine Dz.row 0 a0.Disks.length (gl MapDisk.c a0.Disks) rfl rfl EqG.cx ?_
    refine Dz.ret ?_
    cases hF
    exact finG [.frz 0] [0] rfl rfl (⟨rfl, lr, lr, lr, lr, lr, lr, tv⟩) ⟨⟨rfl, tv⟩, tv⟩ rfl
   ·refine vif hF (fun _ hF => ?_) (fun _ hF => ?_)
    ·refine Dz.tt (b := true) rfl rfl ?_
     refine Dz.seq (Dz.reg ?_)
     refine Dz.row 0 a0.Disks.length (gl MapDisk.c a0.Disks) rfl rfl EqG.cx ?_
     refine Dz.ret ?_
     cases hF
     exact finG [.frz 0] [0] rfl rfl (⟨rfl, lr, lr, lr, lr, lr, lr, tv⟩) ⟨⟨rfl, tv⟩, tv⟩ rfl
    ·refine vix hF (fun _ _ hF => ?_)
     refine vif hF (fun _ hF => ?_) (fun _ hF => ?_)
     ·refine Dz.tt (b := true) rfl rfl ?_
      refine Dz.seq (Dz.reg ?_)
      refine Dz.row 0 a0.Disks.length (gl MapDisk.c a0.Disks) rfl rfl EqG.cx ?_
      refine Dz.ret ?_
      cases hF
      exact finG [.frz 0] [0] rfl rfl (⟨rfl, lr, lr, lr, lr, lr, lr, tv⟩) ⟨⟨rfl, tv⟩, tv⟩ rfl
     ·refine bdE hF (fun y5 hy5 hF => ?_)
      refine callG [] (i_hasNumber_c (t0_0 := false) hy5) ⟨⟨rfl, xul_ul, tv⟩, mv rfl, tv⟩ tv rfl ?_
      refine Dz.ite rfl hF (fun _ hF => ?_) (fun _ hF => ?_)
      ·refine Dz.seq (Dz.reg ?_)
       refine Dz.row 0 a0.Disks.length (gl MapDisk.c a0.Disks) rfl rfl EqG.cx ?_
       refine Dz.ret ?_
       cases hF
       exact finG [.frz 0] [0] rfl rfl (⟨rfl, lr, lr, lr, lr, lr, lr, tv⟩) ⟨⟨rfl, tv⟩, tv⟩ rfl
      ·refine Dz.skip (Dz.seq (Dz.reg ?_))
       refine vck hF id (fun _ hF => ?_)
       refine Dz.row 0 a0.Disks.length (gl MapDisk.c a0.Disks) rfl rfl EqG.cx ?_
       refine Dz.row 5 ([a1.Range] : List Int).length (gl cInt ([a1.Range] : List Int)) rfl (by simp <;> omega) (EqG.lit (c := cInt) (sz := 1) (L := ([a1.Range] : List Int)) ⟨lr, tv⟩) ?_
       refine Dz.row 6 ((a0.Disks.getD y1.toNat default).Acks ++ ([a1.Range] : List Int)).length (gl cInt ((a0.Disks.getD y1.toNat default).Acks ++ ([a1.Range] : List Int))) rfl (by simp <;> omega) (EqG.app rfl (by simp <;> omega) (EqG.refl _ _ _) (EqG.lit (c := cInt) (sz := 1) (L := ([a1.Range] : List Int)) ⟨lr, tv⟩)) ?_
       refine Dz.seq (Dz.seq (Dz.reg ?_))
       intro hb6; replace hb6 : ((a0.Disks.getD y1.toNat default).Acks ++ ([a1.Range] : List Int)).length ≤ 140737488355328 := hb6
       refine Dz.ite rfl hF (fun _ hF => ?_) (fun _ hF => ?_)
       ·refine Dz.seq (Dz.reg ?_)
        refine vix hF (fun _ _ hF => ?_)
        refine ltX hF (fun r7 hr7 hF => ?_)
        have hlr7 : r7.length = a0.Disks.length := by rw [hr7]; simp <;> omega
        refine Dz.row 0 r7.length (gl MapDisk.c r7) rfl (by rw [hr7]; simp <;> omega) (by rw [hr7]; exact (EqG.set' rfl (EqG.refl _ _ _) ⟨lr, lr, lr, lr, lr, lr, lr, tv⟩)) ?_
        refine Dz.seq (Dz.reg (Dz.ret ?_))
        cases hF
        exact finG [.frz 0] [0] rfl rfl (⟨rfl, lr, lr, lr, lr, lr, lr, tv⟩) ⟨⟨rfl, tv⟩, tv⟩ rfl
       ·refine Dz.skip (Dz.seq (Dz.reg ?_))
        refine Dz.jn hF (fun v10 => ([(2, .ptr 1 0), (4, .ptr 2 0), (6, .ptr 3 0), (7, .ptr 4 0)], [.none, .box 46 [.u (cI a0.Slots), .u (cI a0.Servers), .u (cI a0.Next), .row 5, .u (ul MapView.c 3 false a0.Views), .u (ul MapDone.c 4 false a0.Done)], .box 46 [.u (cI 0), .u (cI 0), .u (cI 0), .nil, .nil, .nil], .box 113 [.u (cI ((a0.Disks.getD y1.toNat default).Id)), .u (cI ((a0.Disks.getD y1.toNat default).Size)), .u (cI ((a0.Disks.getD y1.toNat default).Epoch)), .u (cI ((a0.Disks.getD y1.toNat default).Frozen)), .u (cI ((a0.Disks.getD y1.toNat default).Client)), .u (cI ((a0.Disks.getD y1.toNat default).Call)), .row 6], .box 207 [.u (cI ((a0.Disks.getD y1.toNat default).Client)), .u (cI ((a0.Disks.getD y1.toNat default).Call)), .u (cI 0), .u (cI v10.1)], .row 113 v10.2.length 7 (gl MapDisk.c v10.2), .row 3 (((a0.Disks.getD y1.toNat default).Acks ++ ([a1.Range] : List Int)).length) 1 (gl cInt ((a0.Disks.getD y1.toNat default).Acks ++ ([a1.Range] : List Int)))])) (fun v10 hF => ?_) (fun hF => ?_)
        ·refine Dz.seq (Dz.seq ?_)
         refine Dz.drw 7 [⟨[109,110,113,114], [1], 7, 7⟩, ⟨[108,113,114], [], 7, 7⟩, ⟨[108,113,114], [3], 7, 7⟩, ⟨[113,114], [5], 7, 7⟩, ⟨[113,114], [], 7, 7⟩, ⟨[108,109,110,111,112], [], 7, 7⟩, ⟨[108,109,110,111,112], [3], 7, 7⟩, ⟨[], [], 7, 7⟩] ⟨by kernel_rfl, by kernel_rfl, rfl⟩ ?_
         refine bdE hF (fun y11 hy11 hF => ?_)
         refine callL [] (i_doneOf_c hy11) ⟨⟨rfl, lr, lr, lr, ⟨rfl, rfl, lr⟩, lr, lr, tv⟩, mv rfl, tv⟩ tv rfl ⟨⟨tv, tv, tv, tv, tv⟩, tv⟩ ?_
         refine Dz.ite rfl hF (fun _ hF => ?_) (fun _ hF => ?_)
         ·refine Dz.seq (Dz.reg (Dz.ret ?_))
          cases hF
          exact finG [.frz 5] [0] rfl rfl (⟨rfl, lr, lr, lr, lr, lr, lr, tv⟩) ⟨⟨rfl, tv⟩, tv⟩ rfl
         ·refine Dz.skip (Dz.seq (Dz.reg ?_))
          refine bdE hF (fun y12 hy12 hF => ?_)
          refine callF [5] [] (i_tell_c hy12) ⟨⟨rfl, lr, lr, lr, lr, lr, lr, tv⟩, mv rfl, tv⟩ tv rfl ?_
          refine Dz.ret ?_
          cases hF
          exact finG [.frz 7] [0] rfl rfl (⟨rfl, lr, lr, lr, lr, lr, lr, tv⟩) ⟨⟨rfl, tv⟩, tv⟩ rfl
        ·refine Dz.seq (Dz.reg ?_)
         refine Dz.ite rfl hF (fun _ hF => ?_) (fun _ hF => ?_)
         ·refine Dz.seq (Dz.reg (Dz.reg (vw64 ?_)))
          refine vix hF (fun _ _ hF => ?_)
          exact ⟨((a0.Disks.getD y1.toNat default).Epoch, (a0.Disks.set y1.toNat ({ Id := (a0.Disks.getD y1.toNat default).Id, Size := (a0.Disks.getD y1.toNat default).Size, Epoch := (w64 ((a0.Disks.getD y1.toNat default).Epoch + 1)), Frozen := 0, Client := 0, Call := 0, Acks := [] } : MapDisk))), entG [0, 1, 3, 4, 7, 0, 6] ⟨mp rfl, mp rfl, mp rfl, mp rfl, tv⟩ ⟨⟨rfl, tv⟩, ⟨rfl, ⟨rfl, lr, lr, lr, rfl, lr, lr, tv⟩⟩, ⟨rfl, ⟨rfl, lr, lr, lr, tv, tv, tv, tv⟩⟩, ⟨rfl, ⟨rfl, lr, lr, lr, lr, lr, lr, rfl, tv⟩⟩, ⟨rfl, o_box rfl⟩, ⟨rfl, o_rowE (by simp <;> omega) (EqG.set' rfl (EqG.refl _ _ _) ⟨lr, lr, lr, lr, lr, lr, LeU.nil, tv⟩)⟩, ⟨rfl, o_row⟩, tv⟩ rfl, hF⟩
         ·refine Dz.drw 8 [⟨[99,101,102,103,104,105], [], 8, 8⟩, ⟨[99,101,102,103,104,105], [1], 8, 8⟩, ⟨[97,98,101,102,103,104,105], [], 8, 8⟩, ⟨[101,102,103,104,105], [0], 8, 8⟩, ⟨[97,98,99,100,103,104], [], 8, 8⟩, ⟨[97,98,99,100,103,104], [1], 8, 8⟩, ⟨[97,98,99,100,101,102], [], 8, 8⟩, ⟨[97,98,99,100,101,102], [], 8, 8⟩, ⟨[97,98,99,100], [0], 8, 8⟩, ⟨[], [0], 8, 9⟩, ⟨[], [], 9, 9⟩, ⟨[], [1], 9, 9⟩] ⟨by kernel_rfl, by kernel_rfl, rfl⟩ ?_
          refine vck hF id (fun _ hF => ?_)
          refine vw64 ?_
          refine vck hF id (fun _ hF => ?_)
          refine vck hF id (fun _ hF => ?_)
          exact ⟨(0, (a0.Disks.take y1.toNat ++ a0.Disks.drop ((w64 (y1 + 1)).toNat))), entG [0, 1, 3, 4, 7, 8, 6] ⟨mp rfl, mp rfl, mp rfl, mp rfl, tv⟩ ⟨⟨rfl, tv⟩, ⟨rfl, ⟨rfl, lr, lr, lr, rfl, lr, lr, tv⟩⟩, ⟨rfl, ⟨rfl, lr, lr, lr, tv, tv, tv, tv⟩⟩, ⟨rfl, ⟨rfl, lr, lr, lr, lr, lr, lr, rfl, tv⟩⟩, ⟨rfl, o_box rfl⟩, ⟨rfl, o_rowE (by simp <;> omega) (EqG.app (by simp <;> omega) (by simp <;> omega) (EqG.take _) (EqG.drop _))⟩, ⟨rfl, o_row⟩, tv⟩ rfl, hF⟩
def i_mapDo (a0 : MapState) (a1 : Cmd) : Option (MapState) :=
 (i_mapCopy a0).bind (fun y1 => (i_cmdOk a1).bind (fun y2 => cond (!y2) ((i_mapCopy ({ Slots := (w64 (y1.Slots + 1)), Servers := y1.Servers, Next := y1.Next, Disks := y1.Disks, Views := y1.Views, Done := y1.Done } : MapState)).bind (fun y3 => some y3)) (cond (decide (a1.Kind = 0)) ((i_mapCopy ({ Slots := (w64 (y1.Slots + 1)), Servers := y1.Servers, Next := y1.Next, Disks := y1.Disks, Views := y1.Views, Done := y1.Done } : MapState)).bind (fun y4 => some y4)) (cond (decide (a1.Kind = 5)) ((i_doView ({ Slots := (w64 (y1.Slots + 1)), Servers := y1.Servers, Next := y1.Next, Disks := y1.Disks, Views := y1.Views, Done := y1.Done } : MapState) a1).bind (fun y5 => (i_mapCopy y5).bind (fun y6 => some y6))) (cond (decide (a1.Kind = 6)) ((i_doAck ({ Slots := (w64 (y1.Slots + 1)), Servers := y1.Servers, Next := y1.Next, Disks := y1.Disks, Views := y1.Views, Done := y1.Done } : MapState) a1).bind (fun y7 => (i_mapCopy y7).bind (fun y8 => some y8))) ((i_doCall ({ Slots := (w64 (y1.Slots + 1)), Servers := y1.Servers, Next := y1.Next, Disks := y1.Disks, Views := y1.Views, Done := y1.Done } : MapState) a1).bind (fun y9 => (i_mapCopy y9).bind (fun y10 => some y10))))))))
theorem i_mapDo_c {t0_3 t0_4 t0_5 : Bool} {a0 : MapState} {a1 : Cmd} {r : MapState} (hF : i_mapDo a0 a1 = some r) : Con Tryz.prog 49 [.val true [.u (cI a0.Slots), .u (cI a0.Servers), .u (cI a0.Next), .u (ul MapDisk.c 7 t0_3 a0.Disks), .u (ul MapView.c 3 t0_4 a0.Views), .u (ul MapDone.c 4 t0_5 a0.Done)], .val true (Cmd.L a1)] [] (.val true [.u (cI r.Slots), .u (cI r.Servers), .u (cI r.Next), .row 0, .row 1, .row 2]) [.row 113 r.Disks.length 7 (gl MapDisk.c r.Disks), .row 116 r.Views.length 3 (gl MapView.c r.Views), .row 207 r.Done.length 4 (gl MapDone.c r.Done)] := by
 refine Con.of_Dz tabOk Tryz.func49 rfl rfl rfl ?_
 delta i_mapDo at hF
 refine Dz.seq (Dz.reg (Dz.seq (Dz.reg ?_)))
 refine bdE hF (fun y1 hy1 hF => ?_)
 refine callG [] (i_mapCopy_x hy1) ⟨mv rfl, tv⟩ tv rfl ?_
 refine Dz.seq (Dz.reg (vw64 (Dz.seq (Dz.blk (Dz.seq (Dz.reg ?_))))))
 refine bdE hF (fun y2 hy2 hF => ?_)
 refine callG [] (i_cmdOk_c hy2) ⟨mv rfl, tv⟩ tv rfl ?_
 refine vif hF (fun _ hF => ?_) (fun _ hF => ?_)
 ·refine Dz.tt (b := true) rfl rfl ?_
  refine Dz.skip (Dz.seq ?_)
  refine Dz.row 3 y1.Disks.length (gl MapDisk.c y1.Disks) rfl rfl EqG.cx ?_
  refine Dz.reg ?_
  refine bdE hF (fun y3 hy3 hF => ?_)
  refine callL [] (i_mapCopy_c hy3) ⟨⟨rfl, lr, lr, lr, ⟨rfl, rfl, lr⟩, ⟨rfl, rfl, lr⟩, ⟨rfl, rfl, lr⟩, tv⟩, tv⟩ tv rfl ⟨⟨tv, tv, tv, tv, tv, tv, tv⟩, ⟨ntm_gl, ntm_gl, ntm_gl, tv⟩⟩ ?_
  refine Dz.ret ?_
  cases hF
  exact finG [] [7, 8, 9] rfl rfl (⟨rfl, lr, lr, lr, rfl, rfl, rfl, tv⟩) ⟨⟨rfl, o_row⟩, ⟨rfl, o_row⟩, ⟨rfl, o_row⟩, tv⟩ rfl
 ·refine Dz.ite rfl hF (fun _ hF => ?_) (fun _ hF => ?_)
  ·refine Dz.skip (Dz.seq ?_)
   refine Dz.row 3 y1.Disks.length (gl MapDisk.c y1.Disks) rfl rfl EqG.cx ?_
   refine Dz.reg ?_
   refine bdE hF (fun y4 hy4 hF => ?_)
   refine callL [] (i_mapCopy_c hy4) ⟨⟨rfl, lr, lr, lr, ⟨rfl, rfl, lr⟩, ⟨rfl, rfl, lr⟩, ⟨rfl, rfl, lr⟩, tv⟩, tv⟩ tv rfl ⟨⟨tv, tv, tv, tv, tv, tv, tv⟩, ⟨ntm_gl, ntm_gl, ntm_gl, tv⟩⟩ ?_
   refine Dz.ret ?_
   cases hF
   exact finG [] [7, 8, 9] rfl rfl (⟨rfl, lr, lr, lr, rfl, rfl, rfl, tv⟩) ⟨⟨rfl, o_row⟩, ⟨rfl, o_row⟩, ⟨rfl, o_row⟩, tv⟩ rfl
  ·refine Dz.seq (Dz.reg ?_)
   refine Dz.ite rfl hF (fun _ hF => ?_) (fun _ hF => ?_)
   ·refine Dz.row 3 y1.Disks.length (gl MapDisk.c y1.Disks) rfl rfl EqG.cx ?_
    refine Dz.reg ?_
    refine bdE hF (fun y5 hy5 hF => ?_)
    refine callF [3, 5] [4] (i_doView_c hy5) ⟨⟨rfl, lr, lr, lr, lr, rfl, lr, tv⟩, mv rfl, tv⟩ ⟨⟨rfl, o_row⟩, tv⟩ rfl ?_
    refine Dz.seq (Dz.reg ?_)
    refine bdE hF (fun y6 hy6 hF => ?_)
    refine callL [] (i_mapCopy_c hy6) ⟨⟨rfl, lr, lr, lr, lr, ⟨rfl, rfl, lr⟩, lr, tv⟩, tv⟩ tv rfl ⟨⟨tv, tv, tv, tv, tv, tv, tv⟩, ⟨ntm_gl, ntm_gl, ntm_gl, tv⟩⟩ ?_
    refine Dz.ret ?_
    cases hF
    exact finG [] [7, 8, 9] rfl rfl (⟨rfl, lr, lr, lr, rfl, rfl, rfl, tv⟩) ⟨⟨rfl, o_row⟩, ⟨rfl, o_row⟩, ⟨rfl, o_row⟩, tv⟩ rfl
   ·refine Dz.seq (Dz.reg ?_)
    refine Dz.ite rfl hF (fun _ hF => ?_) (fun _ hF => ?_)
    ·refine Dz.reg ?_
     refine bdE hF (fun y7 hy7 hF => ?_)
     refine callF [4, 5] [3] (i_doAck_x hy7) ⟨⟨rfl, lr, lr, lr, rfl, lr, lr, tv⟩, mv rfl, tv⟩ ⟨⟨rfl, o_row⟩, tv⟩ rfl ?_
     refine Dz.seq (Dz.reg ?_)
     refine bdE hF (fun y8 hy8 hF => ?_)
     refine callG [] (i_mapCopy_c hy8) ⟨mv rfl, tv⟩ tv rfl ?_
     refine Dz.ret ?_
     cases hF
     exact finG [] [7, 8, 9] rfl rfl (⟨rfl, lr, lr, lr, rfl, rfl, rfl, tv⟩) ⟨⟨rfl, o_row⟩, ⟨rfl, o_row⟩, ⟨rfl, o_row⟩, tv⟩ rfl
    ·refine Dz.row 3 y1.Disks.length (gl MapDisk.c y1.Disks) rfl rfl EqG.cx ?_
     refine Dz.reg ?_
     refine bdE hF (fun y9 hy9 hF => ?_)
     refine callF [4, 5] [3] (i_doCall_c hy9) ⟨⟨rfl, lr, lr, lr, rfl, lr, lr, tv⟩, mv rfl, tv⟩ ⟨⟨rfl, o_row⟩, tv⟩ rfl ?_
     refine Dz.seq (Dz.reg ?_)
     refine bdE hF (fun y10 hy10 hF => ?_)
     refine callG [] (i_mapCopy_c hy10) ⟨mv rfl, tv⟩ tv rfl ?_
     refine Dz.ret ?_
     cases hF
     exact finG [] [7, 8, 9] rfl rfl (⟨rfl, lr, lr, lr, rfl, rfl, rfl, tv⟩) ⟨⟨rfl, o_row⟩, ⟨rfl, o_row⟩, ⟨rfl, o_row⟩, tv⟩ rfl
def i_MapOf (a0 : (List Cmd)) : Option (MapState) :=
 cond (decide ((60 : Int) < ((a0.length : Nat) : Int))) (some ({ Slots := 0, Servers := 0, Next := 0, Disks := ([] : List MapDisk), Views := ([] : List MapView), Done := ([] : List MapDone) } : MapState)) ((i_MapStart).bind (fun y2 => loopN (fun i4 (v11 : MapState) κ12 => lt (a0.getD i4 default) (fun x13 => (i_mapDo v11 x13).bind (fun y14 => κ12 y14))) (fun (v11 : MapState) => some v11) a0.length 0 y2))
theorem i_MapOf_c {t0_0 : Bool} {a0 : (List Cmd)} {r : MapState} (hF : i_MapOf a0 = some r) : Con Tryz.prog 24 [.val false [.u (ul Cmd.c 10 t0_0 a0)]] [] (.val true [.u (cI r.Slots), .u (cI r.Servers), .u (cI r.Next), .row 0, .row 1, .row 2]) [.row 113 r.Disks.length 7 (gl MapDisk.c r.Disks), .row 116 r.Views.length 3 (gl MapView.c r.Views), .row 207 r.Done.length 4 (gl MapDone.c r.Done)] := by
 refine Con.of_Dz tabOk Tryz.func24 rfl rfl rfl ?_
 delta i_MapOf at hF
 refine Dz.seq (Dz.reg (Dz.seq (Dz.seq (Dz.reg ?_))))
 intro hb1; replace hb1 : a0.length ≤ 140737488355328 := hb1
 refine Dz.ite rfl hF (fun _ hF => ?_) (fun _ hF => ?_)
 ·refine Dz.seq (Dz.reg (Dz.ret ?_))
  cases hF
  exact finG [.leaf 0 3 113 7, .leaf 0 4 116 3, .leaf 0 5 207 4] [1, 2, 3] rfl rfl (⟨rfl, lr, lr, lr, rfl, rfl, rfl, tv⟩) ⟨⟨rfl, o_rowE (by simp <;> omega) EqG.nilr⟩, ⟨rfl, o_rowE (by simp <;> omega) EqG.nilr⟩, ⟨rfl, o_rowE (by simp <;> omega) EqG.nilr⟩, tv⟩ rfl
 ·refine Dz.skip (Dz.seq (Dz.reg ?_))
  refine bdE hF (fun y2 hy2 hF => ?_)
  refine callG [] (i_MapStart_c hy2) tv tv rfl ?_
  refine Dz.seq (Dz.seq (Dz.reg ?_))
  intro hb3; replace hb3 : a0.length ≤ 140737488355328 := hb3
  refine Dz.blk ?_
  refine Dz.cnt hF (fun i4 v11 => ([(2, .ptr 0 0), (3, .ptr 1 0), (11, .val false [.u (ul Cmd.c 10 t0_0 a0)]), (12, vint .i64 ((a0.length : Nat) : Int)), (13, vint .i64 ((i4 : Nat) : Int))], [.box 46 [.u (cI 0), .u (cI 0), .u (cI 0), .nil, .nil, .nil], .box 46 [.u (cI v11.Slots), .u (cI v11.Servers), .u (cI v11.Next), .row 2, .row 3, .row 4], .row 113 v11.Disks.length 7 (gl MapDisk.c v11.Disks), .row 116 v11.Views.length 3 (gl MapView.c v11.Views), .row 207 v11.Done.length 4 (gl MapDone.c v11.Done)])) (entG [0, 4, 1, 2, 3] ⟨mp rfl, mp rfl, mv rfl, mv rfl, mv rfl, tv⟩ ⟨⟨rfl, ⟨rfl, lr, lr, lr, tv, tv, tv, tv⟩⟩, ⟨rfl, ⟨rfl, lr, lr, lr, rfl, rfl, rfl, tv⟩⟩, ⟨rfl, o_row⟩, ⟨rfl, o_row⟩, ⟨rfl, o_row⟩, tv⟩ rfl) (fun v11 hF => ?_) (fun i4 v11 κ12 hi0i4 hi1i4 hF => ?_)
  ·refine Dz.seq (Dz.reg (Dz.seq ?_))
   refine Dz.ff (b := decide (((0 + a0.length : Nat) : Int) < ((a0.length : Nat) : Int))) rfl (decide_eq_false (by omega)) ?_
   refine Dz.exit (Dz.seq (Dz.reg (Dz.ret ?_)))
   cases hF
   exact finG [] [2, 3, 4] rfl rfl (⟨rfl, lr, lr, lr, rfl, rfl, rfl, tv⟩) ⟨⟨rfl, o_row⟩, ⟨rfl, o_row⟩, ⟨rfl, o_row⟩, tv⟩ rfl
  ·refine Dz.seq (Dz.reg (Dz.seq ?_))
   refine Dz.tt (b := decide (((i4 : Nat) : Int) < ((a0.length : Nat) : Int))) rfl (decide_eq_true (by omega)) ?_
   refine Dz.skip (Dz.seq (Dz.blk (Dz.seq (Dz.reg ?_))))
   refine vge (n := ((i4 : Nat) : Int)) (hi := (a0.length : Int)) (by omega) (by omega) ?_
   have hF := ltE hF
   refine Dz.reg ?_
   refine bdE hF (fun y14 hy14 hF => ?_)
   refine callL [] (i_mapDo_c hy14) ⟨⟨rfl, lr, lr, lr, ⟨rfl, rfl, lr⟩, ⟨rfl, rfl, lr⟩, ⟨rfl, rfl, lr⟩, tv⟩, mv rfl, tv⟩ tv rfl ⟨⟨tv, tv, tv, tv, tv, tv, tv⟩, ⟨ntm_gl, ntm_gl, ntm_gl, tv⟩⟩ ?_
   refine Dz.reg ?_
   refine vsucc (by omega) ?_
   exact ⟨y14, entG [0, 1, 6, 7, 8] ⟨mp rfl, mp rfl, mv rfl, mv rfl, mv rfl, tv⟩ ⟨⟨rfl, ⟨rfl, lr, lr, lr, tv, tv, tv, tv⟩⟩, ⟨rfl, ⟨rfl, lr, lr, lr, rfl, rfl, rfl, tv⟩⟩, ⟨rfl, o_row⟩, ⟨rfl, o_row⟩, ⟨rfl, o_row⟩, tv⟩ rfl, hF⟩
def i_longest (a0 : PanWorld) : Option ((List Cmd)) :=
 ix a0.Servers 0 (fun x1 => loopN (fun i3 (v12 : List Cmd) κ13 => lt (a0.Servers.getD i3 default) (fun x14 => cond (decide (((v12.length : Nat) : Int) < ((x14.Log.length : Nat) : Int))) (κ13 x14.Log) (κ13 v12))) (fun (v12 : List Cmd) => some v12) a0.Servers.length 0 x1.Log)
theorem i_longest_c {t0_1 t0_2 t0_3 : Bool} {a0 : PanWorld} {r : (List Cmd)} (hF : i_longest a0 = some r) : Con Tryz.prog 25 [.val true [.u (cI a0.Time), .u (ul Server.c 36 t0_1 a0.Servers), .u (ul Word.c 26 t0_2 a0.Radio), .u (ul PanCall.c 12 t0_3 a0.Calls)]] [] (.val false [.u (ul Cmd.c 10 false r)]) [] := by
 refine Con.of_Dz tabOk Tryz.func25 rfl rfl rfl ?_
 delta i_longest at hF
 refine Dz.seq (Dz.reg (Dz.seq (Dz.reg ?_)))
 refine vix hF (fun _ _ hF => ?_)
 refine Dz.seq (Dz.seq (Dz.reg ?_))
 intro hb2; replace hb2 : a0.Servers.length ≤ 140737488355328 := hb2
 refine Dz.blk ?_
 refine Dz.cnt hF (fun i3 v12 => ([(3, .val false [.u (ul Cmd.c 10 false v12)]), (12, .val false [.u (ul Server.c 36 t0_1 a0.Servers)]), (13, vint .i64 ((a0.Servers.length : Nat) : Int)), (14, vint .i64 ((i3 : Nat) : Int))], [])) (entG [] ⟨mv rfl, mv rfl, mv rfl, mv rfl, tv⟩ tv rfl) (fun v12 hF => ?_) (fun i3 v12 κ13 hi0i3 hi1i3 hF => ?_)
 ·refine Dz.seq (Dz.reg (Dz.seq ?_))
  refine Dz.ff (b := decide (((0 + a0.Servers.length : Nat) : Int) < ((a0.Servers.length : Nat) : Int))) rfl (decide_eq_false (by omega)) ?_
  refine Dz.exit (Dz.seq (Dz.reg (Dz.ret ?_)))
  cases hF
  exact finG [] [] rfl rfl (mv rfl) tv rfl
 ·refine Dz.seq (Dz.reg (Dz.seq ?_))
  refine Dz.tt (b := decide (((i3 : Nat) : Int) < ((a0.Servers.length : Nat) : Int))) rfl (decide_eq_true (by omega)) ?_
  refine Dz.skip (Dz.seq (Dz.blk (Dz.seq (Dz.reg ?_))))
  refine vge (n := ((i3 : Nat) : Int)) (hi := (a0.Servers.length : Int)) (by omega) (by omega) ?_
  have hF := ltE hF
  refine Dz.seq (Dz.reg ?_)
  intro hb15; replace hb15 : (a0.Servers.getD i3 default).Log.length ≤ 140737488355328 := hb15
  intro hb16; replace hb16 : v12.length ≤ 140737488355328 := hb16
  refine Dz.ite rfl hF (fun _ hF => ?_) (fun _ hF => ?_)
  ·refine Dz.reg (Dz.reg ?_)
   refine vsucc (by omega) ?_
   exact ⟨((a0.Servers.getD i3 default).Log), entG [] ⟨mv rfl, mv rfl, mv rfl, mv rfl, tv⟩ tv rfl, hF⟩
  ·refine Dz.skip (Dz.reg ?_)
   refine vsucc (by omega) ?_
   exact ⟨v12, entG [] ⟨mv rfl, mv rfl, mv rfl, mv rfl, tv⟩ tv rfl, hF⟩
def i_boardServer (a0 : Server) : Option (ByteArray) :=
 jn (fun (v2 : ByteArray) => (g_itoa a0.Id).bind (fun y3 => ck ((⟨#[115, 101, 114, 118, 101, 114, 32]⟩ : ByteArray).size + y3.size ≤ 9223372036854775807) (ck (((⟨#[115, 101, 114, 118, 101, 114, 32]⟩ : ByteArray) ++ y3).size + (⟨#[32]⟩ : ByteArray).size ≤ 9223372036854775807) (ck ((((⟨#[115, 101, 114, 118, 101, 114, 32]⟩ : ByteArray) ++ y3) ++ (⟨#[32]⟩ : ByteArray)).size + v2.size ≤ 9223372036854775807) (ck (((((⟨#[115, 101, 114, 118, 101, 114, 32]⟩ : ByteArray) ++ y3) ++ (⟨#[32]⟩ : ByteArray)) ++ v2).size + (⟨#[44, 32, 108, 111, 103, 32]⟩ : ByteArray).size ≤ 9223372036854775807) ((g_itoa ((a0.Log.length : Nat) : Int)).bind (fun y4 => ck ((((((⟨#[115, 101, 114, 118, 101, 114, 32]⟩ : ByteArray) ++ y3) ++ (⟨#[32]⟩ : ByteArray)) ++ v2) ++ (⟨#[44, 32, 108, 111, 103, 32]⟩ : ByteArray)).size + y4.size ≤ 9223372036854775807) (ck (((((((⟨#[115, 101, 114, 118, 101, 114, 32]⟩ : ByteArray) ++ y3) ++ (⟨#[32]⟩ : ByteArray)) ++ v2) ++ (⟨#[44, 32, 108, 111, 103, 32]⟩ : ByteArray)) ++ y4).size + (⟨#[44, 32, 119, 97, 110, 116, 115, 32]⟩ : ByteArray).size ≤ 9223372036854775807) ((g_itoa ((a0.Wants.length : Nat) : Int)).bind (fun y5 => ck ((((((((⟨#[115, 101, 114, 118, 101, 114, 32]⟩ : ByteArray) ++ y3) ++ (⟨#[32]⟩ : ByteArray)) ++ v2) ++ (⟨#[44, 32, 108, 111, 103, 32]⟩ : ByteArray)) ++ y4) ++ (⟨#[44, 32, 119, 97, 110, 116, 115, 32]⟩ : ByteArray)).size + y5.size ≤ 9223372036854775807) (ck (((((((((⟨#[115, 101, 114, 118, 101, 114, 32]⟩ : ByteArray) ++ y3) ++ (⟨#[32]⟩ : ByteArray)) ++ v2) ++ (⟨#[44, 32, 108, 111, 103, 32]⟩ : ByteArray)) ++ y4) ++ (⟨#[44, 32, 119, 97, 110, 116, 115, 32]⟩ : ByteArray)) ++ y5).size + (⟨#[44, 32]⟩ : ByteArray).size ≤ 9223372036854775807) ((g_itoa ((a0.Doing.length : Nat) : Int)).bind (fun y6 => ck ((((((((((⟨#[115, 101, 114, 118, 101, 114, 32]⟩ : ByteArray) ++ y3) ++ (⟨#[32]⟩ : ByteArray)) ++ v2) ++ (⟨#[44, 32, 108, 111, 103, 32]⟩ : ByteArray)) ++ y4) ++ (⟨#[44, 32, 119, 97, 110, 116, 115, 32]⟩ : ByteArray)) ++ y5) ++ (⟨#[44, 32]⟩ : ByteArray)).size + y6.size ≤ 9223372036854775807) (ck (((((((((((⟨#[115, 101, 114, 118, 101, 114, 32]⟩ : ByteArray) ++ y3) ++ (⟨#[32]⟩ : ByteArray)) ++ v2) ++ (⟨#[44, 32, 108, 111, 103, 32]⟩ : ByteArray)) ++ y4) ++ (⟨#[44, 32, 119, 97, 110, 116, 115, 32]⟩ : ByteArray)) ++ y5) ++ (⟨#[44, 32]⟩ : ByteArray)) ++ y6).size + (⟨#[32, 119, 97, 105, 116, 105, 110, 103, 10]⟩ : ByteArray).size ≤ 9223372036854775807) (ck (ByteArray.empty.size + (((((((((((⟨#[115, 101, 114, 118, 101, 114, 32]⟩ : ByteArray) ++ y3) ++ (⟨#[32]⟩ : ByteArray)) ++ v2) ++ (⟨#[44, 32, 108, 111, 103, 32]⟩ : ByteArray)) ++ y4) ++ (⟨#[44, 32, 119, 97, 110, 116, 115, 32]⟩ : ByteArray)) ++ y5) ++ (⟨#[44, 32]⟩ : ByteArray)) ++ y6) ++ (⟨#[32, 119, 97, 105, 116, 105, 110, 103, 10]⟩ : ByteArray)).size ≤ 140737488355328) (loopN (fun i9 (v74 : ByteArray) κ75 => lt (a0.Copies.getD i9 default) (fun x76 => (g_itoa x76.Range).bind (fun y77 => ck ((⟨#[32, 32, 114, 97, 110, 103, 101, 32]⟩ : ByteArray).size + y77.size ≤ 9223372036854775807) (ck (((⟨#[32, 32, 114, 97, 110, 103, 101, 32]⟩ : ByteArray) ++ y77).size + (⟨#[32, 119, 104, 111, 108, 101, 32]⟩ : ByteArray).size ≤ 9223372036854775807) ((g_itoa x76.Valid).bind (fun y78 => ck ((((⟨#[32, 32, 114, 97, 110, 103, 101, 32]⟩ : ByteArray) ++ y77) ++ (⟨#[32, 119, 104, 111, 108, 101, 32]⟩ : ByteArray)).size + y78.size ≤ 9223372036854775807) (ck (((((⟨#[32, 32, 114, 97, 110, 103, 101, 32]⟩ : ByteArray) ++ y77) ++ (⟨#[32, 119, 104, 111, 108, 101, 32]⟩ : ByteArray)) ++ y78).size + (⟨#[44, 32, 97, 115, 107, 101, 100, 32]⟩ : ByteArray).size ≤ 9223372036854775807) ((g_itoa x76.Asked).bind (fun y79 => ck ((((((⟨#[32, 32, 114, 97, 110, 103, 101, 32]⟩ : ByteArray) ++ y77) ++ (⟨#[32, 119, 104, 111, 108, 101, 32]⟩ : ByteArray)) ++ y78) ++ (⟨#[44, 32, 97, 115, 107, 101, 100, 32]⟩ : ByteArray)).size + y79.size ≤ 9223372036854775807) (ck (((((((⟨#[32, 32, 114, 97, 110, 103, 101, 32]⟩ : ByteArray) ++ y77) ++ (⟨#[32, 119, 104, 111, 108, 101, 32]⟩ : ByteArray)) ++ y78) ++ (⟨#[44, 32, 97, 115, 107, 101, 100, 32]⟩ : ByteArray)) ++ y79).size + (⟨#[44, 32]⟩ : ByteArray).size ≤ 9223372036854775807) ((g_itoa ((x76.Busy.length : Nat) : Int)).bind (fun y80 => ck ((((((((⟨#[32, 32, 114, 97, 110, 103, 101, 32]⟩ : ByteArray) ++ y77) ++ (⟨#[32, 119, 104, 111, 108, 101, 32]⟩ : ByteArray)) ++ y78) ++ (⟨#[44, 32, 97, 115, 107, 101, 100, 32]⟩ : ByteArray)) ++ y79) ++ (⟨#[44, 32]⟩ : ByteArray)).size + y80.size ≤ 9223372036854775807) (ck (((((((((⟨#[32, 32, 114, 97, 110, 103, 101, 32]⟩ : ByteArray) ++ y77) ++ (⟨#[32, 119, 104, 111, 108, 101, 32]⟩ : ByteArray)) ++ y78) ++ (⟨#[44, 32, 97, 115, 107, 101, 100, 32]⟩ : ByteArray)) ++ y79) ++ (⟨#[44, 32]⟩ : ByteArray)) ++ y80).size + (⟨#[32, 98, 117, 115, 121, 58]⟩ : ByteArray).size ≤ 9223372036854775807) (ck (v74.size + (((((((((⟨#[32, 32, 114, 97, 110, 103, 101, 32]⟩ : ByteArray) ++ y77) ++ (⟨#[32, 119, 104, 111, 108, 101, 32]⟩ : ByteArray)) ++ y78) ++ (⟨#[44, 32, 97, 115, 107, 101, 100, 32]⟩ : ByteArray)) ++ y79) ++ (⟨#[44, 32]⟩ : ByteArray)) ++ y80) ++ (⟨#[32, 98, 117, 115, 121, 58]⟩ : ByteArray)).size ≤ 140737488355328) (loopN (fun i83 (v98 : ByteArray) κ99 => lt (x76.Pieces.getD i83 default) (fun x100 => (g_itoa x100.Disk).bind (fun y101 => ck ((⟨#[32]⟩ : ByteArray).size + y101.size ≤ 9223372036854775807) (ck (((⟨#[32]⟩ : ByteArray) ++ y101).size + (⟨#[46]⟩ : ByteArray).size ≤ 9223372036854775807) ((g_itoa x100.Block).bind (fun y102 => ck ((((⟨#[32]⟩ : ByteArray) ++ y101) ++ (⟨#[46]⟩ : ByteArray)).size + y102.size ≤ 9223372036854775807) (ck (((((⟨#[32]⟩ : ByteArray) ++ y101) ++ (⟨#[46]⟩ : ByteArray)) ++ y102).size + (⟨#[46]⟩ : ByteArray).size ≤ 9223372036854775807) ((g_itoa x100.Epoch).bind (fun y103 => ck ((((((⟨#[32]⟩ : ByteArray) ++ y101) ++ (⟨#[46]⟩ : ByteArray)) ++ y102) ++ (⟨#[46]⟩ : ByteArray)).size + y103.size ≤ 9223372036854775807) (ck (((((((⟨#[32]⟩ : ByteArray) ++ y101) ++ (⟨#[46]⟩ : ByteArray)) ++ y102) ++ (⟨#[46]⟩ : ByteArray)) ++ y103).size + (⟨#[61]⟩ : ByteArray).size ≤ 9223372036854775807) ((g_itoa x100.Data).bind (fun y104 => ck ((((((((⟨#[32]⟩ : ByteArray) ++ y101) ++ (⟨#[46]⟩ : ByteArray)) ++ y102) ++ (⟨#[46]⟩ : ByteArray)) ++ y103) ++ (⟨#[61]⟩ : ByteArray)).size + y104.size ≤ 9223372036854775807) (ck (v98.size + ((((((((⟨#[32]⟩ : ByteArray) ++ y101) ++ (⟨#[46]⟩ : ByteArray)) ++ y102) ++ (⟨#[46]⟩ : ByteArray)) ++ y103) ++ (⟨#[61]⟩ : ByteArray)) ++ y104).size ≤ 140737488355328) (κ99 (v98 ++ ((((((((⟨#[32]⟩ : ByteArray) ++ y101) ++ (⟨#[46]⟩ : ByteArray)) ++ y102) ++ (⟨#[46]⟩ : ByteArray)) ++ y103) ++ (⟨#[61]⟩ : ByteArray)) ++ y104)))))))))))))))) (fun (v98 : ByteArray) => ck (v98.size + (⟨#[10]⟩ : ByteArray).size ≤ 140737488355328) (κ75 (v98 ++ (⟨#[10]⟩ : ByteArray)))) x76.Pieces.length 0 (v74 ++ (((((((((⟨#[32, 32, 114, 97, 110, 103, 101, 32]⟩ : ByteArray) ++ y77) ++ (⟨#[32, 119, 104, 111, 108, 101, 32]⟩ : ByteArray)) ++ y78) ++ (⟨#[44, 32, 97, 115, 107, 101, 100, 32]⟩ : ByteArray)) ++ y79) ++ (⟨#[44, 32]⟩ : ByteArray)) ++ y80) ++ (⟨#[32, 98, 117, 115, 121, 58]⟩ : ByteArray)))))))))))))))))) (fun (v74 : ByteArray) => some v74) a0.Copies.length 0 (ByteArray.empty ++ (((((((((((⟨#[115, 101, 114, 118, 101, 114, 32]⟩ : ByteArray) ++ y3) ++ (⟨#[32]⟩ : ByteArray)) ++ v2) ++ (⟨#[44, 32, 108, 111, 103, 32]⟩ : ByteArray)) ++ y4) ++ (⟨#[44, 32, 119, 97, 110, 116, 115, 32]⟩ : ByteArray)) ++ y5) ++ (⟨#[44, 32]⟩ : ByteArray)) ++ y6) ++ (⟨#[32, 119, 97, 105, 116, 105, 110, 103, 10]⟩ : ByteArray))))))))))))))))))) (fun j107 => cond a0.Up (j107 (⟨#[117, 112]⟩ : ByteArray)) (cond a0.Gone (j107 (⟨#[103, 111, 110, 101]⟩ : ByteArray)) (j107 (⟨#[100, 111, 119, 110]⟩ : ByteArray))))
theorem i_boardServer_c {t0_33 t0_34 t0_35 t0_5 t0_6 t0_7 : Bool} {a0 : Server} {r : ByteArray} (hF : i_boardServer a0 = some r) : Con Tryz.prog 26 [.val true (.u (cI a0.Id) :: .u (.bool a0.Up) :: .u (.bool a0.Gone) :: .u (cI a0.Round) :: .u (cI a0.Voter.Promised) :: .u (ul SynPaper.c 12 t0_5 a0.Voter.Papers) :: .u (ul Cmd.c 10 t0_6 a0.Log) :: .u (ul SrvCopy.c 6 t0_7 a0.Copies) :: .u (cI a0.Seek.Slot) :: .u (cI a0.Seek.Ballot) :: .u (cI a0.Seek.Phase) :: .u (cI a0.Seek.Mine.Kind) :: .u (cI a0.Seek.Mine.Client) :: .u (cI a0.Seek.Mine.Call) :: .u (cI a0.Seek.Mine.Disk) :: .u (cI a0.Seek.Mine.Arg) :: .u (cI a0.Seek.Mine.Epoch) :: .u (cI a0.Seek.Mine.Range) :: .u (cI a0.Seek.Mine.Num) :: .u (cI a0.Seek.Mine.A) :: .u (cI a0.Seek.Mine.B) :: .u (cI a0.Seek.Best.Slot) :: .u (cI a0.Seek.Best.Ballot) :: .u (cI a0.Seek.Best.Cmd.Kind) :: .u (cI a0.Seek.Best.Cmd.Client) :: .u (cI a0.Seek.Best.Cmd.Call) :: .u (cI a0.Seek.Best.Cmd.Disk) :: .u (cI a0.Seek.Best.Cmd.Arg) :: .u (cI a0.Seek.Best.Cmd.Epoch) :: .u (cI a0.Seek.Best.Cmd.Range) :: .u (cI a0.Seek.Best.Cmd.Num) :: .u (cI a0.Seek.Best.Cmd.A) :: .u (cI a0.Seek.Best.Cmd.B) :: .u (ul cInt 1 t0_33 a0.Seek.Yes) :: .u (ul Cmd.c 10 t0_34 a0.Wants) :: .u (ul SrvDoing.c 8 t0_35 a0.Doing) :: [])] [] (vstr r) [] := by
 refine Con.of_Dz tabOk Tryz.func26 rfl rfl rfl ?_
 delta i_boardServer at hF
 refine Dz.seq (Dz.reg (Dz.seq (Dz.reg ?_)))
 refine ⟨rfl, ?_⟩
 refine Dz.seq (Dz.reg ?_)
 refine Dz.jn hF (fun v2 => ([(1, .ptr 0 0), (3, .ptr 1 0), (4, vstr v2)], [.box 63 (.u (cI a0.Id) :: .u (.bool a0.Up) :: .u (.bool a0.Gone) :: .u (cI a0.Round) :: .u (cI a0.Voter.Promised) :: .u (ul SynPaper.c 12 t0_5 a0.Voter.Papers) :: .u (ul Cmd.c 10 t0_6 a0.Log) :: .u (ul SrvCopy.c 6 t0_7 a0.Copies) :: .u (cI a0.Seek.Slot) :: .u (cI a0.Seek.Ballot) :: .u (cI a0.Seek.Phase) :: .u (cI a0.Seek.Mine.Kind) :: .u (cI a0.Seek.Mine.Client) :: .u (cI a0.Seek.Mine.Call) :: .u (cI a0.Seek.Mine.Disk) :: .u (cI a0.Seek.Mine.Arg) :: .u (cI a0.Seek.Mine.Epoch) :: .u (cI a0.Seek.Mine.Range) :: .u (cI a0.Seek.Mine.Num) :: .u (cI a0.Seek.Mine.A) :: .u (cI a0.Seek.Mine.B) :: .u (cI a0.Seek.Best.Slot) :: .u (cI a0.Seek.Best.Ballot) :: .u (cI a0.Seek.Best.Cmd.Kind) :: .u (cI a0.Seek.Best.Cmd.Client) :: .u (cI a0.Seek.Best.Cmd.Call) :: .u (cI a0.Seek.Best.Cmd.Disk) :: .u (cI a0.Seek.Best.Cmd.Arg) :: .u (cI a0.Seek.Best.Cmd.Epoch) :: .u (cI a0.Seek.Best.Cmd.Range) :: .u (cI a0.Seek.Best.Cmd.Num) :: .u (cI a0.Seek.Best.Cmd.A) :: .u (cI a0.Seek.Best.Cmd.B) :: .u (ul cInt 1 t0_33 a0.Seek.Yes) :: .u (ul Cmd.c 10 t0_34 a0.Wants) :: .u (ul SrvDoing.c 8 t0_35 a0.Doing) :: []), .abs (bldQ 74 5 ByteArray.empty)])) (fun v2 hF => ?_) (fun hF => ?_)
 ·refine Dz.seq ?_
  refine Dz.drw 2 [⟨[18,21,22,23,27,28,29,33,34,35], [], 2, 2⟩, ⟨[18,21,22,23,27,28,29,33,34,35], [0], 2, 2⟩, ⟨[18,21,22,23,27,28,29,33,34,35], [], 2, 2⟩, ⟨[18,21,22,23,24,27,28,29,30,33,34,35,36], [], 2, 2⟩, ⟨[18,21,22,23,24,27,28,29,30,33,34,35,36], [], 2, 2⟩, ⟨[13,14,15,16,17,21,22,23,24,27,28,29,30,33,34,35,36], [], 2, 2⟩, ⟨[21,22,23,24,27,28,29,30,33,34,35,36], [], 2, 2⟩, ⟨[21,22,23,24,27,28,29,30,33,34,35,36], [], 2, 2⟩, ⟨[13,14,15,16,17,18,19,20,27,28,29,33,34,35], [], 2, 2⟩, ⟨[13,14,15,16,17,18,19,20,27,28,29,33,34,35], [0], 2, 2⟩, ⟨[13,14,15,16,17,18,19,20,27,28,29,33,34,35], [], 2, 2⟩, ⟨[16,17,18,19,20,27,28,29,33,34,35], [], 2, 2⟩, ⟨[27,28,29,30,33,34,35,36], [], 2, 2⟩, ⟨[27,28,29,30,33,34,35,36], [], 2, 2⟩, ⟨[13,14,15,16,17,18,19,20,21,22,23,24,25,26,33,34,35], [], 2, 2⟩, ⟨[13,14,15,16,17,18,19,20,21,22,23,24,25,26,33,34,35], [0], 2, 2⟩, ⟨[13,14,15,16,17,18,19,20,21,22,23,24,25,26,33,34,35], [], 2, 2⟩, ⟨[16,17,18,19,20,25,26,33,34,35], [], 2, 2⟩, ⟨[33,34,35,36], [], 2, 2⟩, ⟨[33,34,35,36], [], 2, 2⟩, ⟨[13,14,15,16,17,18,19,20,21,22,23,24,25,26,27,28,29,30,31,32], [], 2, 2⟩, ⟨[13,14,15,16,17,18,19,20,21,22,23,24,25,26,27,28,29,30,31,32], [0], 2, 2⟩, ⟨[13,14,15,16,17,18,19,20,21,22,23,24,25,26,27,28,29,30,31,32], [], 2, 2⟩, ⟨[16,17,18,19,20,25,26,31,32], [], 2, 2⟩, ⟨[], [], 2, 2⟩, ⟨[], [], 2, 2⟩, ⟨[], [1], 2, 2⟩] ⟨by kernel_rfl, by kernel_rfl, rfl⟩ ?_
  refine bdE hF (fun y3 hy3 hF => ?_)
  refine callG [] (g_itoa_c hy3) ⟨mv rfl, tv⟩ tv rfl ?_
  refine vck hF id (fun _ hF => ?_)
  refine vck hF id (fun _ hF => ?_)
  refine vck hF id (fun _ hF => ?_)
  refine vck hF id (fun _ hF => ?_)
  refine bdE hF (fun y4 hy4 hF => ?_)
  refine callG [] (g_itoa_c hy4) ⟨mv rfl, tv⟩ tv rfl ?_
  refine vck hF id (fun _ hF => ?_)
  refine vck hF id (fun _ hF => ?_)
  refine bdE hF (fun y5 hy5 hF => ?_)
  refine callG [] (g_itoa_c hy5) ⟨mv rfl, tv⟩ tv rfl ?_
  refine vck hF id (fun _ hF => ?_)
  refine vck hF id (fun _ hF => ?_)
  refine bdE hF (fun y6 hy6 hF => ?_)
  refine callG [] (g_itoa_c hy6) ⟨mv rfl, tv⟩ tv rfl ?_
  refine vck hF id (fun _ hF => ?_)
  refine vck hF id (fun _ hF => ?_)
  refine ckX hF (fun hk7 hF => ?_)
  refine callG [1] (g_bldWrite_c hk7) ⟨mp rfl, mv rfl, tv⟩ ⟨⟨rfl, rfl⟩, tv⟩ rfl ?_
  refine Dz.seq (Dz.seq ?_)
  refine Dz.ent (x := ([(1, .ptr 0 0), (3, .ptr 1 0)], [.box 63 (.u (cI a0.Id) :: .u (.bool a0.Up) :: .u (.bool a0.Gone) :: .u (cI a0.Round) :: .u (cI a0.Voter.Promised) :: .u (ul SynPaper.c 12 t0_5 a0.Voter.Papers) :: .u (ul Cmd.c 10 t0_6 a0.Log) :: .u (ul SrvCopy.c 6 t0_7 a0.Copies) :: .u (cI a0.Seek.Slot) :: .u (cI a0.Seek.Ballot) :: .u (cI a0.Seek.Phase) :: .u (cI a0.Seek.Mine.Kind) :: .u (cI a0.Seek.Mine.Client) :: .u (cI a0.Seek.Mine.Call) :: .u (cI a0.Seek.Mine.Disk) :: .u (cI a0.Seek.Mine.Arg) :: .u (cI a0.Seek.Mine.Epoch) :: .u (cI a0.Seek.Mine.Range) :: .u (cI a0.Seek.Mine.Num) :: .u (cI a0.Seek.Mine.A) :: .u (cI a0.Seek.Mine.B) :: .u (cI a0.Seek.Best.Slot) :: .u (cI a0.Seek.Best.Ballot) :: .u (cI a0.Seek.Best.Cmd.Kind) :: .u (cI a0.Seek.Best.Cmd.Client) :: .u (cI a0.Seek.Best.Cmd.Call) :: .u (cI a0.Seek.Best.Cmd.Disk) :: .u (cI a0.Seek.Best.Cmd.Arg) :: .u (cI a0.Seek.Best.Cmd.Epoch) :: .u (cI a0.Seek.Best.Cmd.Range) :: .u (cI a0.Seek.Best.Cmd.Num) :: .u (cI a0.Seek.Best.Cmd.A) :: .u (cI a0.Seek.Best.Cmd.B) :: .u (ul cInt 1 t0_33 a0.Seek.Yes) :: .u (ul Cmd.c 10 t0_34 a0.Wants) :: .u (ul SrvDoing.c 8 t0_35 a0.Doing) :: []), .abs (bldQ 74 5 (ByteArray.empty ++ (((((((((((⟨#[115, 101, 114, 118, 101, 114, 32]⟩ : ByteArray) ++ y3) ++ (⟨#[32]⟩ : ByteArray)) ++ v2) ++ (⟨#[44, 32, 108, 111, 103, 32]⟩ : ByteArray)) ++ y4) ++ (⟨#[44, 32, 119, 97, 110, 116, 115, 32]⟩ : ByteArray)) ++ y5) ++ (⟨#[44, 32]⟩ : ByteArray)) ++ y6) ++ (⟨#[32, 119, 97, 105, 116, 105, 110, 103, 10]⟩ : ByteArray))))])) (entG [0, 1] ⟨mp rfl, mp rfl, tv⟩ ⟨⟨rfl, o_box rfl⟩, ⟨rfl, rfl⟩, tv⟩ rfl) ?_
  refine Dz.reg ?_
  intro hb8; replace hb8 : a0.Copies.length ≤ 140737488355328 := hb8
  refine Dz.blk ?_
  refine Dz.cnt hF (fun i9 v74 => ([(3, .ptr 0 0), (41, .val false [.u (ul SrvCopy.c 6 t0_7 a0.Copies)]), (42, vint .i64 ((a0.Copies.length : Nat) : Int)), (43, vint .i64 ((i9 : Nat) : Int))], [.abs (bldQ 74 5 v74)])) (entG [1] ⟨mp rfl, mv rfl, mv rfl, mv rfl, tv⟩ ⟨⟨rfl, rfl⟩, tv⟩ rfl) (fun v74 hF => ?_) (fun i9 v74 κ75 hi0i9 hi1i9 hF => ?_)
  ·refine Dz.seq (Dz.reg (Dz.seq ?_))
   refine Dz.ff (b := decide (((0 + a0.Copies.length : Nat) : Int) < ((a0.Copies.length : Nat) : Int))) rfl (decide_eq_false (by omega)) ?_
   refine Dz.exit (Dz.seq (Dz.reg ?_))
   refine callG [0] g_bldString_c ⟨mp rfl, tv⟩ ⟨⟨rfl, rfl⟩, tv⟩ rfl ?_
   refine Dz.ret ?_
   cases hF
   exact finG [] [] rfl rfl (mv rfl) tv rfl
  ·refine Dz.seq (Dz.reg (Dz.seq ?_))
   refine Dz.tt (b := decide (((i9 : Nat) : Int) < ((a0.Copies.length : Nat) : Int))) rfl (decide_eq_true (by omega)) ?_
   refine Dz.skip (Dz.seq (Dz.blk (Dz.seq (Dz.reg ?_))))
   refine vge (n := ((i9 : Nat) : Int)) (hi := (a0.Copies.length : Int)) (by omega) (by omega) ?_
   have hF := ltE hF
   refine Dz.seq ?_
   refine Dz.ent (x := ([(3, .ptr 0 0), (6, .ptr 1 0), (41, .val false [.u (ul SrvCopy.c 6 t0_7 a0.Copies)]), (42, vint .i64 ((a0.Copies.length : Nat) : Int)), (43, vint .i64 ((i9 : Nat) : Int))], [.abs (bldQ 74 5 v74), .box 119 (SrvCopy.L (a0.Copies.getD i9 default))])) (entG [0, 1] ⟨mp rfl, mp rfl, mv rfl, mv rfl, mv rfl, tv⟩ ⟨⟨rfl, rfl⟩, ⟨rfl, o_box rfl⟩, tv⟩ rfl) ?_
   refine Dz.drw 2 [⟨[52,53,57,58,62,63,64], [], 2, 2⟩, ⟨[52,53,57,58,62,63,64], [1], 2, 2⟩, ⟨[52,53,57,58,62,63,64], [], 2, 2⟩, ⟨[52,53,54,57,58,59,62,63,64,65], [], 2, 2⟩, ⟨[52,53,54,57,58,59,62,63,64,65], [], 2, 2⟩, ⟨[47,48,49,50,51,57,58,62,63,64], [], 2, 2⟩, ⟨[47,48,49,50,51,57,58,62,63,64], [1], 2, 2⟩, ⟨[50,51,57,58,62,63,64], [], 2, 2⟩, ⟨[57,58,59,62,63,64,65], [], 2, 2⟩, ⟨[57,58,59,62,63,64,65], [], 2, 2⟩, ⟨[47,48,49,50,51,52,53,54,55,56,62,63,64], [], 2, 2⟩, ⟨[47,48,49,50,51,52,53,54,55,56,62,63,64], [1], 2, 2⟩, ⟨[50,51,55,56,62,63,64], [], 2, 2⟩, ⟨[62,63,64,65], [], 2, 2⟩, ⟨[62,63,64,65], [], 2, 2⟩, ⟨[47,48,49,50,51,52,53,54,55,56,57,58,59,60,61], [], 2, 2⟩, ⟨[47,48,49,50,51,52,53,54,55,56,57,58,59,60,61], [1], 2, 2⟩, ⟨[47,48,49,50,51,52,53,54,55,56,57,58,59,60,61], [], 2, 2⟩, ⟨[50,51,55,56,60,61], [], 2, 2⟩, ⟨[], [], 2, 2⟩, ⟨[], [], 2, 2⟩, ⟨[], [0], 2, 2⟩] ⟨by kernel_rfl, by kernel_rfl, rfl⟩ ?_
   refine bdE hF (fun y77 hy77 hF => ?_)
   refine callG [] (g_itoa_c hy77) ⟨mv rfl, tv⟩ tv rfl ?_
   refine vck hF id (fun _ hF => ?_)
   refine vck hF id (fun _ hF => ?_)
   refine bdE hF (fun y78 hy78 hF => ?_)
   refine callG [] (g_itoa_c hy78) ⟨mv rfl, tv⟩ tv rfl ?_
   refine vck hF id (fun _ hF => ?_)
   refine vck hF id (fun _ hF => ?_)
   refine bdE hF (fun y79 hy79 hF => ?_)
   refine callG [] (g_itoa_c hy79) ⟨mv rfl, tv⟩ tv rfl ?_
   refine vck hF id (fun _ hF => ?_)
   refine vck hF id (fun _ hF => ?_)
   refine bdE hF (fun y80 hy80 hF => ?_)
   refine callG [] (g_itoa_c hy80) ⟨mv rfl, tv⟩ tv rfl ?_
   refine vck hF id (fun _ hF => ?_)
   refine vck hF id (fun _ hF => ?_)
   refine ckX hF (fun hk81 hF => ?_)
   refine callG [0] (g_bldWrite_c hk81) ⟨mp rfl, mv rfl, tv⟩ ⟨⟨rfl, rfl⟩, tv⟩ rfl ?_
   refine Dz.seq (Dz.seq ?_)
   refine Dz.ent (x := ([(3, .ptr 0 0), (6, .ptr 1 0), (41, .val false [.u (ul SrvCopy.c 6 t0_7 a0.Copies)]), (42, vint .i64 ((a0.Copies.length : Nat) : Int)), (43, vint .i64 ((i9 : Nat) : Int))], [.abs (bldQ 74 5 (v74 ++ (((((((((⟨#[32, 32, 114, 97, 110, 103, 101, 32]⟩ : ByteArray) ++ y77) ++ (⟨#[32, 119, 104, 111, 108, 101, 32]⟩ : ByteArray)) ++ y78) ++ (⟨#[44, 32, 97, 115, 107, 101, 100, 32]⟩ : ByteArray)) ++ y79) ++ (⟨#[44, 32]⟩ : ByteArray)) ++ y80) ++ (⟨#[32, 98, 117, 115, 121, 58]⟩ : ByteArray)))), .box 119 (SrvCopy.L (a0.Copies.getD i9 default))])) (entG [0, 1] ⟨mp rfl, mp rfl, mv rfl, mv rfl, mv rfl, tv⟩ ⟨⟨rfl, rfl⟩, ⟨rfl, o_box rfl⟩, tv⟩ rfl) ?_
   refine Dz.reg ?_
   intro hb82; replace hb82 : (a0.Copies.getD i9 default).Pieces.length ≤ 140737488355328 := hb82
   refine Dz.blk ?_
   refine Dz.cnt hF (fun i83 v98 => ([(3, .ptr 0 0), (41, .val false [.u (ul SrvCopy.c 6 t0_7 a0.Copies)]), (42, vint .i64 ((a0.Copies.length : Nat) : Int)), (43, vint .i64 ((i9 : Nat) : Int)), (70, .val false [.u (ul BlkPiece.c 4 false ((a0.Copies.getD i9 default).Pieces))]), (71, vint .i64 (((a0.Copies.getD i9 default).Pieces.length : Nat) : Int)), (72, vint .i64 ((i83 : Nat) : Int))], [.abs (bldQ 74 5 v98)])) (entG [0] ⟨mp rfl, mv rfl, mv rfl, mv rfl, mv rfl, mv rfl, mv rfl, tv⟩ ⟨⟨rfl, rfl⟩, tv⟩ rfl) (fun v98 hF => ?_) (fun i83 v98 κ99 hi0i83 hi1i83 hF => ?_)
   ·refine Dz.seq (Dz.reg (Dz.seq ?_))
    refine Dz.ff (b := decide (((0 + (a0.Copies.getD i9 default).Pieces.length : Nat) : Int) < (((a0.Copies.getD i9 default).Pieces.length : Nat) : Int))) rfl (decide_eq_false (by omega)) ?_
    refine Dz.exit (Dz.reg ?_)
    refine ckX hF (fun hk106 hF => ?_)
    refine callG [0] (g_bldWrite_c hk106) ⟨mp rfl, mv rfl, tv⟩ ⟨⟨rfl, rfl⟩, tv⟩ rfl ?_
    refine Dz.reg ?_
    refine vsucc (by omega) ?_
    exact ⟨(v98 ++ (⟨#[10]⟩ : ByteArray)), entG [0] ⟨mp rfl, mv rfl, mv rfl, mv rfl, tv⟩ ⟨⟨rfl, rfl⟩, tv⟩ rfl, hF⟩
   ·refine Dz.seq (Dz.reg (Dz.seq ?_))
    refine Dz.tt (b := decide (((i83 : Nat) : Int) < (((a0.Copies.getD i9 default).Pieces.length : Nat) : Int))) rfl (decide_eq_true (by omega)) ?_
    refine Dz.skip (Dz.seq (Dz.blk (Dz.seq (Dz.reg ?_))))
    refine vge (n := ((i83 : Nat) : Int)) (hi := (((a0.Copies.getD i9 default).Pieces).length : Int)) (by omega) (by omega) ?_
    have hF := ltE hF
    refine Dz.ent (x := ([(3, .ptr 0 0), (8, .ptr 1 0), (41, .val false [.u (ul SrvCopy.c 6 t0_7 a0.Copies)]), (42, vint .i64 ((a0.Copies.length : Nat) : Int)), (43, vint .i64 ((i9 : Nat) : Int)), (70, .val false [.u (ul BlkPiece.c 4 false ((a0.Copies.getD i9 default).Pieces))]), (71, vint .i64 (((a0.Copies.getD i9 default).Pieces.length : Nat) : Int)), (72, vint .i64 ((i83 : Nat) : Int))], [.abs (bldQ 74 5 v98), .box 121 (BlkPiece.L ((a0.Copies.getD i9 default).Pieces.getD i83 default))])) (entG [0, 1] ⟨mp rfl, mp rfl, mv rfl, mv rfl, mv rfl, mv rfl, mv rfl, mv rfl, tv⟩ ⟨⟨rfl, rfl⟩, ⟨rfl, o_box rfl⟩, tv⟩ rfl) ?_
    refine Dz.drw 2 [⟨[81,82,86,87,91,92], [], 2, 2⟩, ⟨[81,82,86,87,91,92], [1], 2, 2⟩, ⟨[81,82,86,87,91,92], [], 2, 2⟩, ⟨[81,82,83,86,87,88,91,92,93], [], 2, 2⟩, ⟨[81,82,83,86,87,88,91,92,93], [], 2, 2⟩, ⟨[76,77,78,79,80,86,87,91,92], [], 2, 2⟩, ⟨[76,77,78,79,80,86,87,91,92], [1], 2, 2⟩, ⟨[79,80,86,87,91,92], [], 2, 2⟩, ⟨[86,87,88,91,92,93], [], 2, 2⟩, ⟨[86,87,88,91,92,93], [], 2, 2⟩, ⟨[76,77,78,79,80,81,82,83,84,85,91,92], [], 2, 2⟩, ⟨[76,77,78,79,80,81,82,83,84,85,91,92], [1], 2, 2⟩, ⟨[79,80,84,85,91,92], [], 2, 2⟩, ⟨[91,92,93], [], 2, 2⟩, ⟨[91,92,93], [], 2, 2⟩, ⟨[76,77,78,79,80,81,82,83,84,85,86,87,88,89,90], [], 2, 2⟩, ⟨[76,77,78,79,80,81,82,83,84,85,86,87,88,89,90], [1], 2, 2⟩, ⟨[79,80,84,85,89,90], [], 2, 2⟩, ⟨[], [], 2, 2⟩, ⟨[], [0], 2, 2⟩] ⟨by kernel_rfl, by kernel_rfl, rfl⟩ ?_
    refine bdE hF (fun y101 hy101 hF => ?_)
    refine callG [] (g_itoa_c hy101) ⟨mv rfl, tv⟩ tv rfl ?_
    refine vck hF id (fun _ hF => ?_)
    refine vck hF id (fun _ hF => ?_)
    refine bdE hF (fun y102 hy102 hF => ?_)
    refine callG [] (g_itoa_c hy102) ⟨mv rfl, tv⟩ tv rfl ?_
    refine vck hF id (fun _ hF => ?_)
    refine vck hF id (fun _ hF => ?_)
    refine bdE hF (fun y103 hy103 hF => ?_)
    refine callG [] (g_itoa_c hy103) ⟨mv rfl, tv⟩ tv rfl ?_
    refine vck hF id (fun _ hF => ?_)
    refine vck hF id (fun _ hF => ?_)
    refine bdE hF (fun y104 hy104 hF => ?_)
    refine callG [] (g_itoa_c hy104) ⟨mv rfl, tv⟩ tv rfl ?_
    refine vck hF id (fun _ hF => ?_)
    refine ckX hF (fun hk105 hF => ?_)
    refine callG [0] (g_bldWrite_c hk105) ⟨mp rfl, mv rfl, tv⟩ ⟨⟨rfl, rfl⟩, tv⟩ rfl ?_
    refine Dz.ent (x := ([(3, .ptr 0 0), (41, .val false [.u (ul SrvCopy.c 6 t0_7 a0.Copies)]), (42, vint .i64 ((a0.Copies.length : Nat) : Int)), (43, vint .i64 ((i9 : Nat) : Int)), (70, .val false [.u (ul BlkPiece.c 4 false ((a0.Copies.getD i9 default).Pieces))]), (71, vint .i64 (((a0.Copies.getD i9 default).Pieces.length : Nat) : Int)), (72, vint .i64 ((i83 : Nat) : Int))], [.abs (bldQ 74 5 (v98 ++ ((((((((⟨#[32]⟩ : ByteArray) ++ y101) ++ (⟨#[46]⟩ : ByteArray)) ++ y102) ++ (⟨#[46]⟩ : ByteArray)) ++ y103) ++ (⟨#[61]⟩ : ByteArray)) ++ y104)))])) (entG [0] ⟨mp rfl, mv rfl, mv rfl, mv rfl, mv rfl, mv rfl, mv rfl, tv⟩ ⟨⟨rfl, rfl⟩, tv⟩ rfl) ?_
    refine Dz.reg ?_
    refine vsucc (by omega) ?_
    exact ⟨(v98 ++ ((((((((⟨#[32]⟩ : ByteArray) ++ y101) ++ (⟨#[46]⟩ : ByteArray)) ++ y102) ++ (⟨#[46]⟩ : ByteArray)) ++ y103) ++ (⟨#[61]⟩ : ByteArray)) ++ y104)), entG [0] ⟨mp rfl, mv rfl, mv rfl, mv rfl, mv rfl, mv rfl, mv rfl, tv⟩ ⟨⟨rfl, rfl⟩, tv⟩ rfl, hF⟩
 ·refine Dz.seq (Dz.reg ?_)
  refine Dz.ite rfl hF (fun _ hF => ?_) (fun _ hF => ?_)
  ·refine Dz.reg ?_
   exact ⟨(⟨#[117, 112]⟩ : ByteArray), entG [0, 1] ⟨mp rfl, mp rfl, mv rfl, tv⟩ ⟨⟨rfl, o_box rfl⟩, ⟨rfl, rfl⟩, tv⟩ rfl, hF⟩
  ·refine Dz.seq (Dz.reg ?_)
   refine Dz.ite rfl hF (fun _ hF => ?_) (fun _ hF => ?_)
   ·refine Dz.reg ?_
    exact ⟨(⟨#[103, 111, 110, 101]⟩ : ByteArray), entG [0, 1] ⟨mp rfl, mp rfl, mv rfl, tv⟩ ⟨⟨rfl, o_box rfl⟩, ⟨rfl, rfl⟩, tv⟩ rfl, hF⟩
   ·refine Dz.skip ?_
    exact ⟨(⟨#[100, 111, 119, 110]⟩ : ByteArray), entG [0, 1] ⟨mp rfl, mp rfl, mv rfl, tv⟩ ⟨⟨rfl, o_box rfl⟩, ⟨rfl, rfl⟩, tv⟩ rfl, hF⟩
def i_boardCall (a0 : PanCall) : Option (ByteArray) :=
 ix ([(⟨#[]⟩ : ByteArray), (⟨#[114, 101, 97, 100]⟩ : ByteArray), (⟨#[119, 114, 105, 116, 101]⟩ : ByteArray), (⟨#[99, 114, 101, 97, 116, 101]⟩ : ByteArray), (⟨#[115, 110, 97, 112]⟩ : ByteArray), (⟨#[100, 101, 108, 101, 116, 101]⟩ : ByteArray), (⟨#[103, 114, 111, 119]⟩ : ByteArray)] : List ByteArray) a0.Op (fun _ => (g_itoa a0.Client).bind (fun y3 => ck (y3.size + (⟨#[46]⟩ : ByteArray).size ≤ 9223372036854775807) ((g_itoa a0.Call).bind (fun y4 => ck ((y3 ++ (⟨#[46]⟩ : ByteArray)).size + y4.size ≤ 9223372036854775807) (ck (((y3 ++ (⟨#[46]⟩ : ByteArray)) ++ y4).size + (⟨#[32]⟩ : ByteArray).size ≤ 9223372036854775807) (ck ((((y3 ++ (⟨#[46]⟩ : ByteArray)) ++ y4) ++ (⟨#[32]⟩ : ByteArray)).size + (([(⟨#[]⟩ : ByteArray), (⟨#[114, 101, 97, 100]⟩ : ByteArray), (⟨#[119, 114, 105, 116, 101]⟩ : ByteArray), (⟨#[99, 114, 101, 97, 116, 101]⟩ : ByteArray), (⟨#[115, 110, 97, 112]⟩ : ByteArray), (⟨#[100, 101, 108, 101, 116, 101]⟩ : ByteArray), (⟨#[103, 114, 111, 119]⟩ : ByteArray)] : List ByteArray).getD a0.Op.toNat default).size ≤ 9223372036854775807) (loopN (fun i5 (v10 : ByteArray) κ11 => ix ([a0.Disk, a0.Block, a0.Epoch, a0.Data] : List Int) ((i5 : Nat) : Int) (fun _ => (g_itoa (([a0.Disk, a0.Block, a0.Epoch, a0.Data] : List Int).getD i5 default)).bind (fun y12 => ck ((⟨#[32]⟩ : ByteArray).size + y12.size ≤ 9223372036854775807) (ck (v10.size + ((⟨#[32]⟩ : ByteArray) ++ y12).size ≤ 9223372036854775807) (κ11 (v10 ++ ((⟨#[32]⟩ : ByteArray) ++ y12))))))) (fun (v10 : ByteArray) => cond (!decide (a0.End = 0)) (ck (v10.size + (⟨#[58, 32]⟩ : ByteArray).size ≤ 9223372036854775807) ((g_itoa a0.Code).bind (fun y13 => ck ((v10 ++ (⟨#[58, 32]⟩ : ByteArray)).size + y13.size ≤ 9223372036854775807) (ck (((v10 ++ (⟨#[58, 32]⟩ : ByteArray)) ++ y13).size + (⟨#[32]⟩ : ByteArray).size ≤ 9223372036854775807) ((g_itoa a0.Value).bind (fun y14 => ck ((((v10 ++ (⟨#[58, 32]⟩ : ByteArray)) ++ y13) ++ (⟨#[32]⟩ : ByteArray)).size + y14.size ≤ 9223372036854775807) (ck (((((v10 ++ (⟨#[58, 32]⟩ : ByteArray)) ++ y13) ++ (⟨#[32]⟩ : ByteArray)) ++ y14).size + (⟨#[10]⟩ : ByteArray).size ≤ 9223372036854775807) (some (((((v10 ++ (⟨#[58, 32]⟩ : ByteArray)) ++ y13) ++ (⟨#[32]⟩ : ByteArray)) ++ y14) ++ (⟨#[10]⟩ : ByteArray)))))))))) (cond a0.Over (ck (v10.size + (⟨#[58, 32, 103, 105, 118, 101, 110, 32, 117, 112, 10]⟩ : ByteArray).size ≤ 9223372036854775807) (some (v10 ++ (⟨#[58, 32, 103, 105, 118, 101, 110, 32, 117, 112, 10]⟩ : ByteArray)))) (ck (v10.size + (⟨#[58, 32, 119, 97, 105, 116, 115, 10]⟩ : ByteArray).size ≤ 9223372036854775807) (some (v10 ++ (⟨#[58, 32, 119, 97, 105, 116, 115, 10]⟩ : ByteArray)))))) 4 0 ((((y3 ++ (⟨#[46]⟩ : ByteArray)) ++ y4) ++ (⟨#[32]⟩ : ByteArray)) ++ (([(⟨#[]⟩ : ByteArray), (⟨#[114, 101, 97, 100]⟩ : ByteArray), (⟨#[119, 114, 105, 116, 101]⟩ : ByteArray), (⟨#[99, 114, 101, 97, 116, 101]⟩ : ByteArray), (⟨#[115, 110, 97, 112]⟩ : ByteArray), (⟨#[100, 101, 108, 101, 116, 101]⟩ : ByteArray), (⟨#[103, 114, 111, 119]⟩ : ByteArray)] : List ByteArray).getD a0.Op.toNat default)))))))))
theorem i_boardCall_c {a0 : PanCall} {r : ByteArray} (hF : i_boardCall a0 = some r) : Con Tryz.prog 27 [.val true (PanCall.L a0)] [] (vstr r) [] := by
 refine Con.of_Dz tabOk Tryz.func27 rfl rfl rfl ?_
 delta i_boardCall at hF
 refine Dz.seq (Dz.reg (Dz.seq (Dz.reg ?_)))
 refine vix (L := ([(⟨#[]⟩ : ByteArray), (⟨#[114, 101, 97, 100]⟩ : ByteArray), (⟨#[119, 114, 105, 116, 101]⟩ : ByteArray), (⟨#[99, 114, 101, 97, 116, 101]⟩ : ByteArray), (⟨#[115, 110, 97, 112]⟩ : ByteArray), (⟨#[100, 101, 108, 101, 116, 101]⟩ : ByteArray), (⟨#[103, 114, 111, 119]⟩ : ByteArray)] : List ByteArray)) (i := a0.Op) hF (fun ha1 hb2 hF => ?_)
 refine Dz.row 1 ([(⟨#[]⟩ : ByteArray), (⟨#[114, 101, 97, 100]⟩ : ByteArray), (⟨#[119, 114, 105, 116, 101]⟩ : ByteArray), (⟨#[99, 114, 101, 97, 116, 101]⟩ : ByteArray), (⟨#[115, 110, 97, 112]⟩ : ByteArray), (⟨#[100, 101, 108, 101, 116, 101]⟩ : ByteArray), (⟨#[103, 114, 111, 119]⟩ : ByteArray)] : List ByteArray).length (gl cStr ([(⟨#[]⟩ : ByteArray), (⟨#[114, 101, 97, 100]⟩ : ByteArray), (⟨#[119, 114, 105, 116, 101]⟩ : ByteArray), (⟨#[99, 114, 101, 97, 116, 101]⟩ : ByteArray), (⟨#[115, 110, 97, 112]⟩ : ByteArray), (⟨#[100, 101, 108, 101, 116, 101]⟩ : ByteArray), (⟨#[103, 114, 111, 119]⟩ : ByteArray)] : List ByteArray)) rfl (by simp <;> omega) (EqG.refl _ _ _) ?_
 refine Dz.seq ?_
 refine Dz.drw 2 [⟨[16,17,21], [], 2, 2⟩, ⟨[16,17,21], [0], 2, 2⟩, ⟨[16,17,21], [], 2, 2⟩, ⟨[16,17,18,21], [], 2, 2⟩, ⟨[12,13,14,15,21], [], 2, 2⟩, ⟨[12,13,14,15,21], [0], 2, 2⟩, ⟨[15,21], [], 2, 2⟩, ⟨[21], [], 2, 2⟩, ⟨[21], [], 2, 2⟩, ⟨[12,13,14,15,16,17,18,19,20], [], 2, 2⟩, ⟨[], [], 2, 2⟩, ⟨[], [], 2, 2⟩] ⟨by kernel_rfl, by kernel_rfl, rfl⟩ ?_
 refine bdE hF (fun y3 hy3 hF => ?_)
 refine callG [] (g_itoa_c hy3) ⟨mv rfl, tv⟩ tv rfl ?_
 refine vck hF id (fun _ hF => ?_)
 refine bdE hF (fun y4 hy4 hF => ?_)
 refine callG [] (g_itoa_c hy4) ⟨mv rfl, tv⟩ tv rfl ?_
 refine vck hF id (fun _ hF => ?_)
 refine vck hF id (fun _ hF => ?_)
 refine vck hF id (fun _ hF => ?_)
 refine Dz.seq (Dz.seq (Dz.reg ?_))
 intro _
 refine Dz.row 2 ([a0.Disk, a0.Block, a0.Epoch, a0.Data] : List Int).length (gl cInt ([a0.Disk, a0.Block, a0.Epoch, a0.Data] : List Int)) rfl (by simp <;> omega) (EqG.lit (c := cInt) (sz := 1) (L := ([a0.Disk, a0.Block, a0.Epoch, a0.Data] : List Int)) ⟨lr, lr, lr, lr, tv⟩) ?_
 refine Dz.blk ?_
 refine Dz.cnt hF (fun i5 v10 => ([(1, .ptr 0 0), (4, vstr v10), (31, .val false [.row 1]), (32, vint .i64 4), (33, vint .i64 ((i5 : Nat) : Int))], [.box 66 (PanCall.L a0), .row 3 (([a0.Disk, a0.Block, a0.Epoch, a0.Data] : List Int).length) 1 (gl cInt ([a0.Disk, a0.Block, a0.Epoch, a0.Data] : List Int))])) (entG [0, 2] ⟨mp rfl, mv rfl, ⟨rfl, rfl, tv⟩, mv rfl, mv rfl, tv⟩ ⟨⟨rfl, o_box rfl⟩, ⟨rfl, o_row⟩, tv⟩ rfl) (fun v10 hF => ?_) (fun i5 v10 κ11 hi0i5 hi1i5 hF => ?_)
 ·refine Dz.seq (Dz.reg (Dz.seq ?_))
  refine Dz.ff (b := decide (((0 + 4 : Nat) : Int) < 4)) rfl (decide_eq_false (by omega)) ?_
  refine Dz.exit (Dz.seq (Dz.blk (Dz.seq (Dz.reg ?_))))
  refine Dz.ite rfl hF (fun _ hF => ?_) (fun _ hF => ?_)
  ·refine Dz.seq ?_
   refine Dz.drw 2 [⟨[49,50,51,54,55,56], [], 2, 2⟩, ⟨[49,50,51,54,55,56], [], 2, 2⟩, ⟨[47,48,54,55], [], 2, 2⟩, ⟨[47,48,54,55], [0], 2, 2⟩, ⟨[47,48,54,55], [], 2, 2⟩, ⟨[54,55,56], [], 2, 2⟩, ⟨[54,55,56], [], 2, 2⟩, ⟨[47,48,49,50,51,52,53], [], 2, 2⟩, ⟨[47,48,49,50,51,52,53], [0], 2, 2⟩, ⟨[47,48,52,53], [], 2, 2⟩, ⟨[], [], 2, 2⟩, ⟨[], [], 2, 2⟩, ⟨[], [], 2, 2⟩] ⟨by kernel_rfl, by kernel_rfl, rfl⟩ ?_
   refine vck hF id (fun _ hF => ?_)
   refine bdE hF (fun y13 hy13 hF => ?_)
   refine callG [] (g_itoa_c hy13) ⟨mv rfl, tv⟩ tv rfl ?_
   refine vck hF id (fun _ hF => ?_)
   refine vck hF id (fun _ hF => ?_)
   refine bdE hF (fun y14 hy14 hF => ?_)
   refine callG [] (g_itoa_c hy14) ⟨mv rfl, tv⟩ tv rfl ?_
   refine vck hF id (fun _ hF => ?_)
   refine vck hF id (fun _ hF => ?_)
   refine Dz.ret ?_
   cases hF
   exact finG [] [] rfl rfl (mv rfl) tv rfl
  ·refine Dz.seq (Dz.reg ?_)
   refine Dz.ite rfl hF (fun _ hF => ?_) (fun _ hF => ?_)
   ·refine Dz.seq (Dz.reg ?_)
    refine vck hF id (fun _ hF => ?_)
    refine Dz.ret ?_
    cases hF
    exact finG [] [] rfl rfl (mv rfl) tv rfl
   ·refine Dz.skip (Dz.seq (Dz.reg ?_))
    refine vck hF id (fun _ hF => ?_)
    refine Dz.ret ?_
    cases hF
    exact finG [] [] rfl rfl (mv rfl) tv rfl
 ·refine Dz.seq (Dz.reg (Dz.seq ?_))
  refine Dz.tt (b := decide (((i5 : Nat) : Int) < 4)) rfl (decide_eq_true (by omega)) ?_
  refine Dz.skip (Dz.seq (Dz.blk (Dz.seq (Dz.reg ?_))))
  refine vix hF (fun _ _ hF => ?_)
  refine Dz.reg ?_
  refine bdE hF (fun y12 hy12 hF => ?_)
  refine callG [] (g_itoa_c hy12) ⟨mv rfl, tv⟩ tv rfl ?_
  refine vck hF id (fun _ hF => ?_)
  refine vck hF id (fun _ hF => ?_)
  refine Dz.reg ?_
  refine vsucc (by omega) ?_
  exact ⟨(v10 ++ ((⟨#[32]⟩ : ByteArray) ++ y12)), entG [0, 1] ⟨mp rfl, mv rfl, ⟨rfl, rfl, tv⟩, mv rfl, mv rfl, tv⟩ ⟨⟨rfl, o_box rfl⟩, ⟨rfl, o_row⟩, tv⟩ rfl, hF⟩
def i_PanBoard (a0 : PanWorld) : Option (ByteArray) :=
 (i_PanOk a0).bind (fun y1 => cond (!y1) (some (⟨#[]⟩ : ByteArray)) ((i_longest a0).bind (fun y2 => (i_MapOf y2).bind (fun y3 => (i_boardMap y3).bind (fun y4 => ck (ByteArray.empty.size + y4.size ≤ 140737488355328) (loopN (fun i7 (v16 : ByteArray) κ17 => lt (a0.Servers.getD i7 default) (fun x18 => (i_boardServer x18).bind (fun y19 => ck (v16.size + y19.size ≤ 140737488355328) (κ17 (v16 ++ y19))))) (fun (v16 : ByteArray) => loopN (fun i22 (v31 : ByteArray) κ32 => lt (a0.Calls.getD i22 default) (fun x33 => (i_boardCall x33).bind (fun y34 => ck (v31.size + y34.size ≤ 140737488355328) (κ32 (v31 ++ y34))))) (fun (v31 : ByteArray) => (g_itoa ((a0.Radio.length : Nat) : Int)).bind (fun y37 => ck (y37.size + (⟨#[32, 119, 111, 114, 100, 115, 10]⟩ : ByteArray).size ≤ 9223372036854775807) (ck (v31.size + (y37 ++ (⟨#[32, 119, 111, 114, 100, 115, 10]⟩ : ByteArray)).size ≤ 140737488355328) (some (v31 ++ (y37 ++ (⟨#[32, 119, 111, 114, 100, 115, 10]⟩ : ByteArray))))))) a0.Calls.length 0 v16) a0.Servers.length 0 (ByteArray.empty ++ y4)))))))
theorem i_PanBoard_c {t0_1 t0_2 t0_3 : Bool} {a0 : PanWorld} {r : ByteArray} (hF : i_PanBoard a0 = some r) : Con Tryz.prog 7 [.val true [.u (cI a0.Time), .u (ul Server.c 36 t0_1 a0.Servers), .u (ul Word.c 26 t0_2 a0.Radio), .u (ul PanCall.c 12 t0_3 a0.Calls)]] [] (vstr r) [] := by
 refine Con.of_Dz tabOk Tryz.func7 rfl rfl rfl ?_
 delta i_PanBoard at hF
 refine Dz.seq (Dz.reg (Dz.seq (Dz.seq (Dz.reg ?_))))
 refine bdE hF (fun y1 hy1 hF => ?_)
 refine callG [] (i_PanOk_c hy1) ⟨mv rfl, tv⟩ tv rfl ?_
 refine Dz.ite rfl hF (fun _ hF => ?_) (fun _ hF => ?_)
 ·refine Dz.seq (Dz.reg (Dz.ret ?_))
  cases hF
  exact finG [] [] rfl rfl (mv rfl) tv rfl
 ·refine Dz.skip (Dz.seq (Dz.reg ?_))
  refine ⟨rfl, ?_⟩
  refine Dz.seq (Dz.reg ?_)
  refine bdE hF (fun y2 hy2 hF => ?_)
  refine callG [] (i_longest_c hy2) ⟨mv rfl, tv⟩ tv rfl ?_
  refine bdE hF (fun y3 hy3 hF => ?_)
  refine callG [] (i_MapOf_c hy3) ⟨mv rfl, tv⟩ tv rfl ?_
  refine bdE hF (fun y4 hy4 hF => ?_)
  refine callL [] (i_boardMap_c hy4) ⟨⟨rfl, lr, lr, lr, ⟨rfl, rfl, lr⟩, ⟨rfl, rfl, lr⟩, ⟨rfl, rfl, lr⟩, tv⟩, tv⟩ tv rfl ⟨⟨tv, tv⟩, tv⟩ ?_
  refine ckX hF (fun hk5 hF => ?_)
  refine callG [1] (g_bldWrite_c hk5) ⟨mp rfl, mv rfl, tv⟩ ⟨⟨rfl, rfl⟩, tv⟩ rfl ?_
  refine Dz.seq (Dz.seq (Dz.reg ?_))
  intro hb6; replace hb6 : a0.Servers.length ≤ 140737488355328 := hb6
  refine Dz.blk ?_
  refine Dz.cnt hF (fun i7 v16 => ([(1, .ptr 0 0), (3, .ptr 1 0), (17, .val false [.u (ul Server.c 36 t0_1 a0.Servers)]), (18, vint .i64 ((a0.Servers.length : Nat) : Int)), (19, vint .i64 ((i7 : Nat) : Int))], [.box 33 [.u (cI a0.Time), .u (ul Server.c 36 t0_1 a0.Servers), .u (ul Word.c 26 t0_2 a0.Radio), .u (ul PanCall.c 12 t0_3 a0.Calls)], .abs (bldQ 74 5 v16)])) (entG [0, 1] ⟨mp rfl, mp rfl, mv rfl, mv rfl, mv rfl, tv⟩ ⟨⟨rfl, o_box rfl⟩, ⟨rfl, rfl⟩, tv⟩ rfl) (fun v16 hF => ?_) (fun i7 v16 κ17 hi0i7 hi1i7 hF => ?_)
  ·refine Dz.seq (Dz.reg (Dz.seq ?_))
   refine Dz.ff (b := decide (((0 + a0.Servers.length : Nat) : Int) < ((a0.Servers.length : Nat) : Int))) rfl (decide_eq_false (by omega)) ?_
   refine Dz.exit (Dz.seq (Dz.seq (Dz.reg ?_)))
   intro hb21; replace hb21 : a0.Calls.length ≤ 140737488355328 := hb21
   refine Dz.blk ?_
   refine Dz.cnt hF (fun i22 v31 => ([(1, .ptr 0 0), (3, .ptr 1 0), (28, .val false [.u (ul PanCall.c 12 t0_3 a0.Calls)]), (29, vint .i64 ((a0.Calls.length : Nat) : Int)), (30, vint .i64 ((i22 : Nat) : Int))], [.box 33 [.u (cI a0.Time), .u (ul Server.c 36 t0_1 a0.Servers), .u (ul Word.c 26 t0_2 a0.Radio), .u (ul PanCall.c 12 t0_3 a0.Calls)], .abs (bldQ 74 5 v31)])) (entG [0, 1] ⟨mp rfl, mp rfl, mv rfl, mv rfl, mv rfl, tv⟩ ⟨⟨rfl, o_box rfl⟩, ⟨rfl, rfl⟩, tv⟩ rfl) (fun v31 hF => ?_) (fun i22 v31 κ32 hi0i22 hi1i22 hF => ?_)
   ·refine Dz.seq (Dz.reg (Dz.seq ?_))
    refine Dz.ff (b := decide (((0 + a0.Calls.length : Nat) : Int) < ((a0.Calls.length : Nat) : Int))) rfl (decide_eq_false (by omega)) ?_
    refine Dz.exit (Dz.seq (Dz.reg ?_))
    intro hb36; replace hb36 : a0.Radio.length ≤ 140737488355328 := hb36
    refine bdE hF (fun y37 hy37 hF => ?_)
    refine callG [] (g_itoa_c hy37) ⟨mv rfl, tv⟩ tv rfl ?_
    refine vck hF id (fun _ hF => ?_)
    refine ckX hF (fun hk38 hF => ?_)
    refine callG [1] (g_bldWrite_c hk38) ⟨mp rfl, mv rfl, tv⟩ ⟨⟨rfl, rfl⟩, tv⟩ rfl ?_
    refine Dz.seq (Dz.reg ?_)
    refine callG [1] g_bldString_c ⟨mp rfl, tv⟩ ⟨⟨rfl, rfl⟩, tv⟩ rfl ?_
    refine Dz.ret ?_
    cases hF
    exact finG [] [] rfl rfl (mv rfl) tv rfl
   ·refine Dz.seq (Dz.reg (Dz.seq ?_))
    refine Dz.tt (b := decide (((i22 : Nat) : Int) < ((a0.Calls.length : Nat) : Int))) rfl (decide_eq_true (by omega)) ?_
    refine Dz.skip (Dz.seq (Dz.blk (Dz.seq (Dz.reg ?_))))
    refine vge (n := ((i22 : Nat) : Int)) (hi := (a0.Calls.length : Int)) (by omega) (by omega) ?_
    have hF := ltE hF
    refine Dz.reg ?_
    refine bdE hF (fun y34 hy34 hF => ?_)
    refine callG [] (i_boardCall_c hy34) ⟨mv rfl, tv⟩ tv rfl ?_
    refine ckX hF (fun hk35 hF => ?_)
    refine callG [1] (g_bldWrite_c hk35) ⟨mp rfl, mv rfl, tv⟩ ⟨⟨rfl, rfl⟩, tv⟩ rfl ?_
    refine Dz.reg ?_
    refine vsucc (by omega) ?_
    exact ⟨(v31 ++ y34), entG [0, 1] ⟨mp rfl, mp rfl, mv rfl, mv rfl, mv rfl, tv⟩ ⟨⟨rfl, o_box rfl⟩, ⟨rfl, rfl⟩, tv⟩ rfl, hF⟩
  ·refine Dz.seq (Dz.reg (Dz.seq ?_))
   refine Dz.tt (b := decide (((i7 : Nat) : Int) < ((a0.Servers.length : Nat) : Int))) rfl (decide_eq_true (by omega)) ?_
   refine Dz.skip (Dz.seq (Dz.blk (Dz.seq (Dz.reg ?_))))
   refine vge (n := ((i7 : Nat) : Int)) (hi := (a0.Servers.length : Int)) (by omega) (by omega) ?_
   have hF := ltE hF
   refine Dz.reg ?_
   refine bdE hF (fun y19 hy19 hF => ?_)
   refine callG [] (i_boardServer_c hy19) ⟨mv rfl, tv⟩ tv rfl ?_
   refine ckX hF (fun hk20 hF => ?_)
   refine callG [1] (g_bldWrite_c hk20) ⟨mp rfl, mv rfl, tv⟩ ⟨⟨rfl, rfl⟩, tv⟩ rfl ?_
   refine Dz.reg ?_
   refine vsucc (by omega) ?_
   exact ⟨(v16 ++ y19), entG [0, 1] ⟨mp rfl, mp rfl, mv rfl, mv rfl, mv rfl, tv⟩ ⟨⟨rfl, o_box rfl⟩, ⟨rfl, rfl⟩, tv⟩ rfl, hF⟩
def l_eqCmd (a0 : Cmd) (a1 : Cmd) : Option (Bool) :=
 cond (!decide (a0.Kind = a1.Kind)) (some false) (cond (!decide (a0.Client = a1.Client)) (some false) (cond (!decide (a0.Call = a1.Call)) (some false) (cond (!decide (a0.Disk = a1.Disk)) (some false) (cond (!decide (a0.Arg = a1.Arg)) (some false) (cond (!decide (a0.Epoch = a1.Epoch)) (some false) (cond (!decide (a0.Range = a1.Range)) (some false) (cond (!decide (a0.Num = a1.Num)) (some false) (cond (!decide (a0.A = a1.A)) (some false) (cond (!decide (a0.B = a1.B)) (some false) (some true))))))))))
theorem l_eqCmd_c {a0 : Cmd} {a1 : Cmd} {r : Bool} (hF : l_eqCmd a0 a1 = some r) : Con Tryz.prog 106 [.val true (Cmd.L a0), .val true (Cmd.L a1)] [] (vbool r) [] := by
 refine Con.of_Dz tabOk Tryz.func106 rfl rfl rfl ?_
 delta l_eqCmd at hF
 refine Dz.seq (Dz.reg (Dz.seq (Dz.seq (Dz.reg ?_))))
 refine Dz.ite rfl hF (fun _ hF => ?_) (fun _ hF => ?_)
 ·refine Dz.seq (Dz.reg (Dz.ret ?_))
  cases hF
  exact finG [] [] rfl rfl (mv rfl) tv rfl
 ·refine Dz.skip (Dz.seq (Dz.seq (Dz.reg ?_)))
  refine Dz.ite rfl hF (fun _ hF => ?_) (fun _ hF => ?_)
  ·refine Dz.seq (Dz.reg (Dz.ret ?_))
   cases hF
   exact finG [] [] rfl rfl (mv rfl) tv rfl
  ·refine Dz.skip (Dz.seq (Dz.seq (Dz.reg ?_)))
   refine Dz.ite rfl hF (fun _ hF => ?_) (fun _ hF => ?_)
   ·refine Dz.seq (Dz.reg (Dz.ret ?_))
    cases hF
    exact finG [] [] rfl rfl (mv rfl) tv rfl
   ·refine Dz.skip (Dz.seq (Dz.seq (Dz.reg ?_)))
    refine Dz.ite rfl hF (fun _ hF => ?_) (fun _ hF => ?_)
    ·refine Dz.seq (Dz.reg (Dz.ret ?_))
     cases hF
     exact finG [] [] rfl rfl (mv rfl) tv rfl
    ·refine Dz.skip (Dz.seq (Dz.seq (Dz.reg ?_)))
     refine Dz.ite rfl hF (fun _ hF => ?_) (fun _ hF => ?_)
     ·refine Dz.seq (Dz.reg (Dz.ret ?_))
      cases hF
      exact finG [] [] rfl rfl (mv rfl) tv rfl
     ·refine Dz.skip (Dz.seq (Dz.seq (Dz.reg ?_)))
      refine Dz.ite rfl hF (fun _ hF => ?_) (fun _ hF => ?_)
      ·refine Dz.seq (Dz.reg (Dz.ret ?_))
       cases hF
       exact finG [] [] rfl rfl (mv rfl) tv rfl
      ·refine Dz.skip (Dz.seq (Dz.seq (Dz.reg ?_)))
       refine Dz.ite rfl hF (fun _ hF => ?_) (fun _ hF => ?_)
       ·refine Dz.seq (Dz.reg (Dz.ret ?_))
        cases hF
        exact finG [] [] rfl rfl (mv rfl) tv rfl
       ·refine Dz.skip (Dz.seq (Dz.seq (Dz.reg ?_)))
        refine Dz.ite rfl hF (fun _ hF => ?_) (fun _ hF => ?_)
        ·refine Dz.seq (Dz.reg (Dz.ret ?_))
         cases hF
         exact finG [] [] rfl rfl (mv rfl) tv rfl
        ·refine Dz.skip (Dz.seq (Dz.seq (Dz.reg ?_)))
         refine Dz.ite rfl hF (fun _ hF => ?_) (fun _ hF => ?_)
         ·refine Dz.seq (Dz.reg (Dz.ret ?_))
          cases hF
          exact finG [] [] rfl rfl (mv rfl) tv rfl
         ·refine Dz.skip (Dz.seq (Dz.seq (Dz.reg ?_)))
          refine Dz.ite rfl hF (fun _ hF => ?_) (fun _ hF => ?_)
          ·refine Dz.seq (Dz.reg (Dz.ret ?_))
           cases hF
           exact finG [] [] rfl rfl (mv rfl) tv rfl
          ·refine Dz.skip (Dz.seq (Dz.reg (Dz.ret ?_)))
           cases hF
           exact finG [] [] rfl rfl (mv rfl) tv rfl
def l_eqSynPaper (a0 : SynPaper) (a1 : SynPaper) : Option (Bool) :=
 cond (!decide (a0.Slot = a1.Slot)) (some false) (cond (!decide (a0.Ballot = a1.Ballot)) (some false) ((l_eqCmd a0.Cmd a1.Cmd).bind (fun y1 => cond (!y1) (some false) (some true))))
theorem l_eqSynPaper_c {a0 : SynPaper} {a1 : SynPaper} {r : Bool} (hF : l_eqSynPaper a0 a1 = some r) : Con Tryz.prog 150 [.val true (SynPaper.L a0), .val true (SynPaper.L a1)] [] (vbool r) [] := by
 refine Con.of_Dz tabOk Tryz.func150 rfl rfl rfl ?_
 delta l_eqSynPaper at hF
 refine Dz.seq (Dz.reg (Dz.seq (Dz.seq (Dz.reg ?_))))
 refine Dz.ite rfl hF (fun _ hF => ?_) (fun _ hF => ?_)
 ·refine Dz.seq (Dz.reg (Dz.ret ?_))
  cases hF
  exact finG [] [] rfl rfl (mv rfl) tv rfl
 ·refine Dz.skip (Dz.seq (Dz.seq (Dz.reg ?_)))
  refine Dz.ite rfl hF (fun _ hF => ?_) (fun _ hF => ?_)
  ·refine Dz.seq (Dz.reg (Dz.ret ?_))
   cases hF
   exact finG [] [] rfl rfl (mv rfl) tv rfl
  ·refine Dz.skip (Dz.seq (Dz.seq (Dz.reg ?_)))
   refine bdE hF (fun y1 hy1 hF => ?_)
   refine callG [] (l_eqCmd_c hy1) ⟨mv rfl, mv rfl, tv⟩ tv rfl ?_
   refine Dz.ite rfl hF (fun _ hF => ?_) (fun _ hF => ?_)
   ·refine Dz.seq (Dz.reg (Dz.ret ?_))
    cases hF
    exact finG [] [] rfl rfl (mv rfl) tv rfl
   ·refine Dz.skip (Dz.seq (Dz.reg (Dz.ret ?_)))
    cases hF
    exact finG [] [] rfl rfl (mv rfl) tv rfl
def l_eqSynPaperS (a0 : (List SynPaper)) (a1 : (List SynPaper)) : Option (Bool) :=
 cond (!decide (((a0.length : Nat) : Int) = ((a1.length : Nat) : Int))) (some false) (loopN (fun i3 (v8 : Unit) κ9 => lt (a0.getD i3 default) (fun x11 => ix a1 ((i3 : Nat) : Int) (fun x12 => (l_eqSynPaper x11 x12).bind (fun y13 => cond (!y13) (some false) (κ9 ()))))) (fun (v8 : Unit) => some true) a0.length 0 ())
theorem l_eqSynPaperS_c {t0_0 t1_0 : Bool} {a0 : (List SynPaper)} {a1 : (List SynPaper)} {r : Bool} (hF : l_eqSynPaperS a0 a1 = some r) : Con Tryz.prog 148 [.val false [.u (ul SynPaper.c 12 t0_0 a0)], .val false [.u (ul SynPaper.c 12 t1_0 a1)]] [] (vbool r) [] := by
 refine Con.of_Dz tabOk Tryz.func148 rfl rfl rfl ?_
 delta l_eqSynPaperS at hF
 refine Dz.seq (Dz.reg (Dz.seq (Dz.seq (Dz.reg ?_))))
 intro hb1; replace hb1 : a0.length ≤ 140737488355328 := hb1
 intro hb2; replace hb2 : a1.length ≤ 140737488355328 := hb2
 refine Dz.ite rfl hF (fun _ hF => ?_) (fun _ hF => ?_)
 ·refine Dz.seq (Dz.reg (Dz.ret ?_))
  cases hF
  exact finG [] [] rfl rfl (mv rfl) tv rfl
 ·refine Dz.skip (Dz.seq (Dz.seq (Dz.reg (Dz.blk ?_))))
  refine Dz.cnt hF (fun i3 v8 => ([(0, .val false [.u (ul SynPaper.c 12 t0_0 a0)]), (1, .val false [.u (ul SynPaper.c 12 t1_0 a1)]), (5, vint .i64 ((i3 : Nat) : Int))], [])) (entG [] ⟨mv rfl, mv rfl, mv rfl, tv⟩ tv rfl) (fun v8 hF => ?_) (fun i3 v8 κ9 hi0i3 hi1i3 hF => ?_)
  ·refine Dz.seq (Dz.seq (Dz.reg ?_))
   intro hb14; replace hb14 : a0.length ≤ 140737488355328 := hb14
   refine Dz.ff (b := decide (((0 + a0.length : Nat) : Int) < ((a0.length : Nat) : Int))) rfl (decide_eq_false (by omega)) ?_
   refine Dz.exit (Dz.seq (Dz.reg (Dz.ret ?_)))
   cases hF
   exact finG [] [] rfl rfl (mv rfl) tv rfl
  ·refine Dz.seq (Dz.seq (Dz.reg ?_))
   intro hb10; replace hb10 : a0.length ≤ 140737488355328 := hb10
   refine Dz.tt (b := decide (((i3 : Nat) : Int) < ((a0.length : Nat) : Int))) rfl (decide_eq_true (by omega)) ?_
   refine Dz.skip (Dz.seq (Dz.blk (Dz.seq ?_)))
   refine Dz.drw 0 [⟨[18,21,22,23,24], [], 0, 0⟩, ⟨[17,21,22,23,24], [], 0, 0⟩, ⟨[21,22,23,24], [], 0, 0⟩, ⟨[21,22,23,24], [], 0, 0⟩, ⟨[17,18,19,20,22], [], 0, 0⟩, ⟨[17,18,19,20,21], [], 0, 0⟩, ⟨[17,18,19,20], [], 0, 0⟩, ⟨[17,18,19,20], [], 0, 0⟩, ⟨[], [], 0, 0⟩, ⟨[], [], 0, 0⟩] ⟨by kernel_rfl, by kernel_rfl, rfl⟩ ?_
   refine vge (n := ((i3 : Nat) : Int)) (hi := (a0.length : Int)) (by omega) (by omega) ?_
   have hF := ltE hF
   refine vix hF (fun _ _ hF => ?_)
   refine bdE hF (fun y13 hy13 hF => ?_)
   refine callG [] (l_eqSynPaper_c hy13) ⟨mv rfl, mv rfl, tv⟩ tv rfl ?_
   refine Dz.ite rfl hF (fun _ hF => ?_) (fun _ hF => ?_)
   ·refine Dz.seq (Dz.reg (Dz.ret ?_))
    cases hF
    exact finG [] [] rfl rfl (mv rfl) tv rfl
   ·refine Dz.skip (Dz.reg ?_)
    refine vsucc (by omega) ?_
    exact ⟨(), entG [] ⟨mv rfl, mv rfl, mv rfl, tv⟩ tv rfl, hF⟩
def l_eqSynVoter (a0 : SynVoter) (a1 : SynVoter) : Option (Bool) :=
 cond (!decide (a0.Promised = a1.Promised)) (some false) ((l_eqSynPaperS a0.Papers a1.Papers).bind (fun y1 => cond (!y1) (some false) (some true)))
theorem l_eqSynVoter_c {t0_1 t1_1 : Bool} {a0 : SynVoter} {a1 : SynVoter} {r : Bool} (hF : l_eqSynVoter a0 a1 = some r) : Con Tryz.prog 101 [.val true [.u (cI a0.Promised), .u (ul SynPaper.c 12 t0_1 a0.Papers)], .val true [.u (cI a1.Promised), .u (ul SynPaper.c 12 t1_1 a1.Papers)]] [] (vbool r) [] := by
 refine Con.of_Dz tabOk Tryz.func101 rfl rfl rfl ?_
 delta l_eqSynVoter at hF
 refine Dz.seq (Dz.reg (Dz.seq (Dz.seq (Dz.reg ?_))))
 refine Dz.ite rfl hF (fun _ hF => ?_) (fun _ hF => ?_)
 ·refine Dz.seq (Dz.reg (Dz.ret ?_))
  cases hF
  exact finG [] [] rfl rfl (mv rfl) tv rfl
 ·refine Dz.skip (Dz.seq (Dz.seq (Dz.reg ?_)))
  refine bdE hF (fun y1 hy1 hF => ?_)
  refine callG [] (l_eqSynPaperS_c hy1) ⟨mv rfl, mv rfl, tv⟩ tv rfl ?_
  refine Dz.ite rfl hF (fun _ hF => ?_) (fun _ hF => ?_)
  ·refine Dz.seq (Dz.reg (Dz.ret ?_))
   cases hF
   exact finG [] [] rfl rfl (mv rfl) tv rfl
  ·refine Dz.skip (Dz.seq (Dz.reg (Dz.ret ?_)))
   cases hF
   exact finG [] [] rfl rfl (mv rfl) tv rfl
def l_eqCmdS (a0 : (List Cmd)) (a1 : (List Cmd)) : Option (Bool) :=
 cond (!decide (((a0.length : Nat) : Int) = ((a1.length : Nat) : Int))) (some false) (loopN (fun i3 (v8 : Unit) κ9 => lt (a0.getD i3 default) (fun x11 => ix a1 ((i3 : Nat) : Int) (fun x12 => (l_eqCmd x11 x12).bind (fun y13 => cond (!y13) (some false) (κ9 ()))))) (fun (v8 : Unit) => some true) a0.length 0 ())
theorem l_eqCmdS_c {t0_0 t1_0 : Bool} {a0 : (List Cmd)} {a1 : (List Cmd)} {r : Bool} (hF : l_eqCmdS a0 a1 = some r) : Con Tryz.prog 102 [.val false [.u (ul Cmd.c 10 t0_0 a0)], .val false [.u (ul Cmd.c 10 t1_0 a1)]] [] (vbool r) [] := by
 refine Con.of_Dz tabOk Tryz.func102 rfl rfl rfl ?_
 delta l_eqCmdS at hF
 refine Dz.seq (Dz.reg (Dz.seq (Dz.seq (Dz.reg ?_))))
 intro hb1; replace hb1 : a0.length ≤ 140737488355328 := hb1
 intro hb2; replace hb2 : a1.length ≤ 140737488355328 := hb2
 refine Dz.ite rfl hF (fun _ hF => ?_) (fun _ hF => ?_)
 ·refine Dz.seq (Dz.reg (Dz.ret ?_))
  cases hF
  exact finG [] [] rfl rfl (mv rfl) tv rfl
 ·refine Dz.skip (Dz.seq (Dz.seq (Dz.reg (Dz.blk ?_))))
  refine Dz.cnt hF (fun i3 v8 => ([(0, .val false [.u (ul Cmd.c 10 t0_0 a0)]), (1, .val false [.u (ul Cmd.c 10 t1_0 a1)]), (5, vint .i64 ((i3 : Nat) : Int))], [])) (entG [] ⟨mv rfl, mv rfl, mv rfl, tv⟩ tv rfl) (fun v8 hF => ?_) (fun i3 v8 κ9 hi0i3 hi1i3 hF => ?_)
  ·refine Dz.seq (Dz.seq (Dz.reg ?_))
   intro hb14; replace hb14 : a0.length ≤ 140737488355328 := hb14
   refine Dz.ff (b := decide (((0 + a0.length : Nat) : Int) < ((a0.length : Nat) : Int))) rfl (decide_eq_false (by omega)) ?_
   refine Dz.exit (Dz.seq (Dz.reg (Dz.ret ?_)))
   cases hF
   exact finG [] [] rfl rfl (mv rfl) tv rfl
  ·refine Dz.seq (Dz.seq (Dz.reg ?_))
   intro hb10; replace hb10 : a0.length ≤ 140737488355328 := hb10
   refine Dz.tt (b := decide (((i3 : Nat) : Int) < ((a0.length : Nat) : Int))) rfl (decide_eq_true (by omega)) ?_
   refine Dz.skip (Dz.seq (Dz.blk (Dz.seq ?_)))
   refine Dz.drw 0 [⟨[18,21,22,23,24], [], 0, 0⟩, ⟨[17,21,22,23,24], [], 0, 0⟩, ⟨[21,22,23,24], [], 0, 0⟩, ⟨[21,22,23,24], [], 0, 0⟩, ⟨[17,18,19,20,22], [], 0, 0⟩, ⟨[17,18,19,20,21], [], 0, 0⟩, ⟨[17,18,19,20], [], 0, 0⟩, ⟨[17,18,19,20], [], 0, 0⟩, ⟨[], [], 0, 0⟩, ⟨[], [], 0, 0⟩] ⟨by kernel_rfl, by kernel_rfl, rfl⟩ ?_
   refine vge (n := ((i3 : Nat) : Int)) (hi := (a0.length : Int)) (by omega) (by omega) ?_
   have hF := ltE hF
   refine vix hF (fun _ _ hF => ?_)
   refine bdE hF (fun y13 hy13 hF => ?_)
   refine callG [] (l_eqCmd_c hy13) ⟨mv rfl, mv rfl, tv⟩ tv rfl ?_
   refine Dz.ite rfl hF (fun _ hF => ?_) (fun _ hF => ?_)
   ·refine Dz.seq (Dz.reg (Dz.ret ?_))
    cases hF
    exact finG [] [] rfl rfl (mv rfl) tv rfl
   ·refine Dz.skip (Dz.reg ?_)
    refine vsucc (by omega) ?_
    exact ⟨(), entG [] ⟨mv rfl, mv rfl, mv rfl, tv⟩ tv rfl, hF⟩
def l_eqBlkPiece (a0 : BlkPiece) (a1 : BlkPiece) : Option (Bool) :=
 cond (!decide (a0.Disk = a1.Disk)) (some false) (cond (!decide (a0.Block = a1.Block)) (some false) (cond (!decide (a0.Epoch = a1.Epoch)) (some false) (cond (!decide (a0.Data = a1.Data)) (some false) (some true))))
theorem l_eqBlkPiece_c {a0 : BlkPiece} {a1 : BlkPiece} {r : Bool} (hF : l_eqBlkPiece a0 a1 = some r) : Con Tryz.prog 153 [.val true (BlkPiece.L a0), .val true (BlkPiece.L a1)] [] (vbool r) [] := by
 refine Con.of_Dz tabOk Tryz.func153 rfl rfl rfl ?_
 delta l_eqBlkPiece at hF
 refine Dz.seq (Dz.reg (Dz.seq (Dz.seq (Dz.reg ?_))))
 refine Dz.ite rfl hF (fun _ hF => ?_) (fun _ hF => ?_)
 ·refine Dz.seq (Dz.reg (Dz.ret ?_))
  cases hF
  exact finG [] [] rfl rfl (mv rfl) tv rfl
 ·refine Dz.skip (Dz.seq (Dz.seq (Dz.reg ?_)))
  refine Dz.ite rfl hF (fun _ hF => ?_) (fun _ hF => ?_)
  ·refine Dz.seq (Dz.reg (Dz.ret ?_))
   cases hF
   exact finG [] [] rfl rfl (mv rfl) tv rfl
  ·refine Dz.skip (Dz.seq (Dz.seq (Dz.reg ?_)))
   refine Dz.ite rfl hF (fun _ hF => ?_) (fun _ hF => ?_)
   ·refine Dz.seq (Dz.reg (Dz.ret ?_))
    cases hF
    exact finG [] [] rfl rfl (mv rfl) tv rfl
   ·refine Dz.skip (Dz.seq (Dz.seq (Dz.reg ?_)))
    refine Dz.ite rfl hF (fun _ hF => ?_) (fun _ hF => ?_)
    ·refine Dz.seq (Dz.reg (Dz.ret ?_))
     cases hF
     exact finG [] [] rfl rfl (mv rfl) tv rfl
    ·refine Dz.skip (Dz.seq (Dz.reg (Dz.ret ?_)))
     cases hF
     exact finG [] [] rfl rfl (mv rfl) tv rfl
def l_eqBlkPieceS (a0 : (List BlkPiece)) (a1 : (List BlkPiece)) : Option (Bool) :=
 cond (!decide (((a0.length : Nat) : Int) = ((a1.length : Nat) : Int))) (some false) (loopN (fun i3 (v8 : Unit) κ9 => lt (a0.getD i3 default) (fun x11 => ix a1 ((i3 : Nat) : Int) (fun x12 => (l_eqBlkPiece x11 x12).bind (fun y13 => cond (!y13) (some false) (κ9 ()))))) (fun (v8 : Unit) => some true) a0.length 0 ())
theorem l_eqBlkPieceS_c {t0_0 t1_0 : Bool} {a0 : (List BlkPiece)} {a1 : (List BlkPiece)} {r : Bool} (hF : l_eqBlkPieceS a0 a1 = some r) : Con Tryz.prog 107 [.val false [.u (ul BlkPiece.c 4 t0_0 a0)], .val false [.u (ul BlkPiece.c 4 t1_0 a1)]] [] (vbool r) [] := by
 refine Con.of_Dz tabOk Tryz.func107 rfl rfl rfl ?_
 delta l_eqBlkPieceS at hF
 refine Dz.seq (Dz.reg (Dz.seq (Dz.seq (Dz.reg ?_))))
 intro hb1; replace hb1 : a0.length ≤ 140737488355328 := hb1
 intro hb2; replace hb2 : a1.length ≤ 140737488355328 := hb2
 refine Dz.ite rfl hF (fun _ hF => ?_) (fun _ hF => ?_)
 ·refine Dz.seq (Dz.reg (Dz.ret ?_))
  cases hF
  exact finG [] [] rfl rfl (mv rfl) tv rfl
 ·refine Dz.skip (Dz.seq (Dz.seq (Dz.reg (Dz.blk ?_))))
  refine Dz.cnt hF (fun i3 v8 => ([(0, .val false [.u (ul BlkPiece.c 4 t0_0 a0)]), (1, .val false [.u (ul BlkPiece.c 4 t1_0 a1)]), (5, vint .i64 ((i3 : Nat) : Int))], [])) (entG [] ⟨mv rfl, mv rfl, mv rfl, tv⟩ tv rfl) (fun v8 hF => ?_) (fun i3 v8 κ9 hi0i3 hi1i3 hF => ?_)
  ·refine Dz.seq (Dz.seq (Dz.reg ?_))
   intro hb14; replace hb14 : a0.length ≤ 140737488355328 := hb14
   refine Dz.ff (b := decide (((0 + a0.length : Nat) : Int) < ((a0.length : Nat) : Int))) rfl (decide_eq_false (by omega)) ?_
   refine Dz.exit (Dz.seq (Dz.reg (Dz.ret ?_)))
   cases hF
   exact finG [] [] rfl rfl (mv rfl) tv rfl
  ·refine Dz.seq (Dz.seq (Dz.reg ?_))
   intro hb10; replace hb10 : a0.length ≤ 140737488355328 := hb10
   refine Dz.tt (b := decide (((i3 : Nat) : Int) < ((a0.length : Nat) : Int))) rfl (decide_eq_true (by omega)) ?_
   refine Dz.skip (Dz.seq (Dz.blk (Dz.seq ?_)))
   refine Dz.drw 0 [⟨[18,21,22,23,24], [], 0, 0⟩, ⟨[17,21,22,23,24], [], 0, 0⟩, ⟨[21,22,23,24], [], 0, 0⟩, ⟨[21,22,23,24], [], 0, 0⟩, ⟨[17,18,19,20,22], [], 0, 0⟩, ⟨[17,18,19,20,21], [], 0, 0⟩, ⟨[17,18,19,20], [], 0, 0⟩, ⟨[17,18,19,20], [], 0, 0⟩, ⟨[], [], 0, 0⟩, ⟨[], [], 0, 0⟩] ⟨by kernel_rfl, by kernel_rfl, rfl⟩ ?_
   refine vge (n := ((i3 : Nat) : Int)) (hi := (a0.length : Int)) (by omega) (by omega) ?_
   have hF := ltE hF
   refine vix hF (fun _ _ hF => ?_)
   refine bdE hF (fun y13 hy13 hF => ?_)
   refine callG [] (l_eqBlkPiece_c hy13) ⟨mv rfl, mv rfl, tv⟩ tv rfl ?_
   refine Dz.ite rfl hF (fun _ hF => ?_) (fun _ hF => ?_)
   ·refine Dz.seq (Dz.reg (Dz.ret ?_))
    cases hF
    exact finG [] [] rfl rfl (mv rfl) tv rfl
   ·refine Dz.skip (Dz.reg ?_)
    refine vsucc (by omega) ?_
    exact ⟨(), entG [] ⟨mv rfl, mv rfl, mv rfl, tv⟩ tv rfl, hF⟩
def l_eqBlkLast (a0 : BlkLast) (a1 : BlkLast) : Option (Bool) :=
 cond (!decide (a0.Client = a1.Client)) (some false) (cond (!decide (a0.Call = a1.Call)) (some false) (some true))
theorem l_eqBlkLast_c {a0 : BlkLast} {a1 : BlkLast} {r : Bool} (hF : l_eqBlkLast a0 a1 = some r) : Con Tryz.prog 154 [.val true (BlkLast.L a0), .val true (BlkLast.L a1)] [] (vbool r) [] := by
 refine Con.of_Dz tabOk Tryz.func154 rfl rfl rfl ?_
 delta l_eqBlkLast at hF
 refine Dz.seq (Dz.reg (Dz.seq (Dz.seq (Dz.reg ?_))))
 refine Dz.ite rfl hF (fun _ hF => ?_) (fun _ hF => ?_)
 ·refine Dz.seq (Dz.reg (Dz.ret ?_))
  cases hF
  exact finG [] [] rfl rfl (mv rfl) tv rfl
 ·refine Dz.skip (Dz.seq (Dz.seq (Dz.reg ?_)))
  refine Dz.ite rfl hF (fun _ hF => ?_) (fun _ hF => ?_)
  ·refine Dz.seq (Dz.reg (Dz.ret ?_))
   cases hF
   exact finG [] [] rfl rfl (mv rfl) tv rfl
  ·refine Dz.skip (Dz.seq (Dz.reg (Dz.ret ?_)))
   cases hF
   exact finG [] [] rfl rfl (mv rfl) tv rfl
def l_eqBlkLastS (a0 : (List BlkLast)) (a1 : (List BlkLast)) : Option (Bool) :=
 cond (!decide (((a0.length : Nat) : Int) = ((a1.length : Nat) : Int))) (some false) (loopN (fun i3 (v8 : Unit) κ9 => lt (a0.getD i3 default) (fun x11 => ix a1 ((i3 : Nat) : Int) (fun x12 => (l_eqBlkLast x11 x12).bind (fun y13 => cond (!y13) (some false) (κ9 ()))))) (fun (v8 : Unit) => some true) a0.length 0 ())
theorem l_eqBlkLastS_c {t0_0 t1_0 : Bool} {a0 : (List BlkLast)} {a1 : (List BlkLast)} {r : Bool} (hF : l_eqBlkLastS a0 a1 = some r) : Con Tryz.prog 108 [.val false [.u (ul BlkLast.c 2 t0_0 a0)], .val false [.u (ul BlkLast.c 2 t1_0 a1)]] [] (vbool r) [] := by
 refine Con.of_Dz tabOk Tryz.func108 rfl rfl rfl ?_
 delta l_eqBlkLastS at hF
 refine Dz.seq (Dz.reg (Dz.seq (Dz.seq (Dz.reg ?_))))
 intro hb1; replace hb1 : a0.length ≤ 140737488355328 := hb1
 intro hb2; replace hb2 : a1.length ≤ 140737488355328 := hb2
 refine Dz.ite rfl hF (fun _ hF => ?_) (fun _ hF => ?_)
 ·refine Dz.seq (Dz.reg (Dz.ret ?_))
  cases hF
  exact finG [] [] rfl rfl (mv rfl) tv rfl
 ·refine Dz.skip (Dz.seq (Dz.seq (Dz.reg (Dz.blk ?_))))
  refine Dz.cnt hF (fun i3 v8 => ([(0, .val false [.u (ul BlkLast.c 2 t0_0 a0)]), (1, .val false [.u (ul BlkLast.c 2 t1_0 a1)]), (5, vint .i64 ((i3 : Nat) : Int))], [])) (entG [] ⟨mv rfl, mv rfl, mv rfl, tv⟩ tv rfl) (fun v8 hF => ?_) (fun i3 v8 κ9 hi0i3 hi1i3 hF => ?_)
  ·refine Dz.seq (Dz.seq (Dz.reg ?_))
   intro hb14; replace hb14 : a0.length ≤ 140737488355328 := hb14
   refine Dz.ff (b := decide (((0 + a0.length : Nat) : Int) < ((a0.length : Nat) : Int))) rfl (decide_eq_false (by omega)) ?_
   refine Dz.exit (Dz.seq (Dz.reg (Dz.ret ?_)))
   cases hF
   exact finG [] [] rfl rfl (mv rfl) tv rfl
  ·refine Dz.seq (Dz.seq (Dz.reg ?_))
   intro hb10; replace hb10 : a0.length ≤ 140737488355328 := hb10
   refine Dz.tt (b := decide (((i3 : Nat) : Int) < ((a0.length : Nat) : Int))) rfl (decide_eq_true (by omega)) ?_
   refine Dz.skip (Dz.seq (Dz.blk (Dz.seq ?_)))
   refine Dz.drw 0 [⟨[18,21,22,23,24], [], 0, 0⟩, ⟨[17,21,22,23,24], [], 0, 0⟩, ⟨[21,22,23,24], [], 0, 0⟩, ⟨[21,22,23,24], [], 0, 0⟩, ⟨[17,18,19,20,22], [], 0, 0⟩, ⟨[17,18,19,20,21], [], 0, 0⟩, ⟨[17,18,19,20], [], 0, 0⟩, ⟨[17,18,19,20], [], 0, 0⟩, ⟨[], [], 0, 0⟩, ⟨[], [], 0, 0⟩] ⟨by kernel_rfl, by kernel_rfl, rfl⟩ ?_
   refine vge (n := ((i3 : Nat) : Int)) (hi := (a0.length : Int)) (by omega) (by omega) ?_
   have hF := ltE hF
   refine vix hF (fun _ _ hF => ?_)
   refine bdE hF (fun y13 hy13 hF => ?_)
   refine callG [] (l_eqBlkLast_c hy13) ⟨mv rfl, mv rfl, tv⟩ tv rfl ?_
   refine Dz.ite rfl hF (fun _ hF => ?_) (fun _ hF => ?_)
   ·refine Dz.seq (Dz.reg (Dz.ret ?_))
    cases hF
    exact finG [] [] rfl rfl (mv rfl) tv rfl
   ·refine Dz.skip (Dz.reg ?_)
    refine vsucc (by omega) ?_
    exact ⟨(), entG [] ⟨mv rfl, mv rfl, mv rfl, tv⟩ tv rfl, hF⟩
def l_eqSrvBusy (a0 : SrvBusy) (a1 : SrvBusy) : Option (Bool) :=
 cond (!decide (a0.Client = a1.Client)) (some false) (cond (!decide (a0.Call = a1.Call)) (some false) (cond (!decide (a0.Disk = a1.Disk)) (some false) (cond (!decide (a0.Block = a1.Block)) (some false) (cond (!decide (a0.Epoch = a1.Epoch)) (some false) (cond (!decide (a0.Data = a1.Data)) (some false) (some true))))))
theorem l_eqSrvBusy_c {a0 : SrvBusy} {a1 : SrvBusy} {r : Bool} (hF : l_eqSrvBusy a0 a1 = some r) : Con Tryz.prog 178 [.val true (SrvBusy.L a0), .val true (SrvBusy.L a1)] [] (vbool r) [] := by
 refine Con.of_Dz tabOk Tryz.func178 rfl rfl rfl ?_
 delta l_eqSrvBusy at hF
 refine Dz.seq (Dz.reg (Dz.seq (Dz.seq (Dz.reg ?_))))
 refine Dz.ite rfl hF (fun _ hF => ?_) (fun _ hF => ?_)
 ·refine Dz.seq (Dz.reg (Dz.ret ?_))
  cases hF
  exact finG [] [] rfl rfl (mv rfl) tv rfl
 ·refine Dz.skip (Dz.seq (Dz.seq (Dz.reg ?_)))
  refine Dz.ite rfl hF (fun _ hF => ?_) (fun _ hF => ?_)
  ·refine Dz.seq (Dz.reg (Dz.ret ?_))
   cases hF
   exact finG [] [] rfl rfl (mv rfl) tv rfl
  ·refine Dz.skip (Dz.seq (Dz.seq (Dz.reg ?_)))
   refine Dz.ite rfl hF (fun _ hF => ?_) (fun _ hF => ?_)
   ·refine Dz.seq (Dz.reg (Dz.ret ?_))
    cases hF
    exact finG [] [] rfl rfl (mv rfl) tv rfl
   ·refine Dz.skip (Dz.seq (Dz.seq (Dz.reg ?_)))
    refine Dz.ite rfl hF (fun _ hF => ?_) (fun _ hF => ?_)
    ·refine Dz.seq (Dz.reg (Dz.ret ?_))
     cases hF
     exact finG [] [] rfl rfl (mv rfl) tv rfl
    ·refine Dz.skip (Dz.seq (Dz.seq (Dz.reg ?_)))
     refine Dz.ite rfl hF (fun _ hF => ?_) (fun _ hF => ?_)
     ·refine Dz.seq (Dz.reg (Dz.ret ?_))
      cases hF
      exact finG [] [] rfl rfl (mv rfl) tv rfl
     ·refine Dz.skip (Dz.seq (Dz.seq (Dz.reg ?_)))
      refine Dz.ite rfl hF (fun _ hF => ?_) (fun _ hF => ?_)
      ·refine Dz.seq (Dz.reg (Dz.ret ?_))
       cases hF
       exact finG [] [] rfl rfl (mv rfl) tv rfl
      ·refine Dz.skip (Dz.seq (Dz.reg (Dz.ret ?_)))
       cases hF
       exact finG [] [] rfl rfl (mv rfl) tv rfl
def l_eqSrvBusyS (a0 : (List SrvBusy)) (a1 : (List SrvBusy)) : Option (Bool) :=
 cond (!decide (((a0.length : Nat) : Int) = ((a1.length : Nat) : Int))) (some false) (loopN (fun i3 (v8 : Unit) κ9 => lt (a0.getD i3 default) (fun x11 => ix a1 ((i3 : Nat) : Int) (fun x12 => (l_eqSrvBusy x11 x12).bind (fun y13 => cond (!y13) (some false) (κ9 ()))))) (fun (v8 : Unit) => some true) a0.length 0 ())
theorem l_eqSrvBusyS_c {t0_0 t1_0 : Bool} {a0 : (List SrvBusy)} {a1 : (List SrvBusy)} {r : Bool} (hF : l_eqSrvBusyS a0 a1 = some r) : Con Tryz.prog 173 [.val false [.u (ul SrvBusy.c 6 t0_0 a0)], .val false [.u (ul SrvBusy.c 6 t1_0 a1)]] [] (vbool r) [] := by
 refine Con.of_Dz tabOk Tryz.func173 rfl rfl rfl ?_
 delta l_eqSrvBusyS at hF
 refine Dz.seq (Dz.reg (Dz.seq (Dz.seq (Dz.reg ?_))))
 intro hb1; replace hb1 : a0.length ≤ 140737488355328 := hb1
 intro hb2; replace hb2 : a1.length ≤ 140737488355328 := hb2
 refine Dz.ite rfl hF (fun _ hF => ?_) (fun _ hF => ?_)
 ·refine Dz.seq (Dz.reg (Dz.ret ?_))
  cases hF
  exact finG [] [] rfl rfl (mv rfl) tv rfl
 ·refine Dz.skip (Dz.seq (Dz.seq (Dz.reg (Dz.blk ?_))))
  refine Dz.cnt hF (fun i3 v8 => ([(0, .val false [.u (ul SrvBusy.c 6 t0_0 a0)]), (1, .val false [.u (ul SrvBusy.c 6 t1_0 a1)]), (5, vint .i64 ((i3 : Nat) : Int))], [])) (entG [] ⟨mv rfl, mv rfl, mv rfl, tv⟩ tv rfl) (fun v8 hF => ?_) (fun i3 v8 κ9 hi0i3 hi1i3 hF => ?_)
  ·refine Dz.seq (Dz.seq (Dz.reg ?_))
   intro hb14; replace hb14 : a0.length ≤ 140737488355328 := hb14
   refine Dz.ff (b := decide (((0 + a0.length : Nat) : Int) < ((a0.length : Nat) : Int))) rfl (decide_eq_false (by omega)) ?_
   refine Dz.exit (Dz.seq (Dz.reg (Dz.ret ?_)))
   cases hF
   exact finG [] [] rfl rfl (mv rfl) tv rfl
  ·refine Dz.seq (Dz.seq (Dz.reg ?_))
   intro hb10; replace hb10 : a0.length ≤ 140737488355328 := hb10
   refine Dz.tt (b := decide (((i3 : Nat) : Int) < ((a0.length : Nat) : Int))) rfl (decide_eq_true (by omega)) ?_
   refine Dz.skip (Dz.seq (Dz.blk (Dz.seq ?_)))
   refine Dz.drw 0 [⟨[18,21,22,23,24], [], 0, 0⟩, ⟨[17,21,22,23,24], [], 0, 0⟩, ⟨[21,22,23,24], [], 0, 0⟩, ⟨[21,22,23,24], [], 0, 0⟩, ⟨[17,18,19,20,22], [], 0, 0⟩, ⟨[17,18,19,20,21], [], 0, 0⟩, ⟨[17,18,19,20], [], 0, 0⟩, ⟨[17,18,19,20], [], 0, 0⟩, ⟨[], [], 0, 0⟩, ⟨[], [], 0, 0⟩] ⟨by kernel_rfl, by kernel_rfl, rfl⟩ ?_
   refine vge (n := ((i3 : Nat) : Int)) (hi := (a0.length : Int)) (by omega) (by omega) ?_
   have hF := ltE hF
   refine vix hF (fun _ _ hF => ?_)
   refine bdE hF (fun y13 hy13 hF => ?_)
   refine callG [] (l_eqSrvBusy_c hy13) ⟨mv rfl, mv rfl, tv⟩ tv rfl ?_
   refine Dz.ite rfl hF (fun _ hF => ?_) (fun _ hF => ?_)
   ·refine Dz.seq (Dz.reg (Dz.ret ?_))
    cases hF
    exact finG [] [] rfl rfl (mv rfl) tv rfl
   ·refine Dz.skip (Dz.reg ?_)
    refine vsucc (by omega) ?_
    exact ⟨(), entG [] ⟨mv rfl, mv rfl, mv rfl, tv⟩ tv rfl, hF⟩
def l_eqSrvCopy (a0 : SrvCopy) (a1 : SrvCopy) : Option (Bool) :=
 cond (!decide (a0.Range = a1.Range)) (some false) (cond (!decide (a0.Valid = a1.Valid)) (some false) (cond (!decide (a0.Asked = a1.Asked)) (some false) ((l_eqBlkPieceS a0.Pieces a1.Pieces).bind (fun y1 => cond (!y1) (some false) ((l_eqBlkLastS a0.Last a1.Last).bind (fun y2 => cond (!y2) (some false) ((l_eqSrvBusyS a0.Busy a1.Busy).bind (fun y3 => cond (!y3) (some false) (some true)))))))))
theorem l_eqSrvCopy_c {t0_3 t0_4 t0_5 t1_3 t1_4 t1_5 : Bool} {a0 : SrvCopy} {a1 : SrvCopy} {r : Bool} (hF : l_eqSrvCopy a0 a1 = some r) : Con Tryz.prog 149 [.val true [.u (cI a0.Range), .u (cI a0.Valid), .u (cI a0.Asked), .u (ul BlkPiece.c 4 t0_3 a0.Pieces), .u (ul BlkLast.c 2 t0_4 a0.Last), .u (ul SrvBusy.c 6 t0_5 a0.Busy)], .val true [.u (cI a1.Range), .u (cI a1.Valid), .u (cI a1.Asked), .u (ul BlkPiece.c 4 t1_3 a1.Pieces), .u (ul BlkLast.c 2 t1_4 a1.Last), .u (ul SrvBusy.c 6 t1_5 a1.Busy)]] [] (vbool r) [] := by
 refine Con.of_Dz tabOk Tryz.func149 rfl rfl rfl ?_
 delta l_eqSrvCopy at hF
 refine Dz.seq (Dz.reg (Dz.seq (Dz.seq (Dz.reg ?_))))
 refine Dz.ite rfl hF (fun _ hF => ?_) (fun _ hF => ?_)
 ·refine Dz.seq (Dz.reg (Dz.ret ?_))
  cases hF
  exact finG [] [] rfl rfl (mv rfl) tv rfl
 ·refine Dz.skip (Dz.seq (Dz.seq (Dz.reg ?_)))
  refine Dz.ite rfl hF (fun _ hF => ?_) (fun _ hF => ?_)
  ·refine Dz.seq (Dz.reg (Dz.ret ?_))
   cases hF
   exact finG [] [] rfl rfl (mv rfl) tv rfl
  ·refine Dz.skip (Dz.seq (Dz.seq (Dz.reg ?_)))
   refine Dz.ite rfl hF (fun _ hF => ?_) (fun _ hF => ?_)
   ·refine Dz.seq (Dz.reg (Dz.ret ?_))
    cases hF
    exact finG [] [] rfl rfl (mv rfl) tv rfl
   ·refine Dz.skip (Dz.seq (Dz.seq (Dz.reg ?_)))
    refine bdE hF (fun y1 hy1 hF => ?_)
    refine callG [] (l_eqBlkPieceS_c hy1) ⟨mv rfl, mv rfl, tv⟩ tv rfl ?_
    refine Dz.ite rfl hF (fun _ hF => ?_) (fun _ hF => ?_)
    ·refine Dz.seq (Dz.reg (Dz.ret ?_))
     cases hF
     exact finG [] [] rfl rfl (mv rfl) tv rfl
    ·refine Dz.skip (Dz.seq (Dz.seq (Dz.reg ?_)))
     refine bdE hF (fun y2 hy2 hF => ?_)
     refine callG [] (l_eqBlkLastS_c hy2) ⟨mv rfl, mv rfl, tv⟩ tv rfl ?_
     refine Dz.ite rfl hF (fun _ hF => ?_) (fun _ hF => ?_)
     ·refine Dz.seq (Dz.reg (Dz.ret ?_))
      cases hF
      exact finG [] [] rfl rfl (mv rfl) tv rfl
     ·refine Dz.skip (Dz.seq (Dz.seq (Dz.reg ?_)))
      refine bdE hF (fun y3 hy3 hF => ?_)
      refine callG [] (l_eqSrvBusyS_c hy3) ⟨mv rfl, mv rfl, tv⟩ tv rfl ?_
      refine Dz.ite rfl hF (fun _ hF => ?_) (fun _ hF => ?_)
      ·refine Dz.seq (Dz.reg (Dz.ret ?_))
       cases hF
       exact finG [] [] rfl rfl (mv rfl) tv rfl
      ·refine Dz.skip (Dz.seq (Dz.reg (Dz.ret ?_)))
       cases hF
       exact finG [] [] rfl rfl (mv rfl) tv rfl
def l_eqSrvCopyS (a0 : (List SrvCopy)) (a1 : (List SrvCopy)) : Option (Bool) :=
 cond (!decide (((a0.length : Nat) : Int) = ((a1.length : Nat) : Int))) (some false) (loopN (fun i3 (v8 : Unit) κ9 => lt (a0.getD i3 default) (fun x11 => ix a1 ((i3 : Nat) : Int) (fun x12 => (l_eqSrvCopy x11 x12).bind (fun y13 => cond (!y13) (some false) (κ9 ()))))) (fun (v8 : Unit) => some true) a0.length 0 ())
theorem l_eqSrvCopyS_c {t0_0 t1_0 : Bool} {a0 : (List SrvCopy)} {a1 : (List SrvCopy)} {r : Bool} (hF : l_eqSrvCopyS a0 a1 = some r) : Con Tryz.prog 103 [.val false [.u (ul SrvCopy.c 6 t0_0 a0)], .val false [.u (ul SrvCopy.c 6 t1_0 a1)]] [] (vbool r) [] := by
 refine Con.of_Dz tabOk Tryz.func103 rfl rfl rfl ?_
 delta l_eqSrvCopyS at hF
 refine Dz.seq (Dz.reg (Dz.seq (Dz.seq (Dz.reg ?_))))
 intro hb1; replace hb1 : a0.length ≤ 140737488355328 := hb1
 intro hb2; replace hb2 : a1.length ≤ 140737488355328 := hb2
 refine Dz.ite rfl hF (fun _ hF => ?_) (fun _ hF => ?_)
 ·refine Dz.seq (Dz.reg (Dz.ret ?_))
  cases hF
  exact finG [] [] rfl rfl (mv rfl) tv rfl
 ·refine Dz.skip (Dz.seq (Dz.seq (Dz.reg (Dz.blk ?_))))
  refine Dz.cnt hF (fun i3 v8 => ([(0, .val false [.u (ul SrvCopy.c 6 t0_0 a0)]), (1, .val false [.u (ul SrvCopy.c 6 t1_0 a1)]), (5, vint .i64 ((i3 : Nat) : Int))], [])) (entG [] ⟨mv rfl, mv rfl, mv rfl, tv⟩ tv rfl) (fun v8 hF => ?_) (fun i3 v8 κ9 hi0i3 hi1i3 hF => ?_)
  ·refine Dz.seq (Dz.seq (Dz.reg ?_))
   intro hb14; replace hb14 : a0.length ≤ 140737488355328 := hb14
   refine Dz.ff (b := decide (((0 + a0.length : Nat) : Int) < ((a0.length : Nat) : Int))) rfl (decide_eq_false (by omega)) ?_
   refine Dz.exit (Dz.seq (Dz.reg (Dz.ret ?_)))
   cases hF
   exact finG [] [] rfl rfl (mv rfl) tv rfl
  ·refine Dz.seq (Dz.seq (Dz.reg ?_))
   intro hb10; replace hb10 : a0.length ≤ 140737488355328 := hb10
   refine Dz.tt (b := decide (((i3 : Nat) : Int) < ((a0.length : Nat) : Int))) rfl (decide_eq_true (by omega)) ?_
   refine Dz.skip (Dz.seq (Dz.blk (Dz.seq ?_)))
   refine Dz.drw 0 [⟨[18,21,22,23,24], [], 0, 0⟩, ⟨[17,21,22,23,24], [], 0, 0⟩, ⟨[21,22,23,24], [], 0, 0⟩, ⟨[21,22,23,24], [], 0, 0⟩, ⟨[17,18,19,20,22], [], 0, 0⟩, ⟨[17,18,19,20,21], [], 0, 0⟩, ⟨[17,18,19,20], [], 0, 0⟩, ⟨[17,18,19,20], [], 0, 0⟩, ⟨[], [], 0, 0⟩, ⟨[], [], 0, 0⟩] ⟨by kernel_rfl, by kernel_rfl, rfl⟩ ?_
   refine vge (n := ((i3 : Nat) : Int)) (hi := (a0.length : Int)) (by omega) (by omega) ?_
   have hF := ltE hF
   refine vix hF (fun _ _ hF => ?_)
   refine bdE hF (fun y13 hy13 hF => ?_)
   refine callG [] (l_eqSrvCopy_c hy13) ⟨mv rfl, mv rfl, tv⟩ tv rfl ?_
   refine Dz.ite rfl hF (fun _ hF => ?_) (fun _ hF => ?_)
   ·refine Dz.seq (Dz.reg (Dz.ret ?_))
    cases hF
    exact finG [] [] rfl rfl (mv rfl) tv rfl
   ·refine Dz.skip (Dz.reg ?_)
    refine vsucc (by omega) ?_
    exact ⟨(), entG [] ⟨mv rfl, mv rfl, mv rfl, tv⟩ tv rfl, hF⟩
def l_eqIntS (a0 : (List Int)) (a1 : (List Int)) : Option (Bool) :=
 cond (!decide (((a0.length : Nat) : Int) = ((a1.length : Nat) : Int))) (some false) (loopN (fun i3 (v6 : Unit) κ7 => ix a1 ((i3 : Nat) : Int) (fun x9 => cond (!decide ((a0.getD i3 default) = x9)) (some false) (κ7 ()))) (fun (v6 : Unit) => some true) a0.length 0 ())
theorem l_eqIntS_c {t0_0 t1_0 : Bool} {a0 : (List Int)} {a1 : (List Int)} {r : Bool} (hF : l_eqIntS a0 a1 = some r) : Con Tryz.prog 151 [.val false [.u (ul cInt 1 t0_0 a0)], .val false [.u (ul cInt 1 t1_0 a1)]] [] (vbool r) [] := by
 refine Con.of_Dz tabOk Tryz.func151 rfl rfl rfl ?_
 delta l_eqIntS at hF
 refine Dz.seq (Dz.reg (Dz.seq (Dz.seq (Dz.reg ?_))))
 intro hb1; replace hb1 : a0.length ≤ 140737488355328 := hb1
 intro hb2; replace hb2 : a1.length ≤ 140737488355328 := hb2
 refine Dz.ite rfl hF (fun _ hF => ?_) (fun _ hF => ?_)
 ·refine Dz.seq (Dz.reg (Dz.ret ?_))
  cases hF
  exact finG [] [] rfl rfl (mv rfl) tv rfl
 ·refine Dz.skip (Dz.seq (Dz.seq (Dz.reg (Dz.blk ?_))))
  refine Dz.cnt hF (fun i3 v6 => ([(0, .val false [.u (ul cInt 1 t0_0 a0)]), (1, .val false [.u (ul cInt 1 t1_0 a1)]), (5, vint .i64 ((i3 : Nat) : Int))], [])) (entG [] ⟨mv rfl, mv rfl, mv rfl, tv⟩ tv rfl) (fun v6 hF => ?_) (fun i3 v6 κ7 hi0i3 hi1i3 hF => ?_)
  ·refine Dz.seq (Dz.seq (Dz.reg ?_))
   intro hb10; replace hb10 : a0.length ≤ 140737488355328 := hb10
   refine Dz.ff (b := decide (((0 + a0.length : Nat) : Int) < ((a0.length : Nat) : Int))) rfl (decide_eq_false (by omega)) ?_
   refine Dz.exit (Dz.seq (Dz.reg (Dz.ret ?_)))
   cases hF
   exact finG [] [] rfl rfl (mv rfl) tv rfl
  ·refine Dz.seq (Dz.seq (Dz.reg ?_))
   intro hb8; replace hb8 : a0.length ≤ 140737488355328 := hb8
   refine Dz.tt (b := decide (((i3 : Nat) : Int) < ((a0.length : Nat) : Int))) rfl (decide_eq_true (by omega)) ?_
   refine Dz.skip (Dz.seq (Dz.blk (Dz.seq ?_)))
   refine Dz.drw 0 [⟨[18,21,22,23,24], [], 0, 0⟩, ⟨[17,21,22,23,24], [], 0, 0⟩, ⟨[21,22,23,24], [], 0, 0⟩, ⟨[21,22,23,24], [], 0, 0⟩, ⟨[17,18,19,20,22], [], 0, 0⟩, ⟨[17,18,19,20,21], [], 0, 0⟩, ⟨[17,18,19,20], [], 0, 0⟩, ⟨[17,18,19,20], [], 0, 0⟩, ⟨[], [], 0, 0⟩] ⟨by kernel_rfl, by kernel_rfl, rfl⟩ ?_
   refine vge (n := ((i3 : Nat) : Int)) (hi := (a0.length : Int)) (by omega) (by omega) ?_
   refine vix hF (fun _ _ hF => ?_)
   refine Dz.ite rfl hF (fun _ hF => ?_) (fun _ hF => ?_)
   ·refine Dz.seq (Dz.reg (Dz.ret ?_))
    cases hF
    exact finG [] [] rfl rfl (mv rfl) tv rfl
   ·refine Dz.skip (Dz.reg ?_)
    refine vsucc (by omega) ?_
    exact ⟨(), entG [] ⟨mv rfl, mv rfl, mv rfl, tv⟩ tv rfl, hF⟩
def l_eqSynSeeker (a0 : SynSeeker) (a1 : SynSeeker) : Option (Bool) :=
 cond (!decide (a0.Slot = a1.Slot)) (some false) (cond (!decide (a0.Ballot = a1.Ballot)) (some false) (cond (!decide (a0.Phase = a1.Phase)) (some false) ((l_eqCmd a0.Mine a1.Mine).bind (fun y1 => cond (!y1) (some false) ((l_eqSynPaper a0.Best a1.Best).bind (fun y2 => cond (!y2) (some false) ((l_eqIntS a0.Yes a1.Yes).bind (fun y3 => cond (!y3) (some false) (some true)))))))))
theorem l_eqSynSeeker_c {t0_25 t1_25 : Bool} {a0 : SynSeeker} {a1 : SynSeeker} {r : Bool} (hF : l_eqSynSeeker a0 a1 = some r) : Con Tryz.prog 104 [.val true [.u (cI a0.Slot), .u (cI a0.Ballot), .u (cI a0.Phase), .u (cI a0.Mine.Kind), .u (cI a0.Mine.Client), .u (cI a0.Mine.Call), .u (cI a0.Mine.Disk), .u (cI a0.Mine.Arg), .u (cI a0.Mine.Epoch), .u (cI a0.Mine.Range), .u (cI a0.Mine.Num), .u (cI a0.Mine.A), .u (cI a0.Mine.B), .u (cI a0.Best.Slot), .u (cI a0.Best.Ballot), .u (cI a0.Best.Cmd.Kind), .u (cI a0.Best.Cmd.Client), .u (cI a0.Best.Cmd.Call), .u (cI a0.Best.Cmd.Disk), .u (cI a0.Best.Cmd.Arg), .u (cI a0.Best.Cmd.Epoch), .u (cI a0.Best.Cmd.Range), .u (cI a0.Best.Cmd.Num), .u (cI a0.Best.Cmd.A), .u (cI a0.Best.Cmd.B), .u (ul cInt 1 t0_25 a0.Yes)], .val true [.u (cI a1.Slot), .u (cI a1.Ballot), .u (cI a1.Phase), .u (cI a1.Mine.Kind), .u (cI a1.Mine.Client), .u (cI a1.Mine.Call), .u (cI a1.Mine.Disk), .u (cI a1.Mine.Arg), .u (cI a1.Mine.Epoch), .u (cI a1.Mine.Range), .u (cI a1.Mine.Num), .u (cI a1.Mine.A), .u (cI a1.Mine.B), .u (cI a1.Best.Slot), .u (cI a1.Best.Ballot), .u (cI a1.Best.Cmd.Kind), .u (cI a1.Best.Cmd.Client), .u (cI a1.Best.Cmd.Call), .u (cI a1.Best.Cmd.Disk), .u (cI a1.Best.Cmd.Arg), .u (cI a1.Best.Cmd.Epoch), .u (cI a1.Best.Cmd.Range), .u (cI a1.Best.Cmd.Num), .u (cI a1.Best.Cmd.A), .u (cI a1.Best.Cmd.B), .u (ul cInt 1 t1_25 a1.Yes)]] [] (vbool r) [] := by
 refine Con.of_Dz tabOk Tryz.func104 rfl rfl rfl ?_
 delta l_eqSynSeeker at hF
 refine Dz.seq (Dz.reg (Dz.seq (Dz.seq (Dz.reg ?_))))
 refine Dz.ite rfl hF (fun _ hF => ?_) (fun _ hF => ?_)
 ·refine Dz.seq (Dz.reg (Dz.ret ?_))
  cases hF
  exact finG [] [] rfl rfl (mv rfl) tv rfl
 ·refine Dz.skip (Dz.seq (Dz.seq (Dz.reg ?_)))
  refine Dz.ite rfl hF (fun _ hF => ?_) (fun _ hF => ?_)
  ·refine Dz.seq (Dz.reg (Dz.ret ?_))
   cases hF
   exact finG [] [] rfl rfl (mv rfl) tv rfl
  ·refine Dz.skip (Dz.seq (Dz.seq (Dz.reg ?_)))
   refine Dz.ite rfl hF (fun _ hF => ?_) (fun _ hF => ?_)
   ·refine Dz.seq (Dz.reg (Dz.ret ?_))
    cases hF
    exact finG [] [] rfl rfl (mv rfl) tv rfl
   ·refine Dz.skip (Dz.seq (Dz.seq (Dz.reg ?_)))
    refine bdE hF (fun y1 hy1 hF => ?_)
    refine callG [] (l_eqCmd_c hy1) ⟨mv rfl, mv rfl, tv⟩ tv rfl ?_
    refine Dz.ite rfl hF (fun _ hF => ?_) (fun _ hF => ?_)
    ·refine Dz.seq (Dz.reg (Dz.ret ?_))
     cases hF
     exact finG [] [] rfl rfl (mv rfl) tv rfl
    ·refine Dz.skip (Dz.seq (Dz.seq (Dz.reg ?_)))
     refine bdE hF (fun y2 hy2 hF => ?_)
     refine callG [] (l_eqSynPaper_c hy2) ⟨mv rfl, mv rfl, tv⟩ tv rfl ?_
     refine Dz.ite rfl hF (fun _ hF => ?_) (fun _ hF => ?_)
     ·refine Dz.seq (Dz.reg (Dz.ret ?_))
      cases hF
      exact finG [] [] rfl rfl (mv rfl) tv rfl
     ·refine Dz.skip (Dz.seq (Dz.seq (Dz.reg ?_)))
      refine bdE hF (fun y3 hy3 hF => ?_)
      refine callG [] (l_eqIntS_c hy3) ⟨mv rfl, mv rfl, tv⟩ tv rfl ?_
      refine Dz.ite rfl hF (fun _ hF => ?_) (fun _ hF => ?_)
      ·refine Dz.seq (Dz.reg (Dz.ret ?_))
       cases hF
       exact finG [] [] rfl rfl (mv rfl) tv rfl
      ·refine Dz.skip (Dz.seq (Dz.reg (Dz.ret ?_)))
       cases hF
       exact finG [] [] rfl rfl (mv rfl) tv rfl
def l_eqSrvDoing (a0 : SrvDoing) (a1 : SrvDoing) : Option (Bool) :=
 cond (!decide (a0.Range = a1.Range)) (some false) (cond (!decide (a0.View = a1.View)) (some false) (cond (!(a0.Write == a1.Write)) (some false) (cond (!decide (a0.Client = a1.Client)) (some false) (cond (!decide (a0.Call = a1.Call)) (some false) (cond (!decide (a0.Disk = a1.Disk)) (some false) (cond (!decide (a0.Block = a1.Block)) (some false) (cond (!decide (a0.Epoch = a1.Epoch)) (some false) (some true))))))))
theorem l_eqSrvDoing_c {a0 : SrvDoing} {a1 : SrvDoing} {r : Bool} (hF : l_eqSrvDoing a0 a1 = some r) : Con Tryz.prog 152 [.val true (SrvDoing.L a0), .val true (SrvDoing.L a1)] [] (vbool r) [] := by
 refine Con.of_Dz tabOk Tryz.func152 rfl rfl rfl ?_
 delta l_eqSrvDoing at hF
 refine Dz.seq (Dz.reg (Dz.seq (Dz.seq (Dz.reg ?_))))
 refine Dz.ite rfl hF (fun _ hF => ?_) (fun _ hF => ?_)
 ·refine Dz.seq (Dz.reg (Dz.ret ?_))
  cases hF
  exact finG [] [] rfl rfl (mv rfl) tv rfl
 ·refine Dz.skip (Dz.seq (Dz.seq (Dz.reg ?_)))
  refine Dz.ite rfl hF (fun _ hF => ?_) (fun _ hF => ?_)
  ·refine Dz.seq (Dz.reg (Dz.ret ?_))
   cases hF
   exact finG [] [] rfl rfl (mv rfl) tv rfl
  ·refine Dz.skip (Dz.seq (Dz.seq (Dz.reg ?_)))
   refine Dz.ite rfl hF (fun _ hF => ?_) (fun _ hF => ?_)
   ·refine Dz.seq (Dz.reg (Dz.ret ?_))
    cases hF
    exact finG [] [] rfl rfl (mv rfl) tv rfl
   ·refine Dz.skip (Dz.seq (Dz.seq (Dz.reg ?_)))
    refine Dz.ite rfl hF (fun _ hF => ?_) (fun _ hF => ?_)
    ·refine Dz.seq (Dz.reg (Dz.ret ?_))
     cases hF
     exact finG [] [] rfl rfl (mv rfl) tv rfl
    ·refine Dz.skip (Dz.seq (Dz.seq (Dz.reg ?_)))
     refine Dz.ite rfl hF (fun _ hF => ?_) (fun _ hF => ?_)
     ·refine Dz.seq (Dz.reg (Dz.ret ?_))
      cases hF
      exact finG [] [] rfl rfl (mv rfl) tv rfl
     ·refine Dz.skip (Dz.seq (Dz.seq (Dz.reg ?_)))
      refine Dz.ite rfl hF (fun _ hF => ?_) (fun _ hF => ?_)
      ·refine Dz.seq (Dz.reg (Dz.ret ?_))
       cases hF
       exact finG [] [] rfl rfl (mv rfl) tv rfl
      ·refine Dz.skip (Dz.seq (Dz.seq (Dz.reg ?_)))
       refine Dz.ite rfl hF (fun _ hF => ?_) (fun _ hF => ?_)
       ·refine Dz.seq (Dz.reg (Dz.ret ?_))
        cases hF
        exact finG [] [] rfl rfl (mv rfl) tv rfl
       ·refine Dz.skip (Dz.seq (Dz.seq (Dz.reg ?_)))
        refine Dz.ite rfl hF (fun _ hF => ?_) (fun _ hF => ?_)
        ·refine Dz.seq (Dz.reg (Dz.ret ?_))
         cases hF
         exact finG [] [] rfl rfl (mv rfl) tv rfl
        ·refine Dz.skip (Dz.seq (Dz.reg (Dz.ret ?_)))
         cases hF
         exact finG [] [] rfl rfl (mv rfl) tv rfl
def l_eqSrvDoingS (a0 : (List SrvDoing)) (a1 : (List SrvDoing)) : Option (Bool) :=
 cond (!decide (((a0.length : Nat) : Int) = ((a1.length : Nat) : Int))) (some false) (loopN (fun i3 (v8 : Unit) κ9 => lt (a0.getD i3 default) (fun x11 => ix a1 ((i3 : Nat) : Int) (fun x12 => (l_eqSrvDoing x11 x12).bind (fun y13 => cond (!y13) (some false) (κ9 ()))))) (fun (v8 : Unit) => some true) a0.length 0 ())
theorem l_eqSrvDoingS_c {t0_0 t1_0 : Bool} {a0 : (List SrvDoing)} {a1 : (List SrvDoing)} {r : Bool} (hF : l_eqSrvDoingS a0 a1 = some r) : Con Tryz.prog 105 [.val false [.u (ul SrvDoing.c 8 t0_0 a0)], .val false [.u (ul SrvDoing.c 8 t1_0 a1)]] [] (vbool r) [] := by
 refine Con.of_Dz tabOk Tryz.func105 rfl rfl rfl ?_
 delta l_eqSrvDoingS at hF
 refine Dz.seq (Dz.reg (Dz.seq (Dz.seq (Dz.reg ?_))))
 intro hb1; replace hb1 : a0.length ≤ 140737488355328 := hb1
 intro hb2; replace hb2 : a1.length ≤ 140737488355328 := hb2
 refine Dz.ite rfl hF (fun _ hF => ?_) (fun _ hF => ?_)
 ·refine Dz.seq (Dz.reg (Dz.ret ?_))
  cases hF
  exact finG [] [] rfl rfl (mv rfl) tv rfl
 ·refine Dz.skip (Dz.seq (Dz.seq (Dz.reg (Dz.blk ?_))))
  refine Dz.cnt hF (fun i3 v8 => ([(0, .val false [.u (ul SrvDoing.c 8 t0_0 a0)]), (1, .val false [.u (ul SrvDoing.c 8 t1_0 a1)]), (5, vint .i64 ((i3 : Nat) : Int))], [])) (entG [] ⟨mv rfl, mv rfl, mv rfl, tv⟩ tv rfl) (fun v8 hF => ?_) (fun i3 v8 κ9 hi0i3 hi1i3 hF => ?_)
  ·refine Dz.seq (Dz.seq (Dz.reg ?_))
   intro hb14; replace hb14 : a0.length ≤ 140737488355328 := hb14
   refine Dz.ff (b := decide (((0 + a0.length : Nat) : Int) < ((a0.length : Nat) : Int))) rfl (decide_eq_false (by omega)) ?_
   refine Dz.exit (Dz.seq (Dz.reg (Dz.ret ?_)))
   cases hF
   exact finG [] [] rfl rfl (mv rfl) tv rfl
  ·refine Dz.seq (Dz.seq (Dz.reg ?_))
   intro hb10; replace hb10 : a0.length ≤ 140737488355328 := hb10
   refine Dz.tt (b := decide (((i3 : Nat) : Int) < ((a0.length : Nat) : Int))) rfl (decide_eq_true (by omega)) ?_
   refine Dz.skip (Dz.seq (Dz.blk (Dz.seq ?_)))
   refine Dz.drw 0 [⟨[18,21,22,23,24], [], 0, 0⟩, ⟨[17,21,22,23,24], [], 0, 0⟩, ⟨[21,22,23,24], [], 0, 0⟩, ⟨[21,22,23,24], [], 0, 0⟩, ⟨[17,18,19,20,22], [], 0, 0⟩, ⟨[17,18,19,20,21], [], 0, 0⟩, ⟨[17,18,19,20], [], 0, 0⟩, ⟨[17,18,19,20], [], 0, 0⟩, ⟨[], [], 0, 0⟩, ⟨[], [], 0, 0⟩] ⟨by kernel_rfl, by kernel_rfl, rfl⟩ ?_
   refine vge (n := ((i3 : Nat) : Int)) (hi := (a0.length : Int)) (by omega) (by omega) ?_
   have hF := ltE hF
   refine vix hF (fun _ _ hF => ?_)
   refine bdE hF (fun y13 hy13 hF => ?_)
   refine callG [] (l_eqSrvDoing_c hy13) ⟨mv rfl, mv rfl, tv⟩ tv rfl ?_
   refine Dz.ite rfl hF (fun _ hF => ?_) (fun _ hF => ?_)
   ·refine Dz.seq (Dz.reg (Dz.ret ?_))
    cases hF
    exact finG [] [] rfl rfl (mv rfl) tv rfl
   ·refine Dz.skip (Dz.reg ?_)
    refine vsucc (by omega) ?_
    exact ⟨(), entG [] ⟨mv rfl, mv rfl, mv rfl, tv⟩ tv rfl, hF⟩
end Go.Proofs.PanB
