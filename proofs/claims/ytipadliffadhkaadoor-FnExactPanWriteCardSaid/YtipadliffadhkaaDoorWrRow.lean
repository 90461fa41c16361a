/- The law FnExactPanWrite returns true for every input: the program's PanWrite returns what the reference's PanWrite returns. No condition beyond the statement's own. -/
import Derived.Test.YtipadliffadhkaaDoorWrC
import Derived.Test.YtipadliffadhkaaDoorCards
import Derived.Test.YtipadliffadhkaaDoorTie
import Derived.Deep.DeepHandedRow
import Derived.Lib.LaidTab
import Derived.Stop.LaidErr
set_option linter.unusedVariables false
set_option linter.unusedSimpArgs false
set_option linter.unusedSectionVars false
/-! The row of FnExactPanWrite. -/
namespace Go.Proofs.YtipadliffadhkaaDoor.fnExactPanWrite
open Go.Vs Go.Proofs.PanL
open Go.ChangeShapes Go.WideShapes Go.ChangeAt Go.RowKit
set_option linter.unusedVariables false
theorem rd_3 : Rd Tryd.prog 3 cInt 1 okI := rd_int Tryd.underlying3
theorem rd_4 : Rd Tryd.prog 4 cBool 1 okT := rd_bool Tryd.underlying4
structure PanEvent.ok (x : PanEvent) : Prop where
  Kind : okI x.Kind
  Server : okI x.Server
  Other : okI x.Other
  Client : okI x.Client
  Word : okI x.Word
  Keep : okT x.Keep
  Range : okI x.Range
  Op : okI x.Op
  Disk : okI x.Disk
  Block : okI x.Block
  Epoch : okI x.Epoch
  Data : okI x.Data
theorem rd_53 : Rd Tryd.prog 53 PanEvent.c 12 PanEvent.ok := by
  intro H enc w fuel cs x h hw0
  obtain ⟨hl, hf⟩ := struct_us Tryd.underlying53 h hw0
  obtain ⟨_, _, h0, w0⟩ := hf 0 _ rfl
  obtain ⟨a0, k0, _, r0⟩ := rd_3 h0 w0
  obtain ⟨_, _, h1, w1⟩ := hf 1 _ rfl
  obtain ⟨a1, k1, _, r1⟩ := rd_3 h1 w1
  obtain ⟨_, _, h2, w2⟩ := hf 2 _ rfl
  obtain ⟨a2, k2, _, r2⟩ := rd_3 h2 w2
  obtain ⟨_, _, h3, w3⟩ := hf 3 _ rfl
  obtain ⟨a3, k3, _, r3⟩ := rd_3 h3 w3
  obtain ⟨_, _, h4, w4⟩ := hf 4 _ rfl
  obtain ⟨a4, k4, _, r4⟩ := rd_3 h4 w4
  obtain ⟨_, _, h5, w5⟩ := hf 5 _ rfl
  obtain ⟨a5, k5, _, r5⟩ := rd_4 h5 w5
  obtain ⟨_, _, h6, w6⟩ := hf 6 _ rfl
  obtain ⟨a6, k6, _, r6⟩ := rd_3 h6 w6
  obtain ⟨_, _, h7, w7⟩ := hf 7 _ rfl
  obtain ⟨a7, k7, _, r7⟩ := rd_3 h7 w7
  obtain ⟨_, _, h8, w8⟩ := hf 8 _ rfl
  obtain ⟨a8, k8, _, r8⟩ := rd_3 h8 w8
  obtain ⟨_, _, h9, w9⟩ := hf 9 _ rfl
  obtain ⟨a9, k9, _, r9⟩ := rd_3 h9 w9
  obtain ⟨_, _, h10, w10⟩ := hf 10 _ rfl
  obtain ⟨a10, k10, _, r10⟩ := rd_3 h10 w10
  obtain ⟨_, _, h11, w11⟩ := hf 11 _ rfl
  obtain ⟨a11, k11, _, r11⟩ := rd_3 h11 w11
  refine ⟨⟨a0, a1, a2, a3, a4, a5, a6, a7, a8, a9, a10, a11⟩, ⟨k0, k1, k2, k3, k4, k5, k6, k7, k8, k9, k10, k11⟩, hl.trans (by kernel_rfl), fun j hj => ?_⟩
  match j, hj with
  | 0, _ => exact rdf (o := 0) (r0 0 (by decide))
  | 1, _ => exact rdf (o := 1) (r1 0 (by decide))
  | 2, _ => exact rdf (o := 2) (r2 0 (by decide))
  | 3, _ => exact rdf (o := 3) (r3 0 (by decide))
  | 4, _ => exact rdf (o := 4) (r4 0 (by decide))
  | 5, _ => exact rdf (o := 5) (r5 0 (by decide))
  | 6, _ => exact rdf (o := 6) (r6 0 (by decide))
  | 7, _ => exact rdf (o := 7) (r7 0 (by decide))
  | 8, _ => exact rdf (o := 8) (r8 0 (by decide))
  | 9, _ => exact rdf (o := 9) (r9 0 (by decide))
  | 10, _ => exact rdf (o := 10) (r10 0 (by decide))
  | 11, _ => exact rdf (o := 11) (r11 0 (by decide))
theorem rd_22 : Rd Tryd.prog 22 (fun (L : List PanEvent) _ => ul PanEvent.c 12 false L) 1 (okL 96 PanEvent.ok) := rd_slice (e := 53) Tryd.underlying22 (by kernel_rfl) (by decide) (by kernel_rfl) (by decide) rd_53
theorem own : ownKnob Tryd.prog.godebug = none := by kernel_rfl
theorem laidOut : laidOutB Tryd.prog = true := by kernel_rfl
theorem gTab : Tryd.prog.globalNamed "internal/strconv.uint64pow10" = some 1 := by kernel_rfl
theorem gTabType : (Tryd.prog.globals[1]?).map (·.type) = some 158 := by kernel_rfl
theorem cellsT : Tryd.prog.cellsOf 158 = 20 := by kernel_rfl
theorem cellsE : Tryd.prog.cellsOf 140 = 1 := by kernel_rfl
theorem table {W : World} (h : laidMetH Tryd.prog Rows.fnExactPanWriteRow.laid W) : Lib.TabIs Tryd.prog W "internal/strconv.uint64pow10" .u64 Lib.pow10Tab := by
  have h0 : laidMet Tryd.prog [("math/bits.deBruijn32tab", Rows.laid_math_bits_deBruijn32tab), ("math/bits.deBruijn64tab", Rows.laid_math_bits_deBruijn64tab), ("internal/strconv.uint64pow10", Rows.laid_internal_strconv_uint64pow10)] W := h
  have h1 := laidMet.tail h0
  have h2 := laidMet.tail h1
  exact Lib.tabIs_of_head (rest := []) gTab gTabType Tryd.underlying158 Tryd.underlying140 cellsE cellsT h2
set_option maxRecDepth 100000 in
theorem contract (H : Type) (enc : TypeId × Value → H) (W : World) (base : Nat) (args : Array Value) (ds gs : List (DataW H)) (before : List MemPlace)
    (hval : ∀ (j : Nat) t v, Tryd.f3.params[j]? = some t → args[j]? = some v → Value.okWide Tryd.prog W .any base t v)
    (hW : DataW.Whole enc Tryd.prog Tryd.f3.params.toList Rows.fnExactPanWriteSpec.vars false W args.toList ds gs before)
    (hsz : (DataW.weightsEach Tryd.prog (Tryd.f3.params.toList ++ Rows.fnExactPanWriteSpec.plain.varTypes Tryd.prog) (ds ++ gs)).all (· ≤ reachBytes) = true) (hL : laidMetH Tryd.prog Rows.fnExactPanWriteRow.laid W) :
    Calls Tryd.prog 3 args W fun e W' => ∃ v, e = .returned v ∧ Rows.fnExactPanWriteSpec.post enc Tryd.prog Tryd.f3 false true false false W args v W' := by
  have hW' := hW
  obtain ⟨p, q, hA0, hV, rfl, hfz, hnd⟩ := hW
  have hA : DataW.TrodAll enc Tryd.prog W 0 (fun _ => true) true Tryd.f3.params.toList args.toList ds p := hA0
  have hkeep := hA
  rw [Tryd.params3] at hA hval
  obtain ⟨v0, vs0, d0, ds0, p0, q0, hargs0, hds0, rfl, h0, r0⟩ := trodAll_cons hA
  obtain ⟨e1, e2, rfl⟩ := trodAll_nil r0
  subst e1; subst e2; subst hds0
  obtain rfl : args = #[v0] := by cases args; simp_all
  obtain ⟨rfl, rfl⟩ := trodVars_none hV
  have w0 : ∀ n ∈ DataW.weights Tryd.prog 22 d0, n ≤ reachBytes := fun n hn => by have := List.all_eq_true.1 hsz n (DataW.weights_mem_each (j := 0) (t := 22) (d := d0) rfl rfl n hn); simpa using this
  have c0 : v0.cells = #[v0] := by
    obtain ⟨x, l, c, rfl⟩ := okWide_slice Tryd.underlying22 (hval 0 22 v0 rfl rfl)
    rfl
  obtain ⟨a0, k0, s0⟩ := rs_one rd_22 h0 w0 c0
  simp only [List.append_nil] at hW'
  have hpure := law_PanWrite a0 (okL_len (by decide) k0)
  refine ((Con.run (vals := [v0]) (l_FnExactPanWrite_c hpure) (Lib.tabBelow_of_tabIs (table hL)) ⟨s0, trivial⟩)).mono fun e W' ⟨he, hb⟩ => ?_
  subst he
  have ht : ∀ t ∈ Tryd.f3.params.toList, Tryd.prog.readableRec t = true ∧ t < Tryd.prog.types.size := by rw [Tryd.params3]; intro t ht; simp at ht; rcases ht with rfl <;> exact ⟨by kernel_rfl, of_decide_eq_true (by kernel_rfl)⟩
  exact ⟨_, rfl, law_post laidOut ht hW' rfl hb (fun _ _ _ => trodAll_cons_mk (shut_bool Tryd.underlying4 _) trodAll_mk0) rfl rfl (ok_one (by kernel_rfl) rfl (okWide_bool_mk Tryd.underlying4 _))⟩
def tabCells (cs : Array Value) : Obj → Obj
  | .cells _ t frozen => .cells cs t frozen
  | o => o
noncomputable def laidWorld (os : Os) : World := { World.holding Tryd.prog os ⟨#[], #[], []⟩ with heap := ((((World.holding Tryd.prog os ⟨#[], #[], []⟩).heap.modify 4 (tabCells #[.int .u8 0, .int .u8 1, .int .u8 28, .int .u8 2, .int .u8 29, .int .u8 14, .int .u8 24, .int .u8 3, .int .u8 30, .int .u8 22, .int .u8 20, .int .u8 15, .int .u8 25, .int .u8 17, .int .u8 4, .int .u8 8, .int .u8 31, .int .u8 27, .int .u8 13, .int .u8 23, .int .u8 21, .int .u8 19, .int .u8 16, .int .u8 7, .int .u8 26, .int .u8 12, .int .u8 18, .int .u8 6, .int .u8 11, .int .u8 5, .int .u8 10, .int .u8 9])).modify 5 (tabCells #[.int .u8 0, .int .u8 1, .int .u8 56, .int .u8 2, .int .u8 57, .int .u8 49, .int .u8 28, .int .u8 3, .int .u8 61, .int .u8 58, .int .u8 42, .int .u8 50, .int .u8 38, .int .u8 29, .int .u8 17, .int .u8 4, .int .u8 62, .int .u8 47, .int .u8 59, .int .u8 36, .int .u8 45, .int .u8 43, .int .u8 51, .int .u8 22, .int .u8 53, .int .u8 39, .int .u8 33, .int .u8 30, .int .u8 24, .int .u8 18, .int .u8 12, .int .u8 5, .int .u8 63, .int .u8 55, .int .u8 48, .int .u8 27, .int .u8 60, .int .u8 41, .int .u8 37, .int .u8 16, .int .u8 46, .int .u8 35, .int .u8 44, .int .u8 21, .int .u8 52, .int .u8 32, .int .u8 23, .int .u8 11, .int .u8 54, .int .u8 26, .int .u8 40, .int .u8 15, .int .u8 34, .int .u8 20, .int .u8 31, .int .u8 10, .int .u8 25, .int .u8 14, .int .u8 19, .int .u8 9, .int .u8 13, .int .u8 8, .int .u8 7, .int .u8 6])).modify 1 (tabCells #[.int .u64 1, .int .u64 10, .int .u64 100, .int .u64 1000, .int .u64 10000, .int .u64 100000, .int .u64 1000000, .int .u64 10000000, .int .u64 100000000, .int .u64 1000000000, .int .u64 10000000000, .int .u64 100000000000, .int .u64 1000000000000, .int .u64 10000000000000, .int .u64 100000000000000, .int .u64 1000000000000000, .int .u64 10000000000000000, .int .u64 100000000000000000, .int .u64 1000000000000000000, .int .u64 10000000000000000000])) }
theorem laid_met (os : Os) : laidMet Tryd.prog Rows.fnExactPanWriteRow.laid ((laidWorld os).forCall (fun _ _ => 0) ⟨#[], #[.slice none 0 0], []⟩).memory :=
  laidMet_of_run' 8 (by kernel_rfl) (by kernel_rfl)
theorem reads (os : Os) {H : Type} (enc : TypeId × Value → H) : ∃ places, DataW.whole enc Tryd.prog ((laidWorld os).forCall (fun _ _ => 0) ⟨#[], #[.slice none 0 0], []⟩).memory Tryd.f3.params.toList Rows.fnExactPanWriteSpec.vars false #[Value.slice none 0 0].toList 8 = some ([.nil], [], places) :=
  ⟨[], by kernel_rfl⟩
set_option maxRecDepth 100000 in
theorem lifted (os : Os) (started : os.Started) (H : Type) (enc : TypeId × Value → H) (F : Stop.Interp) :
    ReturnsInHanded {} Tryd.checked os 3 .any ((OpenSpec.ofChange Rows.fnExactPanWriteSpec).preRow enc Tryd.prog Tryd.f3 Rows.fnExactPanWriteRow.domain false Rows.fnExactPanWriteRow.laid) (((OpenSpec.ofChange Rows.fnExactPanWriteSpec).at F).post enc Tryd.prog Tryd.f3 false true false false) := by
  obtain ⟨places, hx⟩ := reads os enc
  refine returnsInHanded_of_row (C := Tryd.checked) (s := OpenSpec.ofChange Rows.fnExactPanWriteSpec) own started (by kernel_rfl) Tryd.func3
    (witness_row_at (enc := enc) (C := Tryd.checked) false (laidWorld os) #[.slice none 0 0] rfl (by kernel_rfl) (by kernel_rfl) (by kernel_rfl)
      (OpenSpec.preRow_of_cond 8 hx (by kernel_rfl) (fun k hk => by cases hk) (by kernel_rfl) (laid_met os))) ?_
  intro W base args ds gs before hval hW _ _ hsz hL _ _
  exact contract H enc W base args ds gs before hval hW hsz hL
theorem said : Rows.FnExactPanWriteSaid :=
  OpenClaim.holds_of_cond 3 Tryd.f3 rfl rfl rfl rfl rfl rfl rfl ⟨rfl, rfl, rfl, rfl, rfl⟩ rfl rfl rfl rfl rfl (by kernel_rfl) Tryd.func3 (by kernel_rfl)
    (of_decide_eq_true (by kernel_rfl)) (by unfold Func.isWrapper; first | (rw [if_pos (by decide +kernel)]; kernel_rfl) | (rw [if_neg (by decide +kernel)]; exact ⟨rfl, rfl⟩))
    (fun os started H enc _ F => by rw [OpenClaim.pre_eq_preRow]; exact lifted os started H enc F)
theorem plain (f : FuncId) (fn : Func) (hf : Tryd.pinned.checked.prog.funcNamed "loop.example/pannier/laws.FnExactPanWrite" = some f) (hfn : Tryd.pinned.checked.prog.funcs[f]? = some fn) :
    false = Tryd.pinned.checked.prog.looks [] ∧ ∀ (j : Nat) t, fn.params[j]? = some t → Tryd.pinned.checked.prog.wantsStandIn t = false := by
  obtain rfl : f = 3 := Option.some.inj ((show Tryd.prog.funcNamed "loop.example/pannier/laws.FnExactPanWrite" = some 3 by kernel_rfl).symm.trans hf) |>.symm
  obtain rfl : fn = Tryd.f3 := (Option.some.inj (Tryd.func3.symm.trans hfn)).symm
  refine ⟨by kernel_rfl, fun j t ht => ?_⟩
  rw [Tryd.params3] at ht
  have hm := Array.mem_of_getElem? ht
  simp at hm
  rcases hm with rfl
  · exact (show Tryd.prog.wantsStandIn 22 = false by kernel_rfl)
theorem proved : Rows.FnExactPanWriteCardSaid :=
  Claim7.holds_tied_plain_at .later [] _ _ _ _ said (fun _ h => by cases h) (by kernel_rfl) (fun _ h => by cases h) fnExactPanWrite_row_tie rfl ⟨rfl, rfl⟩ (by kernel_rfl) rfl plain (by kernel_rfl)
end Go.Proofs.YtipadliffadhkaaDoor.fnExactPanWrite
