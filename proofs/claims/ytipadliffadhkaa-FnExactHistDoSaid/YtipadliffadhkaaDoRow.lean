/- The law FnExactHistDo returns true for every input: the program's HistDo returns what the reference's HistDo returns. No condition beyond the statement's own. -/
import Derived.Test.YtipadliffadhkaaDoD
import Derived.Test.YtipadliffadhkaaRows
set_option linter.unusedVariables false
set_option linter.unusedSimpArgs false
/-! The row of FnExactHistDo. -/
namespace Go.Proofs.Ytipadliffadhkaa.fnExactHistDo
open Go.Vs Go.Proofs.PanH
open Go.ChangeShapes Go.WideShapes Go.ChangeAt Go.RowKit
set_option linter.unusedVariables false
theorem rd_3 : Rd Try.prog 3 cInt 1 okI := rd_int Try.underlying3
theorem rd_4 : Rd Try.prog 4 cBool 1 okT := rd_bool Try.underlying4
structure PanCall.ok (x : PanCall) : Prop where
  Client : okI x.Client
  Call : okI x.Call
  Op : okI x.Op
  Disk : okI x.Disk
  Block : okI x.Block
  Epoch : okI x.Epoch
  Data : okI x.Data
  Begin : okI x.Begin
  End : okI x.End
  Over : okT x.Over
  Code : okI x.Code
  Value : okI x.Value
theorem rd_66 : Rd Try.prog 66 PanCall.c 12 PanCall.ok := by
  intro H enc w fuel cs x h hw0
  obtain ⟨hl, hf⟩ := struct_us Try.underlying66 h hw0
  obtain ⟨_, _, h0, w0⟩ := hf 0 _ rfl
  obtain ⟨a0, k0, _, r0⟩ := rd_3 h0 w0
  obtain ⟨_, _, h1, w1⟩ := hf 1 _ rfl
  obtain ⟨a1, k1, _, r1⟩ := rd_3 h1 w1
  obtain ⟨_, _, h2, w2⟩ := hf 2 _ rfl
  obtain ⟨a2, k2, _, r2⟩ := rd_3 h2 w2
  obtain ⟨_, _, h3, w3⟩ := hf 3 _ rfl
  obtain ⟨a3, k3, _, r3⟩ := rd_3 h3 w3
  obtain ⟨_, _, h4, w4⟩ := hf 4 _ rfl
  obtain ⟨a4, k4, _, r4⟩ := rd_3 h4 w4
  obtain ⟨_, _, h5, w5⟩ := hf 5 _ rfl
  obtain ⟨a5, k5, _, r5⟩ := rd_3 h5 w5
  obtain ⟨_, _, h6, w6⟩ := hf 6 _ rfl
  obtain ⟨a6, k6, _, r6⟩ := rd_3 h6 w6
  obtain ⟨_, _, h7, w7⟩ := hf 7 _ rfl
  obtain ⟨a7, k7, _, r7⟩ := rd_3 h7 w7
  obtain ⟨_, _, h8, w8⟩ := hf 8 _ rfl
  obtain ⟨a8, k8, _, r8⟩ := rd_3 h8 w8
  obtain ⟨_, _, h9, w9⟩ := hf 9 _ rfl
  obtain ⟨a9, k9, _, r9⟩ := rd_4 h9 w9
  obtain ⟨_, _, h10, w10⟩ := hf 10 _ rfl
  obtain ⟨a10, k10, _, r10⟩ := rd_3 h10 w10
  obtain ⟨_, _, h11, w11⟩ := hf 11 _ rfl
  obtain ⟨a11, k11, _, r11⟩ := rd_3 h11 w11
  refine ⟨⟨a0, a1, a2, a3, a4, a5, a6, a7, a8, a9, a10, a11⟩, ⟨k0, k1, k2, k3, k4, k5, k6, k7, k8, k9, k10, k11⟩, hl.trans (by kernel_rfl), fun j hj => ?_⟩
  match j, hj with
  | 0, _ => exact rdf (o := 0) (r0 0 (by decide))
  | 1, _ => exact rdf (o := 1) (r1 0 (by decide))
  | 2, _ => exact rdf (o := 2) (r2 0 (by decide))
  | 3, _ => exact rdf (o := 3) (r3 0 (by decide))
  | 4, _ => exact rdf (o := 4) (r4 0 (by decide))
  | 5, _ => exact rdf (o := 5) (r5 0 (by decide))
  | 6, _ => exact rdf (o := 6) (r6 0 (by decide))
  | 7, _ => exact rdf (o := 7) (r7 0 (by decide))
  | 8, _ => exact rdf (o := 8) (r8 0 (by decide))
  | 9, _ => exact rdf (o := 9) (r9 0 (by decide))
  | 10, _ => exact rdf (o := 10) (r10 0 (by decide))
  | 11, _ => exact rdf (o := 11) (r11 0 (by decide))
theorem rd_22 : Rd Try.prog 22 (fun (L : List PanCall) _ => ul PanCall.c 12 false L) 1 (okL 96 PanCall.ok) := rd_slice (e := 66) Try.underlying22 (by kernel_rfl) (by decide) (by kernel_rfl) (by decide) rd_66
theorem rd_23 : Rd Try.prog 23 (fun (L : List Int) _ => ul cInt 1 false L) 1 (okL 8 okI) := rd_slice (e := 3) Try.underlying23 (by kernel_rfl) (by decide) (by kernel_rfl) (by decide) rd_3
theorem own : ownKnob Try.prog.godebug = none := by kernel_rfl
theorem laidOut : laidOutB Try.prog = true := by kernel_rfl
set_option maxRecDepth 100000 in
theorem contract (H : Type) (enc : TypeId × Value → H) (W : World) (base : Nat) (args : Array Value) (ds gs : List (DataW H)) (before : List MemPlace)
    (hval : ∀ (j : Nat) t v, Try.f3.params[j]? = some t → args[j]? = some v → Value.okWide Try.prog W .any base t v)
    (hW : DataW.Whole enc Try.prog Try.f3.params.toList Rows.fnExactHistDoSpec.vars false W args.toList ds gs before)
    (hsz : (DataW.weightsEach Try.prog (Try.f3.params.toList ++ Rows.fnExactHistDoSpec.plain.varTypes Try.prog) (ds ++ gs)).all (· ≤ reachBytes) = true) :
    Calls Try.prog 3 args W fun e W' => ∃ v, e = .returned v ∧ Rows.fnExactHistDoSpec.post enc Try.prog Try.f3 false true false false W args v W' := by
  have hW' := hW
  obtain ⟨p, q, hA0, hV, rfl, hfz, hnd⟩ := hW
  have hA : DataW.TrodAll enc Try.prog W 0 (fun _ => true) true Try.f3.params.toList args.toList ds p := hA0
  have hkeep := hA
  rw [Try.params3] at hA hval
  obtain ⟨v0, vs0, d0, ds0, p0, q0, hargs0, hds0, rfl, h0, r0⟩ := trodAll_cons hA
  obtain ⟨v1, vs1, d1, ds1, p1, q1, hargs1, hds1, rfl, h1, r1⟩ := trodAll_cons r0
  obtain ⟨e1, e2, rfl⟩ := trodAll_nil r1
  subst e1; subst e2; subst hds1; subst hds0; subst hargs1
  obtain rfl : args = #[v0, v1] := by cases args; simp_all
  obtain ⟨rfl, rfl⟩ := trodVars_none hV
  have w0 : ∀ n ∈ DataW.weights Try.prog 22 d0, n ≤ reachBytes := fun n hn => by have := List.all_eq_true.1 hsz n (DataW.weights_mem_each (j := 0) (t := 22) (d := d0) rfl rfl n hn); simpa using this
  have c0 : v0.cells = #[v0] := by
    obtain ⟨x, l, c, rfl⟩ := okWide_slice Try.underlying22 (hval 0 22 v0 rfl rfl)
    rfl
  obtain ⟨a0, k0, s0⟩ := rs_one rd_22 h0 w0 c0
  have w1 : ∀ n ∈ DataW.weights Try.prog 23 d1, n ≤ reachBytes := fun n hn => by have := List.all_eq_true.1 hsz n (DataW.weights_mem_each (j := 1) (t := 23) (d := d1) rfl rfl n hn); simpa using this
  have c1 : v1.cells = #[v1] := by
    obtain ⟨x, l, c, rfl⟩ := okWide_slice Try.underlying23 (hval 1 23 v1 rfl rfl)
    rfl
  obtain ⟨a1, k1, s1⟩ := rs_one rd_23 h1 w1 c1
  simp only [List.append_nil] at hW'
  have hpure := law_HistDo a0 a1 (okL_len (by decide) k0)
  refine ((Con.run (vals := [v0, v1]) (l_FnExactHistDo_c hpure) ⟨s0, s1, trivial⟩)).mono fun e W' ⟨he, hb⟩ => ?_
  subst he
  have ht : ∀ t ∈ Try.f3.params.toList, Try.prog.readableRec t = true ∧ t < Try.prog.types.size := by rw [Try.params3]; intro t ht; simp at ht; rcases ht with rfl | rfl <;> exact ⟨by kernel_rfl, of_decide_eq_true (by kernel_rfl)⟩
  exact ⟨_, rfl, law_post laidOut ht hW' rfl hb (fun _ _ _ => trodAll_cons_mk (shut_bool Try.underlying4 _) trodAll_mk0) rfl rfl (ok_one (by kernel_rfl) rfl (okWide_bool_mk Try.underlying4 _))⟩
set_option maxRecDepth 100000 in
theorem lifted (os : Os) (started : os.Started) (H : Type) (enc : TypeId × Value → H) :
    ReturnsInHanded {} Try.checked os 3 .any (Rows.fnExactHistDoSpec.pre6 enc Try.prog Try.f3 Rows.fnExactHistDoRow.domain false) (Rows.fnExactHistDoSpec.post enc Try.prog Try.f3 false true false false) := by
  refine returnsInHanded_of_change_sized (C := Try.checked) own started (by kernel_rfl) Try.func3
    (ChangeSpec.witness6 (enc := enc) (C := Try.checked) false ⟨#[], #[.slice none 0 0, .slice none 0 0], []⟩ 8 (by kernel_rfl) (by kernel_rfl) (by kernel_rfl) (by kernel_rfl)) ?_
  intro W base args ds gs before hval hW _ hsz _
  exact contract H enc W base args ds gs before hval hW hsz
theorem over : Rows.fnExactHistDoRow.holds Try.pinned (OpenSpec.ofChange Rows.fnExactHistDoSpec) :=
  OpenClaim.holds_of_wide 3 Try.f3 rfl rfl rfl rfl rfl rfl rfl ⟨rfl, rfl, rfl, rfl, rfl⟩ rfl rfl rfl rfl rfl (by kernel_rfl) Try.func3 (by kernel_rfl)
    (of_decide_eq_true (by kernel_rfl)) (by unfold Func.isWrapper; first | (rw [if_pos (by decide +kernel)]; kernel_rfl) | (rw [if_neg (by decide +kernel)]; exact ⟨rfl, rfl⟩))
    (fun os started H enc _ => lifted os started H enc)
theorem proved : Rows.FnExactHistDoSaid := over
end Go.Proofs.Ytipadliffadhkaa.fnExactHistDo
