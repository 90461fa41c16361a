/- Words and walks for the proof. -/
import Derived.WalkKit
import Derived.Maps.AppendAt
import Derived.Orders
import Derived.Deep.LoopGhost
import Derived.Great.BuildSlice
import Derived.Laws.StructEq
import Derived.Carry
import Derived.MapKept
import Derived.Laws.BytesArg
set_option linter.unusedVariables false
set_option linter.unusedSimpArgs false
set_option linter.unusedSectionVars false
namespace Go.Vs
open Go.RowKit (Below)
inductive U where
 | int (k : IntKind) (n : Int)
 | bool (b : Bool)
 | str (s : ByteArray)
 | sl (tmp : Bool) (n sz : Nat) (get : Nat → Nat → U)
 | xsl (n sz : Nat) (get : Nat → Nat → U)
inductive L where
 | u (x : U)
 | row (r : Nat)
 | nil
 | dead
inductive S where
 | dead
 | un
 | val (agg : Bool) (ls : List L)
 | ptr (r off : Nat)
 | ep (r sz i off : Nat)
 | rp (m : Nat) (get : Nat → U)
 | tup (parts : List (Bool × List L))
 | rc (r sz l h : Nat)
inductive Ob where
 | none
 | row (e n sz : Nat) (get : Nat → Nat → U)
 | frow (e n sz : Nat) (get : Nat → Nat → U)
 | box (e : Nat) (ls : List L)
 | smap (D : List (ByteArray × Bool))
 | abs (Q : World → (Nat → Prop) → Value → Prop)
structure St where
 slots : Nat → S
 obj : Nat → Ob
 next : Nat
structure Gh where
 Fz : Nat → Prop
 Tz : Nat → Prop
 om : Nat → Option Nat
 rv : Nat → Value
 df : Nat → Prop
def bound : Nat := 140737488355328
def RU (w : World) (g : Gh) : U → Value → Prop
 | .int k n, v => v = .int k n
 | .bool b, v => v = .bool b
 | .str s, v => v = .string s
 | .sl tmp n sz get, v => ∃ A c, v = .slice A n c ∧ n ≤ c ∧ n ≤ bound ∧
   (0 < n → ∃ b o, A = some ⟨b, o, none⟩ ∧ (g.Fz b ∨ (tmp = true ∧ g.Tz b)) ∧
    ∀ i, i < n → ∀ j, j < sz → ∃ x, w.cell? ⟨b, o + (i * sz + j), none⟩ = some x ∧ RU w g (get i j) x)
 | .xsl n sz get, v => ∃ A, v = .slice A n n ∧ n ≤ bound ∧
   (0 < n → ∃ b o, A = some ⟨b, o, none⟩ ∧ g.Fz b ∧
    ∀ i, i < n → ∀ j, j < sz → ∃ x, w.cell? ⟨b, o + (i * sz + j), none⟩ = some x ∧ RU w g (get i j) x)
def RL (w : World) (g : Gh) : L → Value → Prop
 | .u x, v => RU w g x v
 | .row r, v => g.df r ∧ v = g.rv r ∧ v.oneCell' = true
 | .nil, v => v = .slice none 0 0
 | .dead, v => v.oneCell' = true
def RLs (w : World) (g : Gh) : List L → List Value → Prop
 | [], [] => True
 | l :: ls, v :: vs => RL w g l v ∧ RLs w g ls vs
 | _, _ => False
def RV (w : World) (g : Gh) (agg : Bool) (ls : List L) (v : Value) : Prop :=
 ∃ cs : List Value, (if agg then v = .agg cs.toArray else [v] = cs) ∧ RLs w g ls cs
def RT (w : World) (g : Gh) : List (Bool × List L) → List Value → Prop
 | [], [] => True
 | (b, l) :: ls, v :: vs => RV w g b l v ∧ RT w g ls vs
 | _, _ => False
def RS (w : World) (g : Gh) : S → Value → Prop
 | .dead, _ => True
 | .un, v => v = undef
 | .val agg ls, v => RV w g agg ls v
 | .ptr r off, v => g.df r ∧ ∃ b, g.rv r = .pointer (some ⟨b, 0, none⟩) ∧ v = .pointer (some ⟨b, off, none⟩)
 | .ep r sz i off, v => g.df r ∧ ∃ b n c, g.rv r = .slice (some ⟨b, 0, none⟩) n c ∧ i < n ∧ v = .pointer (some ⟨b, i * sz + off, none⟩)
 | .rp m get, v => ∃ b o, v = .pointer (some ⟨b, o, none⟩) ∧ (g.Fz b ∨ g.Tz b) ∧ ∀ j, j < m → ∃ x, w.cell? ⟨b, o + j, none⟩ = some x ∧ RU w g (get j) x
 | .tup ps, v => ∃ vs : List Value, v = .tuple vs.toArray ∧ RT w g ps vs
 | .rc r sz l h, v => g.df r ∧ ∃ A n c, g.rv r = .slice A n c ∧ n ≤ c ∧ l ≤ h ∧ h ≤ n ∧ v = .slice (if c = l then A else A.map (·.add (l * sz))) (h - l) (c - l)
def blk : Value → Option Nat
 | .slice (some a) _ _ => some a.block
 | .pointer (some a) => some a.block
 | .map (some b) => some b
 | _ => none
def RO (w : World) (g : Gh) (r : Nat) : Ob → Prop
 | .none => True
 | .row e n sz get => 0 < sz ∧ n ≤ bound ∧ (∃ cs, w.ownsRow 0 e sz (g.rv r) n cs ∧ ∀ i, i < n → ∀ j, j < sz → ∃ x, cs[i * sz + j]? = some x ∧ RU w g (get i j) x) ∧
   (∀ b, (g.rv r).ownBlock = some b → g.om b = some r)
 | .frow _ n sz get => 0 < sz ∧ RU w g (.sl false n sz get) (g.rv r)
 | .box e ls => ∃ b cs, g.rv r = .pointer (some ⟨b, 0, none⟩) ∧ g.om b = some r ∧ w.heap[b]? = some (.cells cs e (0, 0)) ∧ RLs w g ls cs.toList
 | .smap D => ∃ b es c, g.rv r = .map (some b) ∧ g.om b = some r ∧ w.heap[b]? = some (.map es c) ∧ es.toList.map (fun e => (e.key, e.val)) = D.map (fun p => (Value.string p.1, Value.bool p.2))
 | .abs Q => ∃ own : Nat → Prop, (∀ b, own b → g.om b = some r) ∧ (∀ b, blk (g.rv r) = some b → own b) ∧ ∀ w' : World, (∀ b, own b → w'.heap[b]? = w.heap[b]?) → Q w' own (g.rv r)
class Glob (P : Program) where
 ok : Nat → World → Prop
 stable : ∀ {B : Nat} {w w' : World}, ok B w → Below B w w' → ok B w'
def GOk (P : Program) [Glob P] (w : World) (X : Nat → Prop) : Prop := ∃ B, B ≤ w.heap.size ∧ (∀ b, X b → B ≤ b) ∧ Glob.ok P B w
structure Fix (P : Program) [Glob P] where
 w0 : World
 Fz : Nat → Prop
 Tz : Nat → Prop
 X : Nat → Prop
 N : Nat
 n0 : Nat
 rv0 : Nat → Value
 hG : GOk P w0 X
section
variable {P : Program} [Glob P]
structure BX (F : Fix P) (w : World) : Prop where
 os : w.os = F.w0.os
 tape : w.tape = F.w0.tape
 output : w.output = F.w0.output
 size : F.w0.heap.size ≤ w.heap.size
 block : ∀ k, k < F.w0.heap.size → ¬ F.X k → w.heap[k]? = F.w0.heap[k]?
theorem BX.refl (F : Fix P) : BX F F.w0 := ⟨rfl, rfl, rfl, Nat.le_refl _, fun _ _ _ => rfl⟩
structure Rel (F : Fix P) (σ : St) (g : Gh) (a : Act) (w : World) : Prop where
 defers : a.defers = []
 size : a.tmps.size = F.N
 slots : ∀ t, RS w g (σ.slots t) (a.tmps.getD t undef)
 objs : ∀ r, g.df r → RO w g r (σ.obj r)
 alive : ∀ r, σ.obj r ≠ .none → g.df r
 fz : ∀ b, g.Fz b → (F.w0.heap.size ≤ b ∨ F.Fz b ∨ F.X b) ∧ b < w.heap.size ∧ g.om b = none
 tz : g.Tz = F.Tz
 tz' : ∀ b, F.Tz b → b < F.w0.heap.size ∧ g.om b = none
 om : ∀ b r, g.om b = some r → (F.w0.heap.size ≤ b ∨ F.X b) ∧ b < w.heap.size
 below : BX F w
 prm : ∀ r, r < F.n0 → g.df r ∧ g.rv r = F.rv0 r
theorem Rel.glob {F : Fix P} {σ : St} {g : Gh} {a : Act} {w : World} (h : Rel F σ g a w) {X : Nat → Prop} (hX : ∀ b, X b → g.om b ≠ none) : GOk P w X := by
 obtain ⟨B, h1, h2, h3⟩ := F.hG
 refine ⟨B, Nat.le_trans h1 h.below.size, fun b hb => ?_, Glob.stable h3 ⟨h.below.os, h.below.tape, h.below.output, h.below.size, fun k hk => h.below.block k (by omega) fun hx => by have := h2 k hx; omega⟩⟩
 cases hg : g.om b with
 | none => exact absurd hg (hX b hb)
 | some r =>
  rcases (h.om b r hg).1 with h4 | h4
  ·omega
  ·exact h2 b h4
end
structure Grow (w : World) (g : Gh) (w' : World) (g' : Gh) : Prop where
 F : ∀ b, g.Fz b → g'.Fz b
 T : ∀ b, g.Tz b → g'.Tz b
 df : ∀ r, g.df r → g'.df r
 rv : ∀ r, g.df r → g'.rv r = g.rv r
 keep : ∀ b, g.Fz b ∨ g.Tz b → w'.heap[b]? = w.heap[b]?
section
variable {w w' : World} {g g' : Gh}
theorem Grow.refl (w : World) (g : Gh) : Grow w g w g := ⟨fun _ h => h, fun _ h => h, fun _ h => h, fun _ _ => rfl, fun _ _ => rfl⟩
theorem cell_of_heap {w w' : World} {a : Addr} (h : w'.heap[a.block]? = w.heap[a.block]?) : w'.cell? a = w.cell? a := by simp [World.cell?, h]
theorem RU.mono (h : Grow w g w' g') : ∀ (u : U) (v : Value), RU w g u v → RU w' g' u v := by
 intro u
 induction u with
 | int k n => intro v hv; exact hv
 | bool b => intro v hv; exact hv
 | str s => intro v hv; exact hv
 | sl tmp n sz get ih =>
  intro v hv
  obtain ⟨A, c, e, h1, h2, h3⟩ := hv
  refine ⟨A, c, e, h1, h2, fun hn => ?_⟩
  obtain ⟨b, o, e2, hz, hc⟩ := h3 hn
  have hk : w'.heap[b]? = w.heap[b]? := h.keep b (by rcases hz with hz | ⟨_, hz⟩; exact .inl hz; exact .inr hz)
  refine ⟨b, o, e2, ?_, fun i hi j hj => ?_⟩
  ·rcases hz with hz | ⟨ht, hz⟩
   ·exact .inl (h.F _ hz)
   ·exact .inr ⟨ht, h.T _ hz⟩
  ·obtain ⟨x, hx, hu⟩ := hc i hi j hj
   exact ⟨x, by rw [cell_of_heap (w := w) (by exact hk)]; exact hx, ih i j x hu⟩
 | xsl n sz get ih =>
  intro v hv
  obtain ⟨A, e, h2, h3⟩ := hv
  refine ⟨A, e, h2, fun hn => ?_⟩
  obtain ⟨b, o, e2, hz, hc⟩ := h3 hn
  have hk : w'.heap[b]? = w.heap[b]? := h.keep b (.inl hz)
  refine ⟨b, o, e2, h.F _ hz, fun i hi j hj => ?_⟩
  obtain ⟨x, hx, hu⟩ := hc i hi j hj
  exact ⟨x, by rw [cell_of_heap (w := w) (by exact hk)]; exact hx, ih i j x hu⟩
theorem RL.mono (h : Grow w g w' g') (l : L) (v : Value) (hv : RL w g l v) : RL w' g' l v := by
 cases l with
 | u x => exact RU.mono h x v hv
 | row r => exact ⟨h.df r hv.1, by rw [h.rv r hv.1]; exact hv.2.1, hv.2.2⟩
 | nil => exact hv
 | dead => exact hv
theorem RLs.mono (h : Grow w g w' g') : ∀ (ls : List L) (vs : List Value), RLs w g ls vs → RLs w' g' ls vs
 | [], [], _ => trivial
 | l :: ls, v :: vs, hv => ⟨RL.mono h l v hv.1, RLs.mono h ls vs hv.2⟩
 | [], _ :: _, hv => hv.elim
 | _ :: _, [], hv => hv.elim
theorem RV.mono (h : Grow w g w' g') (agg : Bool) (ls : List L) (v : Value) (hv : RV w g agg ls v) : RV w' g' agg ls v := by
 obtain ⟨cs, e, hl⟩ := hv
 exact ⟨cs, e, RLs.mono h ls cs hl⟩
theorem RT.mono (h : Grow w g w' g') : ∀ (ps : List (Bool × List L)) (vs : List Value), RT w g ps vs → RT w' g' ps vs
 | [], [], _ => trivial
 | (b, l) :: ls, v :: vs, hv => ⟨RV.mono h b l v hv.1, RT.mono h ls vs hv.2⟩
 | [], _ :: _, hv => hv.elim
 | _ :: _, [], hv => hv.elim
theorem RS.mono (h : Grow w g w' g') (s : S) (v : Value) (hv : RS w g s v) : RS w' g' s v := by
 cases s with
 | dead => trivial
 | un => exact hv
 | val agg ls => exact RV.mono h agg ls v hv
 | ptr r off => exact ⟨h.df r hv.1, by rw [h.rv r hv.1]; exact hv.2⟩
 | ep r sz i off => exact ⟨h.df r hv.1, by rw [h.rv r hv.1]; exact hv.2⟩
 | rp m get =>
  obtain ⟨b, o, e, hz, hc⟩ := hv
  refine ⟨b, o, e, ?_, fun j hj => ?_⟩
  ·rcases hz with hz | hz
   ·exact .inl (h.F _ hz)
   ·exact .inr (h.T _ hz)
  ·obtain ⟨x, hx, hu⟩ := hc j hj
   exact ⟨x, by rw [cell_of_heap (w := w) (by exact h.keep b hz)]; exact hx, RU.mono h _ _ hu⟩
 | tup ps =>
  obtain ⟨vs, e, hr⟩ := hv
  exact ⟨vs, e, RT.mono h ps vs hr⟩
 | rc r sz l k => exact ⟨h.df r hv.1, by rw [h.rv r hv.1]; exact hv.2⟩
theorem blk_own {v : Value} {b : Nat} (h : v.ownBlock = some b) : blk v = some b := by
 unfold Value.ownBlock at h
 split at h
 ·simpa [blk] using h
 ·cases h
theorem RO.mono (h : Grow w g w' g') (r : Nat) (hr : g.df r) (o : Ob) (hb : ∀ b, g.om b = some r → w'.heap[b]? = w.heap[b]? ∧ g'.om b = some r)
  (ho : RO w g r o) : RO w' g' r o := by
 cases o with
 | none => trivial
 | row e n sz get =>
  obtain ⟨h1, h2, ⟨cs, hown, hc⟩, hom⟩ := ho
  refine ⟨h1, h2, ⟨cs, ?_, fun i hi j hj => ?_⟩, fun b hbb => ?_⟩
  ·rw [h.rv r hr]
   refine ⟨hown.1, ?_⟩
   rcases hown.2 with hn | ⟨gb, cap, cur, e1, e2, e3, rest⟩
   ·exact .inl hn
   ·have hown' : (g.rv r).ownBlock = some gb := by rw [e1]; rfl
    exact .inr ⟨gb, cap, cur, e1, e2, by rw [(hb gb (hom gb hown')).1]; exact e3, rest⟩
  ·obtain ⟨x, hx, hu⟩ := hc i hi j hj
   exact ⟨x, hx, RU.mono h _ _ hu⟩
  ·rw [h.rv r hr] at hbb
   exact (hb b (hom b hbb)).2
 | frow e n sz get => exact ⟨ho.1, by rw [h.rv r hr]; exact RU.mono h _ _ ho.2⟩
 | box e ls =>
  obtain ⟨b, cs, e1, e2, e3, e4⟩ := ho
  have hk := hb b e2
  exact ⟨b, cs, by rw [h.rv r hr]; exact e1, hk.2, by rw [hk.1]; exact e3, RLs.mono h _ _ e4⟩
 | smap D =>
  obtain ⟨b, es, c, e1, e2, e3, e4⟩ := ho
  have hk := hb b e2
  exact ⟨b, es, c, by rw [h.rv r hr]; exact e1, hk.2, by rw [hk.1]; exact e3, e4⟩
 | abs Q =>
  obtain ⟨own, e1, e2, e3⟩ := ho
  exact ⟨own, fun b hbb => (hb b (e1 b hbb)).2, fun b hbb => e2 b (by rw [h.rv r hr] at hbb; exact hbb), fun w2 hw => by rw [h.rv r hr]; exact e3 w2 fun b hbb => by rw [hw b hbb]; exact (hb b (e1 b hbb)).1⟩
end
def constL : Value → L
 | .int k n => .u (.int k n)
 | .bool b => .u (.bool b)
 | .string s => .u (.str s)
 | .slice none 0 0 => .nil
 | _ => .dead
def constS : Value → S
 | .int k n => .val false [.u (.int k n)]
 | .bool b => .val false [.u (.bool b)]
 | .string s => .val false [.u (.str s)]
 | .slice none 0 0 => .val false [.nil]
 | _ => .dead
def St.eval (σ : St) : Operand → S
 | .tmp t => σ.slots t
 | .const v => constS v
 | _ => .dead
theorem constS_sound (w : World) (g : Gh) (v : Value) : RS w g (constS v) v := by
 unfold constS
 split
 ·exact ⟨[_], rfl, rfl, trivial⟩
 ·exact ⟨[_], rfl, rfl, trivial⟩
 ·exact ⟨[_], rfl, rfl, trivial⟩
 ·exact ⟨[_], rfl, rfl, trivial⟩
 ·trivial
theorem Rel.eval {P : Program} [Glob P] {F : Fix P} {σ : St} {g : Gh} {a : Act} {w : World} (h : Rel F σ g a w) (x : Operand) : RS w g (σ.eval x) (a.eval x) := by
 cases x with
 | tmp t => exact h.slots t
 | const v => exact constS_sound w g v
 | global _ => trivial
 | func _ => trivial
def St.put (σ : St) (d : Option Tmp) (s : S) : St :=
 match d with
 | none => σ
 | some d => { σ with slots := fun t => cond (Nat.beq t d) s (σ.slots t) }
theorem beq_eq (a b : Nat) : Nat.beq a b = decide (a = b) := by
 by_cases h : a = b
 ·subst h; simp
 ·rw [decide_eq_false h]
  cases hb : Nat.beq a b with
  | false => rfl
  | true => exact absurd (Nat.eq_of_beq_eq_true hb) h
@[simp] theorem St.put_next (σ : St) (d : Option Tmp) (s : S) : (σ.put d s).next = σ.next := by cases d <;> rfl
@[simp] theorem St.put_obj (σ : St) (d : Option Tmp) (s : S) : (σ.put d s).obj = σ.obj := by cases d <;> rfl
theorem St.put_slots (σ : St) (d : Tmp) (s : S) (t : Nat) : (σ.put (some d) s).slots t = if t = d then s else σ.slots t := by
 simp only [St.put, beq_eq]
 by_cases h : t = d <;> simp [h]
theorem Rel.put {P : Program} [Glob P] {F : Fix P} {σ : St} {g : Gh} {a : Act} {w : World} (h : Rel F σ g a w) (d : Option Tmp) (s : S) (v : Value) (hd : ∀ t, d = some t → t < F.N)
  (hs : RS w g s v) : Rel F (σ.put d s) g (a.put d v) w := by
 cases d with
 | none => exact h
 | some d =>
  have hsz := h.size
  refine ⟨h.defers, by simpa [Act.put] using hsz, fun t => ?_, fun r hr => by simpa using h.objs r hr, fun r hr => h.alive r (by simpa using hr), h.fz, h.tz, h.tz', h.om, h.below, h.prm⟩
  rw [St.put_slots]
  have hlt : d < a.tmps.size := by rw [hsz]; exact hd d rfl
  by_cases ht : t = d
  ·subst ht
   rw [if_pos rfl]
   have : (a.put (some t) v).tmps.getD t undef = v := by simp [Act.put, Array.getD, hlt]
   rw [this]; exact hs
  ·rw [if_neg ht]
   have : (a.put (some d) v).tmps.getD t undef = a.tmps.getD t undef := by
    simp only [Act.put, Array.getD_eq_getD_getElem?]
    rw [Array.getElem?_setIfInBounds_ne (fun e => ht e.symm)]
   rw [this]; exact h.slots t
end Go.Vs

namespace Go.Vs
inductive D where
 | base (d : TypeDesc)
 | struct (fs : List (Nat × Nat × Nat))
 | slice (e : Nat)
 | array (n e : Nat)
 | builder (e : Nat)
structure TyI where
 cmp : Bool := false
 size : Nat
 bytes : Nat
 zero : List Value
 desc : D
def TyI.agg (i : TyI) : Bool := match i.desc with | .struct _ | .array _ _ | .builder _ => true | _ => false
def plainDesc : TypeDesc → Bool
 | .struct _ | .array _ _ | .named _ _ => false
 | _ => true
structure TyOk (P : Program) (t : Nat) (i : TyI) : Prop where
 one : i.zero.all (·.oneCell') = true
 len : i.zero.length = i.size
 info : ∃ inf z, P.info? t = some inf ∧ inf.size = i.size ∧ inf.bytes = i.bytes ∧ inf.zero = some z ∧ z.cells.toList = i.zero
 desc : match i.desc with
  | .base d => P.underlying t = some d ∧ plainDesc d = true
  | .struct fs => ∃ fields, P.underlying t = some (.struct fields) ∧ (fields.toList.map fun f => (f.offset, f.type, (P.info? f.type).map (·.size))) = fs.map fun x => (x.1, x.2.1, some x.2.2)
  | .slice e => P.underlying t = some (.slice e)
  | .array n e => P.underlying t = some (.array n e)
  | .builder _ => ∃ fields, P.underlying t = some (.struct fields)
 zval : i.agg = false → ∀ inf z, P.info? t = some inf → inf.zero = some z → z.oneCell' = true
 cmp : i.cmp = true → P.stoodInHeld t = false ∧ P.eqGuardType P.depth t = false ∧ (P.fieldsOf t).toList.all (fun f => f.name != "_") = true
abbrev Ty := Nat → Option TyI
def TabOk (P : Program) (T : Ty) : Prop := ∀ t i, T t = some i → TyOk P t i
section
variable {P : Program} [Glob P] {T : Ty}
theorem TyOk.size {t : Nat} {i : TyI} (h : TyOk P t i) (w : World) : (sizeOf t).run P w = .ok i.size w := by
 obtain ⟨inf, z, h1, h2, _⟩ := h.info
 simp [sizeOf, typeInfo, h1, h2]
theorem TyOk.aggr {t : Nat} {i : TyI} (h : TyOk P t i) (w : World) : (isAgg t).run P w = .ok i.agg w := by
 have hd := h.desc
 unfold TyI.agg
 cases hi : i.desc with
 | base d =>
  rw [hi] at hd
  simp only at hd
  cases d <;> simp_all [isAgg, run_underlying hd.1, plainDesc]
 | struct fs =>
  rw [hi] at hd
  obtain ⟨fields, hu, _⟩ := hd
  simp [isAgg, run_underlying hu]
 | builder e =>
  rw [hi] at hd
  obtain ⟨fields, hu⟩ := hd
  simp [isAgg, run_underlying hu]
 | slice e => rw [hi] at hd; simp only at hd; simp [isAgg, run_underlying hd]
 | array n e => rw [hi] at hd; simp only at hd; simp [isAgg, run_underlying hd]
theorem addr_add (b o j : Nat) : (⟨b, o, none⟩ : Addr).add j = ⟨b, o + j, none⟩ := by unfold Addr.add; split <;> simp_all
theorem RU.one {w : World} {g : Gh} {u : U} {v : Value} (h : RU w g u v) : v.oneCell' = true := by
 cases u with
 | int k n => rw [show v = _ from h]; rfl
 | bool b => rw [show v = _ from h]; rfl
 | str s => rw [show v = _ from h]; rfl
 | sl t n sz get => obtain ⟨A, c, e, _⟩ := h; rw [e]; rfl
 | xsl n sz get => obtain ⟨A, e, _⟩ := h; rw [e]; rfl
theorem RL.one {w : World} {g : Gh} {l : L} {v : Value} (h : RL w g l v) : v.oneCell' = true := by
 cases l with
 | u x => exact RU.one h
 | row r => exact h.2.2
 | nil => rw [show v = _ from h]; rfl
 | dead => exact h
theorem cells_one {v : Value} (h : v.oneCell' = true) : v.cells = #[v] := by
 cases v <;> first | rfl | (simp [Value.oneCell'] at h)
section lists
variable {w : World} {g : Gh}
theorem RLs.len : ∀ {ls : List L} {vs : List Value}, RLs w g ls vs → ls.length = vs.length
 | [], [], _ => rfl
 | _ :: _, _ :: _, h => by simp [RLs.len h.2]
 | [], _ :: _, h => h.elim
 | _ :: _, [], h => h.elim
theorem RLs.get : ∀ {ls : List L} {vs : List Value}, RLs w g ls vs → ∀ {j : Nat} {l : L}, ls[j]? = some l → ∃ v, vs[j]? = some v ∧ RL w g l v
 | [], [], _, j, l, h => by simp at h
 | l :: ls, v :: vs, h, 0, l', e => ⟨v, rfl, by simp at e; subst e; exact h.1⟩
 | _ :: ls, _ :: vs, h, j + 1, l', e => by simpa using RLs.get h.2 (j := j) (l := l') (by simpa using e)
 | [], _ :: _, h, _, _, _ => h.elim
 | _ :: _, [], h, _, _, _ => h.elim
theorem RLs.drop : ∀ (k : Nat) {ls : List L} {vs : List Value}, RLs w g ls vs → RLs w g (ls.drop k) (vs.drop k)
 | 0, _, _, h => h
 | _ + 1, [], [], _ => trivial
 | k + 1, _ :: ls, _ :: vs, h => RLs.drop k (ls := ls) (vs := vs) h.2
 | _ + 1, [], _ :: _, h => h.elim
 | _ + 1, _ :: _, [], h => h.elim
theorem RLs.take : ∀ (k : Nat) {ls : List L} {vs : List Value}, RLs w g ls vs → RLs w g (ls.take k) (vs.take k)
 | 0, _, _, _ => trivial
 | _ + 1, [], [], _ => trivial
 | k + 1, _ :: ls, _ :: vs, h => ⟨h.1, RLs.take k (ls := ls) (vs := vs) h.2⟩
 | _ + 1, [], _ :: _, h => h.elim
 | _ + 1, _ :: _, [], h => h.elim
theorem RLs.append : ∀ {ls ks : List L} {vs us : List Value}, RLs w g ls vs → RLs w g ks us → RLs w g (ls ++ ks) (vs ++ us)
 | [], _, [], _, _, h => h
 | _ :: _, _, _ :: _, _, h, h' => ⟨h.1, RLs.append h.2 h'⟩
 | [], _, _ :: _, _, h, _ => h.elim
 | _ :: _, _, [], _, h, _ => h.elim
theorem RLs.one : ∀ {ls : List L} {vs : List Value}, RLs w g ls vs → ∀ v ∈ vs, v.oneCell' = true
 | [], [], _, v, hv => by cases hv
 | _ :: ls, _ :: vs, h, v, hv => by
  cases hv with
  | head => exact RL.one h.1
  | tail _ hv => exact RLs.one h.2 v hv
 | [], _ :: _, h, _, _ => h.elim
 | _ :: _, [], h, _, _ => h.elim
theorem RLs.of_us : ∀ {n : Nat} (f : Nat → U) (vs : List Value), vs.length = n → (∀ j, j < n → ∃ x, vs[j]? = some x ∧ RU w g (f j) x) → RLs w g ((List.range n).map fun j => .u (f j)) vs := by
 intro n
 induction n with
 | zero => intro f vs hl _; have : vs = [] := List.eq_nil_of_length_eq_zero hl; subst this; trivial
 | succ n ih =>
  intro f vs hl h
  cases vs with
  | nil => simp at hl
  | cons v vs =>
   rw [List.range_succ_eq_map, List.map_cons, List.map_map]
   obtain ⟨x, hx, hu⟩ := h 0 (by omega)
   simp at hx; subst hx
   refine ⟨hu, ih (fun j => f (j + 1)) vs (by simpa using hl) fun j hj => ?_⟩
   obtain ⟨x, hx, hu⟩ := h (j + 1) (by omega)
   exact ⟨x, by simpa using hx, hu⟩
end lists
theorem run_loadVar {t : Nat} {i : TyI} (h : TyOk P t i) (w : World) (b o : Nat) (cs : List Value) (hl : cs.length = i.size) (hz : i.agg = false → i.size = 1)
  (hc : ∀ j v, cs[j]? = some v → w.cell? ⟨b, o + j, none⟩ = some v) :
  ∃ v, (loadVar t ⟨b, o, none⟩).run P w = .ok v w ∧ (if i.agg then v = .agg cs.toArray else [v] = cs) := by
 unfold loadVar
 simp only [Sem.run_bind, h.aggr, Result.andThen_ok]
 cases ha : i.agg with
 | true =>
  refine ⟨.agg cs.toArray, ?_, by simp⟩
  have hr := run_loadCells_list (P := P) w ⟨b, o, none⟩ cs (fun j v hv => by rw [addr_add]; exact hc j v hv)
  rw [hl] at hr
  simp [h.size, hr]
 | false =>
  have h1 : cs.length = 1 := by rw [hl, hz ha]
  match cs, h1 with
  | [v], _ =>
   refine ⟨v, ?_, by simp⟩
   have := hc 0 v rfl
   simp [run_load, show w.cell? ⟨b, o, none⟩ = some v from by simpa using this]
def vload (T : Ty) (σ : St) (t : Nat) (s : S) : Option S :=
 match T t with
 | none => none
 | some i => cond (i.agg || Nat.beq i.size 1) (match s with
  | .ptr r off => match σ.obj r with
   | .box _ ls => cond (Nat.ble (off + i.size) ls.length) (some (.val i.agg ((ls.drop off).take i.size))) none
   | _ => none
  | .ep r sz k off => match σ.obj r with
   | .row _ _ sz' get => cond (Nat.beq sz sz' && Nat.ble (off + i.size) sz) (some (.val i.agg ((List.range i.size).map fun j => .u (get k (off + j))))) none
   | .frow _ _ sz' get => cond (Nat.beq sz sz' && Nat.ble (off + i.size) sz) (some (.val i.agg ((List.range i.size).map fun j => .u (get k (off + j))))) none
   | _ => none
  | .rp m get => cond (Nat.ble i.size m) (some (.val i.agg ((List.range i.size).map fun j => .u (get j)))) none
  | _ => none) none
theorem RO.cells {w : World} {g : Gh} {r e n sz : Nat} {get : Nat → Nat → U} (h : RO w g r (.row e n sz get)) {b : Nat} {m c : Nat}
  (hv : g.rv r = .slice (some ⟨b, 0, none⟩) m c) : m = n ∧ ∀ i, i < n → ∀ j, j < sz → ∃ x, w.cell? ⟨b, i * sz + j, none⟩ = some x ∧ RU w g (get i j) x := by
 obtain ⟨_, _, ⟨cs, hown, hc⟩, _⟩ := h
 have hm : m = n := by
  rcases hown.2 with ⟨hn, _⟩ | ⟨gb, cap, cur, e1, _⟩
  ·rw [hv] at hn; cases hn
  ·rw [hv] at e1; injection e1
 refine ⟨hm, fun i hi j hj => ?_⟩
 obtain ⟨x, hx, hu⟩ := hc i hi j hj
 have := hown.cells (g := b) (by rw [hv]; rfl) (i * sz + j) x hx
 rw [addr_add] at this
 exact ⟨x, by simpa using this, hu⟩
theorem RO.fcells {w : World} {g : Gh} {r e n sz : Nat} {get : Nat → Nat → U} (h : RO w g r (.frow e n sz get)) {b o : Nat} {m c : Nat}
  (hv : g.rv r = .slice (some ⟨b, o, none⟩) m c) : m = n ∧ ∀ i, i < n → ∀ j, j < sz → ∃ x, w.cell? ⟨b, o + (i * sz + j), none⟩ = some x ∧ RU w g (get i j) x := by
 obtain ⟨_, A, c', e1, _, _, h3⟩ := h
 rw [hv] at e1
 injection e1 with e1 e2 e3
 refine ⟨e2, fun i hi j hj => ?_⟩
 obtain ⟨b', o', e4, _, hc⟩ := h3 (by omega)
 rw [← e1] at e4
 injection e4 with e4
 injection e4 with e5 e6
 subst e5; subst e6
 exact hc i hi j hj
theorem cells_list {w : World} {g : Gh} {b o : Nat} (k : Nat) (f : Nat → U) (h : ∀ j, j < k → ∃ x, w.cell? ⟨b, o + j, none⟩ = some x ∧ RU w g (f j) x) :
  ∃ cs : List Value, cs.length = k ∧ (∀ j v, cs[j]? = some v → w.cell? ⟨b, o + j, none⟩ = some v) ∧ ∀ j, j < k → ∃ x, cs[j]? = some x ∧ RU w g (f j) x := by
 induction k with
 | zero => exact ⟨[], rfl, fun j v hj => by simp at hj, fun j hj => by omega⟩
 | succ k ih =>
  obtain ⟨cs, hl, h1, h2⟩ := ih fun j hj => h j (by omega)
  obtain ⟨x, hx, hu⟩ := h k (by omega)
  refine ⟨cs ++ [x], by simp [hl], fun j v hj => ?_, fun j hj => ?_⟩
  ·rcases Nat.lt_or_ge j k with hlt | hge
   ·rw [List.getElem?_append_left (by omega)] at hj; exact h1 j v hj
   ·rw [List.getElem?_append_right (by omega)] at hj
    have : j - cs.length = 0 := by
     rcases Nat.eq_zero_or_pos (j - cs.length) with h0 | h0
     ·exact h0
     ·rw [List.getElem?_eq_none (by simp; omega)] at hj; cases hj
    rw [this] at hj; simp at hj; subst hj
    have : j = k := by omega
    subst this; exact hx
  ·rcases Nat.lt_or_ge j k with hlt | hge
   ·obtain ⟨y, hy, hv⟩ := h2 j hlt
    exact ⟨y, by rw [List.getElem?_append_left (by omega)]; exact hy, hv⟩
   ·have : j = k := by omega
    subst this
    exact ⟨x, by rw [List.getElem?_append_right (by omega), hl]; simp, hu⟩
theorem vload_sound (hT : TabOk P T) {F : Fix P} {σ : St} {g : Gh} {a : Act} {w : World} (h : Rel F σ g a w) {t : Nat} {x : Operand} {s : S} (hs : vload T σ t (σ.eval x) = some s) :
  ∃ v, (Instr.loadAt t (a.eval x)).run P w = .ok v w ∧ RS w g s v := by
 have hx := h.eval x
 unfold vload at hs
 cases hi : T t with
 | none => rw [hi] at hs; cases hs
 | some i =>
  rw [hi] at hs
  simp only at hs
  have ty := hT t i hi
  cases hz' : (i.agg || Nat.beq i.size 1) with
  | false => rw [hz'] at hs; cases hs
  | true =>
   rw [hz'] at hs
   simp only [cond_true] at hs
   have hz : i.agg = false → i.size = 1 := fun ha => by
    rw [ha] at hz'; simpa using hz'
   cases he : σ.eval x with
   | ptr r off =>
    rw [he] at hs hx
    simp only at hs
    obtain ⟨hr, b, e1, e2⟩ := hx
    have ho := h.objs r hr
    cases hob : σ.obj r with
    | box e ls =>
     rw [hob] at hs ho
     simp only at hs
     cases hle : Nat.ble (off + i.size) ls.length with
     | false => rw [hle] at hs; cases hs
     | true =>
      rw [hle] at hs
      simp only [cond_true, Option.some.injEq] at hs
      subst hs
      have hle' := Nat.le_of_ble_eq_true hle
      obtain ⟨b', cs, e3, _, e4, e5⟩ := ho
      rw [e1] at e3
      injection e3 with e3; injection e3 with e3; injection e3 with e3 _; subst e3
      have hlen := RLs.len e5
      obtain ⟨v, hv, hv2⟩ := run_loadVar ty w b off ((cs.toList.drop off).take i.size) (by simp at hlen ⊢; omega) hz (fun j v hj => by
       rw [cell_of_row w b (off + j) cs e (0, 0) e4]
       rw [List.getElem?_take] at hj
       split at hj
       ·simpa using hj
       ·cases hj)
      refine ⟨v, ?_, _, hv2, RLs.take _ (RLs.drop _ e5)⟩
      rw [e2]; simp [Instr.loadAt, Instr.sureAddr, hv]
    | none => rw [hob] at hs; cases hs
    | row _ _ _ _ => rw [hob] at hs; cases hs
    | frow _ _ _ _ => rw [hob] at hs; cases hs
    | smap _ => rw [hob] at hs; cases hs
    | abs _ => rw [hob] at hs; cases hs
   | ep r sz k off =>
    rw [he] at hs hx
    simp only at hs
    obtain ⟨hr, b, n, c, e1, hk, e2⟩ := hx
    have ho := h.objs r hr
    have key : ∀ get : Nat → Nat → U, off + i.size ≤ sz → (∀ j, j < sz → ∃ x, w.cell? ⟨b, k * sz + j, none⟩ = some x ∧ RU w g (get k j) x) →
      ∃ v, (Instr.loadAt t (a.eval x)).run P w = .ok v w ∧ RS w g (.val i.agg ((List.range i.size).map fun j => .u (get k (off + j)))) v := by
     intro get hle hc
     obtain ⟨cs, hl, h1, h2⟩ := cells_list (w := w) (g := g) (b := b) (o := k * sz + off) i.size (fun j => get k (off + j)) (fun j hj => by
      have := hc (off + j) (by omega)
      rwa [← Nat.add_assoc] at this)
     obtain ⟨v, hv, hv2⟩ := run_loadVar ty w b (k * sz + off) cs hl hz h1
     exact ⟨v, by rw [e2]; simp [Instr.loadAt, Instr.sureAddr, hv], cs, hv2, RLs.of_us _ _ hl h2⟩
    cases hob : σ.obj r with
    | row e n' sz' get =>
     rw [hob] at hs ho
     simp only at hs
     cases hle : (Nat.beq sz sz' && Nat.ble (off + i.size) sz) with
     | false => rw [hle] at hs; cases hs
     | true =>
      rw [hle] at hs
      simp only [cond_true, Option.some.injEq] at hs
      subst hs
      simp only [Bool.and_eq_true] at hle
      have hsz := Nat.eq_of_beq_eq_true hle.1
      have hle' := Nat.le_of_ble_eq_true hle.2
      subst hsz
      obtain ⟨hm, hc⟩ := RO.cells ho e1
      exact key get hle' (hc k (by omega))
    | frow e n' sz' get =>
     rw [hob] at hs ho
     simp only at hs
     cases hle : (Nat.beq sz sz' && Nat.ble (off + i.size) sz) with
     | false => rw [hle] at hs; cases hs
     | true =>
      rw [hle] at hs
      simp only [cond_true, Option.some.injEq] at hs
      subst hs
      simp only [Bool.and_eq_true] at hle
      have hsz := Nat.eq_of_beq_eq_true hle.1
      have hle' := Nat.le_of_ble_eq_true hle.2
      subst hsz
      obtain ⟨hm, hc⟩ := RO.fcells ho e1
      exact key get hle' (fun j hj => by simpa using hc k (by omega) j hj)
    | none => rw [hob] at hs; cases hs
    | smap _ => rw [hob] at hs; cases hs
    | abs _ => rw [hob] at hs; cases hs
    | box _ _ => rw [hob] at hs; cases hs
   | rp m get =>
    rw [he] at hs hx
    simp only at hs
    obtain ⟨b, o, e1, _, hc⟩ := hx
    cases hle : Nat.ble i.size m with
    | false => rw [hle] at hs; cases hs
    | true =>
     rw [hle] at hs
     simp only [cond_true, Option.some.injEq] at hs
     subst hs
     have hle' := Nat.le_of_ble_eq_true hle
     obtain ⟨cs, hl, h1, h2⟩ := cells_list (w := w) (g := g) (b := b) (o := o) i.size get (fun j hj => hc j (by omega))
     obtain ⟨v, hv, hv2⟩ := run_loadVar ty w b o cs hl hz h1
     exact ⟨v, by rw [e1]; simp [Instr.loadAt, Instr.sureAddr, hv], cs, hv2, RLs.of_us _ _ hl h2⟩
   | dead => rw [he] at hs; cases hs
   | un => rw [he] at hs; cases hs
   | val _ _ => rw [he] at hs; cases hs
   | tup _ => rw [he] at hs; cases hs
   | rc _ _ _ _ => rw [he] at hs; cases hs
end
end Go.Vs

namespace Go.Vs
section
variable {P : Program} [Glob P] {T : Ty}
theorem TyOk.field {t f o ft sz : Nat} {i : TyI} {fs : List (Nat × Nat × Nat)} (ht : TyOk P t i) (hd : i.desc = .struct fs) (hf : fs[f]? = some (o, ft, sz)) :
    ∃ fields fl, P.underlying t = some (.struct fields) ∧ fields[f]? = some fl ∧ fl.offset = o ∧ fl.type = ft ∧ ∀ w : World, (sizeOf ft).run P w = .ok sz w := by
  have h1 := ht.desc
  rw [hd] at h1
  obtain ⟨fields, hu, hfs⟩ := h1
  have h2 := congrArg (fun l => l[f]?) hfs
  simp only [List.getElem?_map, hf, Option.map_some] at h2
  obtain ⟨fl, h3, h4⟩ := Option.map_eq_some_iff.1 h2
  simp only [Prod.mk.injEq] at h4
  obtain ⟨rfl, rfl, h5⟩ := h4
  obtain ⟨inf, h6, h7⟩ := Option.map_eq_some_iff.1 h5
  exact ⟨fields, fl, hu, by simpa using h3, rfl, rfl, fun w => by simp [sizeOf, typeInfo, h6, h7]⟩
def vfieldAddr (T : Ty) (t : Nat) (s : S) (f : Nat) : Option S :=
  match T t with
  | some { desc := .struct fs, .. } => match fs[f]? with
    | some (o, _, sz) => cond (Nat.beq sz 0) none (match s with
        | .ptr r off => some (.ptr r (off + o))
        | .ep r sz k off => some (.ep r sz k (off + o))
        | .rp m get => some (.rp (m - o) (fun j => get (o + j)))
        | _ => none)
    | none => none
  | _ => none
theorem vfieldAddr_sound (hT : TabOk P T) {F : Fix P} {σ : St} {g : Gh} {a : Act} {w : World} (h : Rel F σ g a w) {t f : Nat} {x : Operand} {s : S} (hs : vfieldAddr T t (σ.eval x) f = some s) :
    ∃ v, (Instr.fieldAt t (a.eval x) f).run P w = .ok v w ∧ RS w g s v := by
  have hx := h.eval x
  unfold vfieldAddr at hs
  split at hs
  case h_2 => cases hs
  case h_1 size bytes zero fs hi =>
    split at hs
    case h_2 => cases hs
    case h_1 o ft sz0 hf =>
        cases hz : Nat.beq sz0 0 with
        | true => rw [hz] at hs; cases hs
        | false =>
          rw [hz] at hs
          simp only [cond_false] at hs
          have hz' : sz0 ≠ 0 := fun e => by rw [e] at hz; cases hz
          obtain ⟨fields, fl, hu, h2, h3, h4, h5⟩ := TyOk.field (hT t _ hi) rfl hf
          subst h3; subst h4
          have key : ∀ b q, (Instr.fieldAt t (.pointer (some ⟨b, q, none⟩)) f).run P w = .ok (.pointer (some ⟨b, q + fl.offset, none⟩)) w := fun b q => by
            simp [Instr.fieldAt, run_underlying hu, h2, Instr.sureAddr, fieldPlace, h5, hz', addr_add]
          cases he : σ.eval x with
          | ptr r off =>
            rw [he] at hs hx
            simp only [Option.some.injEq] at hs; subst hs
            obtain ⟨hr, b, e1, e2⟩ := hx
            exact ⟨_, by rw [e2]; exact key b off, hr, b, e1, rfl⟩
          | ep r sz k off =>
            rw [he] at hs hx
            simp only [Option.some.injEq] at hs; subst hs
            obtain ⟨hr, b, n, c, e1, hk, e2⟩ := hx
            exact ⟨_, by rw [e2]; exact key b _, hr, b, n, c, e1, hk, by rw [Nat.add_assoc]⟩
          | rp m get =>
            rw [he] at hs hx
            simp only [Option.some.injEq] at hs; subst hs
            obtain ⟨b, q, e1, hzz, hc⟩ := hx
            refine ⟨_, by rw [e1]; exact key b q, b, q + fl.offset, rfl, hzz, fun j hj => ?_⟩
            obtain ⟨x, hx, hu⟩ := hc (fl.offset + j) (by omega)
            exact ⟨x, by rw [Nat.add_assoc]; exact hx, hu⟩
          | dead => rw [he] at hs; cases hs
          | un => rw [he] at hs; cases hs
          | val _ _ => rw [he] at hs; cases hs
          | tup _ => rw [he] at hs; cases hs
          | rc _ _ _ _ => rw [he] at hs; cases hs
def vfield (T : Ty) (t : Nat) (s : S) (f : Nat) : Option S :=
  match T t with
  | some { desc := .struct fs, .. } => match fs[f]? with
    | some (o, ft, _) => match T ft with
      | some i => match s with
        | .val true ls => cond ((i.agg || Nat.beq i.size 1) && Nat.ble (o + i.size) ls.length) (some (.val i.agg ((ls.drop o).take i.size))) none
        | _ => none
      | none => none
    | none => none
  | _ => none
theorem vfield_sound (hT : TabOk P T) {F : Fix P} {σ : St} {g : Gh} {a : Act} {w : World} (h : Rel F σ g a w) {t f : Nat} {x : Operand} {s : S} (hs : vfield T t (σ.eval x) f = some s) :
    ∃ v, (Instr.field t (a.eval x) f).run P w = .ok v w ∧ RS w g s v := by
  have hx := h.eval x
  unfold vfield at hs
  split at hs
  case h_2 => cases hs
  case h_1 size bytes zero fs hi =>
    split at hs
    case h_2 => cases hs
    case h_1 o ft sz0 hf =>
      split at hs
      case h_2 => cases hs
      case h_1 j hj =>
        split at hs
        case h_2 => cases hs
        case h_1 ls he =>
          cases hc : ((j.agg || Nat.beq j.size 1) && Nat.ble (o + j.size) ls.length) with
          | false => rw [hc] at hs; cases hs
          | true =>
            rw [hc] at hs
            simp only [cond_true, Option.some.injEq] at hs
            subst hs
            simp only [Bool.and_eq_true] at hc
            have hle := Nat.le_of_ble_eq_true hc.2
            rw [he] at hx
            obtain ⟨cs, e1, hl⟩ := hx
            simp only [if_true] at e1
            have hjo := hT ft j hj
            obtain ⟨fields, fl, hu, h2, h3, h4, h5⟩ := TyOk.field (hT t _ hi) rfl hf
            subst h3; subst h4
            have hlen := RLs.len hl
            cases ha : j.agg with
            | true =>
              refine ⟨.agg (cs.toArray.extract fl.offset (fl.offset + j.size)), ?_, (cs.drop fl.offset).take j.size, ?_, RLs.take _ (RLs.drop _ hl)⟩
              · rw [e1]; simp [Instr.field, run_underlying hu, h2, asAgg, part, hjo.aggr, ha, hjo.size]
              · simp [List.extract_eq_take_drop]
            | false =>
              have hz : j.size = 1 := by
                have := hc.1
                rw [ha] at this; simpa using this
              rw [hz] at hle ⊢
              obtain ⟨v, hv, hr⟩ := RLs.get hl (j := fl.offset) (l := ls[fl.offset]'(by omega)) (by simp)
              have h5 : (ls.drop fl.offset).take 1 = [ls[fl.offset]'(by omega)] := by
                rw [List.take_one, List.head?_drop]; simp [List.getElem?_eq_getElem (show fl.offset < ls.length by omega)]
              refine ⟨v, ?_, [v], by simp, ?_⟩
              · rw [e1]; simp [Instr.field, run_underlying hu, h2, asAgg, part, hjo.aggr, ha, hv]
              · rw [h5]; exact ⟨hr, trivial⟩
def vindexAddr (T : Ty) (σ : St) (t : Nat) (s si : S) (K : S → Prop) : Prop :=
  match si with
  | .val false [.u (.int _ k)] => match T t with
    | some { desc := .slice e, .. } => match T e with
      | some i => match s with
        | .val false [.row r] => match σ.obj r with
          | .row _ n sz get => cond (Nat.beq sz i.size) ((0 ≤ k ∧ k < n) ∧ K (.ep r sz k.toNat 0)) False
          | .frow _ n sz get => cond (Nat.beq sz i.size) ((0 ≤ k ∧ k < n) ∧ K (.rp sz (get k.toNat))) False
          | _ => False
        | .val false [.u (.sl tmp n sz get)] => cond (Nat.beq sz i.size) ((0 ≤ k ∧ k < n) ∧ K (.rp sz (get k.toNat))) False
        | _ => False
      | none => False
    | some { desc := .array n e, .. } => match T e with
      | some i => match s with
        | .ptr r off => (0 ≤ k ∧ k < n) ∧ K (.ptr r (off + k.toNat * i.size))
        | .ep r sz j off => (0 ≤ k ∧ k < n) ∧ K (.ep r sz j (off + k.toNat * i.size))
        | .rp m get => (0 ≤ k ∧ k < n) ∧ K (.rp (m - k.toNat * i.size) (fun j => get (k.toNat * i.size + j)))
        | _ => False
      | none => False
    | _ => False
  | _ => False
theorem run_index_slice {t e : Nat} {i j : TyI} (ht : TyOk P t i) (hd : i.desc = .slice e) (hj : TyOk P e j) (b o n c : Nat) (kd : IntKind) (k : Int) (h0 : 0 ≤ k) (h1 : k < n) (w : World) :
    (Instr.indexAt t (.slice (some ⟨b, o, none⟩) n c) (.int kd k)).run P w = .ok (.pointer (some ⟨b, o + k.toNat * j.size, none⟩)) w := by
  have h2 := ht.desc
  rw [hd] at h2
  simp only at h2
  simp [Instr.indexAt, asIntOf, run_underlying h2, h0, h1, hj.size, addr_add]
theorem run_index_array {t e m : Nat} {i j : TyI} (ht : TyOk P t i) (hd : i.desc = .array m e) (hj : TyOk P e j) (b o : Nat) (kd : IntKind) (k : Int) (h0 : 0 ≤ k) (h1 : k < m) (w : World) :
    (Instr.indexAt t (.pointer (some ⟨b, o, none⟩)) (.int kd k)).run P w = .ok (.pointer (some ⟨b, o + k.toNat * j.size, none⟩)) w := by
  have h2 := ht.desc
  rw [hd] at h2
  simp only at h2
  simp [Instr.indexAt, asIntOf, run_underlying h2, Instr.sureAddr, h0, h1, hj.size, addr_add]
theorem RV.cell {w : World} {g : Gh} {l : L} {v : Value} (h : RV w g false [l] v) : RL w g l v := by
  obtain ⟨cs, e, hl⟩ := h
  simp only [Bool.false_eq_true, if_false] at e
  subst e
  exact hl.1
theorem RV.of_cell {w : World} {g : Gh} {l : L} {v : Value} (h : RL w g l v) : RV w g false [l] v := ⟨[v], by simp, h, trivial⟩
theorem RO.slice {w : World} {g : Gh} {r e n sz : Nat} {get : Nat → Nat → U} (h : RO w g r (.row e n sz get)) : ∃ A c, g.rv r = .slice A n c ∧ n ≤ c ∧ (0 < n → ∃ b, A = some ⟨b, 0, none⟩) := by
  obtain ⟨_, _, ⟨cs, hown, hc⟩, _⟩ := h
  rcases hown.2 with ⟨hn, h0⟩ | ⟨gb, cap, cur, e1, _, _, h1, _⟩
  · exact ⟨none, 0, by rw [hn, h0], by omega, fun h => by omega⟩
  · exact ⟨_, cap, e1, h1, fun _ => ⟨gb, rfl⟩⟩
theorem vindexAddr_sound (hT : TabOk P T) {F : Fix P} {σ : St} {g : Gh} {a : Act} {w : World} (h : Rel F σ g a w) {t : Nat} {x y : Operand} {K : S → Prop} (hs : vindexAddr T σ t (σ.eval x) (σ.eval y) K) :
    ∃ s v, K s ∧ (Instr.indexAt t (a.eval x) (a.eval y)).run P w = .ok v w ∧ RS w g s v := by
  have hx := h.eval x
  have hy := h.eval y
  unfold vindexAddr at hs
  split at hs
  case h_2 => exact hs.elim
  case h_1 kd k he =>
    rw [he] at hy
    have hy' : a.eval y = .int kd k := RV.cell hy
    rw [hy']
    split at hs
    case h_3 => exact hs.elim
    case h_1 sz0 by0 ze0 e hi =>
      split at hs
      case h_2 => exact hs.elim
      case h_1 i hj =>
        split at hs
        case h_3 => exact hs.elim
        case h_1 r hex =>
          rw [hex] at hx
          obtain ⟨hr, hv, _⟩ := RV.cell hx
          have ho := h.objs r hr
          split at hs
          case h_3 => exact hs.elim
          case h_1 e' n sz get hob =>
            rw [hob] at ho
            cases hb : Nat.beq sz i.size with
            | false => rw [hb] at hs; exact hs.elim
            | true =>
              rw [hb] at hs
              obtain ⟨⟨h0, h1⟩, hK⟩ := hs
              have hsz := Nat.eq_of_beq_eq_true hb
              obtain ⟨A, c, e1, _, e2⟩ := RO.slice ho
              obtain ⟨b, e3⟩ := e2 (by omega)
              subst e3
              refine ⟨_, _, hK, by rw [hv, e1]; exact run_index_slice (hT t _ hi) rfl (hT e i hj) b 0 n c kd k h0 h1 w, hr, b, n, c, e1, by omega, ?_⟩
              rw [hsz]; simp
          case h_2 e' n sz get hob =>
            rw [hob] at ho
            cases hb : Nat.beq sz i.size with
            | false => rw [hb] at hs; exact hs.elim
            | true =>
              rw [hb] at hs
              obtain ⟨⟨h0, h1⟩, hK⟩ := hs
              have hsz := Nat.eq_of_beq_eq_true hb
              obtain ⟨_, A, c, e1, _, _, e2⟩ := ho
              obtain ⟨b, o, e3, hz, hc⟩ := e2 (by omega)
              subst e3
              refine ⟨_, _, hK, by rw [hv, e1]; exact run_index_slice (hT t _ hi) rfl (hT e i hj) b o n c kd k h0 h1 w, b, _, rfl, ?_, fun j hj => ?_⟩
              · rcases hz with hz | ⟨hz, _⟩
                · exact .inl hz
                · cases hz
              · obtain ⟨x, hx, hu⟩ := hc k.toNat (by omega) j hj
                exact ⟨x, by rw [← hsz, Nat.add_assoc]; exact hx, hu⟩
        case h_2 tmp n sz get hex =>
          rw [hex] at hx
          obtain ⟨A, c, e1, _, _, e2⟩ := RV.cell hx
          cases hb : Nat.beq sz i.size with
          | false => rw [hb] at hs; exact hs.elim
          | true =>
            rw [hb] at hs
            obtain ⟨⟨h0, h1⟩, hK⟩ := hs
            have hsz := Nat.eq_of_beq_eq_true hb
            obtain ⟨b, o, e3, hz, hc⟩ := e2 (by omega)
            subst e3
            refine ⟨_, _, hK, by rw [e1]; exact run_index_slice (hT t _ hi) rfl (hT e i hj) b o n c kd k h0 h1 w, b, _, rfl, ?_, fun j hj => ?_⟩
            · rcases hz with hz | ⟨_, hz⟩
              · exact .inl hz
              · exact .inr hz
            · obtain ⟨x, hx, hu⟩ := hc k.toNat (by omega) j hj
              exact ⟨x, by rw [← hsz, Nat.add_assoc]; exact hx, hu⟩
    case h_2 sz0 by0 ze0 n e hi =>
      split at hs
      case h_2 => exact hs.elim
      case h_1 i hj =>
        have key := fun b o h0 h1 => run_index_array (P := P) (hT t _ hi) rfl (hT e i hj) b o kd k h0 h1 w
        split at hs
        case h_4 => exact hs.elim
        case h_1 r off hex =>
          rw [hex] at hx
          obtain ⟨hr, b, e1, e2⟩ := hx
          obtain ⟨⟨h0, h1⟩, hK⟩ := hs
          exact ⟨_, _, hK, by rw [e2]; exact key b off h0 h1, hr, b, e1, rfl⟩
        case h_2 r sz j off hex =>
          rw [hex] at hx
          obtain ⟨hr, b, m, c, e1, hk, e2⟩ := hx
          obtain ⟨⟨h0, h1⟩, hK⟩ := hs
          exact ⟨_, _, hK, by rw [e2]; exact key b _ h0 h1, hr, b, m, c, e1, hk, by rw [Nat.add_assoc]⟩
        case h_3 m get hex =>
          rw [hex] at hx
          obtain ⟨b, q, e1, hzz, hc⟩ := hx
          obtain ⟨⟨h0, h1⟩, hK⟩ := hs
          refine ⟨_, _, hK, by rw [e1]; exact key b q h0 h1, b, _, rfl, hzz, fun j hj => ?_⟩
          obtain ⟨x, hx, hu⟩ := hc (k.toNat * i.size + j) (by omega)
          exact ⟨x, by rw [Nat.add_assoc]; exact hx, hu⟩
def byteAt (s : ByteArray) (i : Nat) : Int := if h : i < s.size then ((s[i]'h).toNat : Int) else 0
noncomputable abbrev VIf (b : Bool) (A B : Prop) : Prop := Bool.rec B A b
theorem VIf.intro {b : Bool} {A B : Prop} (h1 : b = true → A) (h2 : b = false → B) : VIf b A B := by cases b; exact h2 rfl; exact h1 rfl
theorem VIf.elim {b : Bool} {A B : Prop} (h : VIf b A B) : (b = true ∧ A) ∨ (b = false ∧ B) := by cases b; exact .inr ⟨rfl, h⟩; exact .inl ⟨rfl, h⟩
def vint (k : IntKind) (n : Int) : S := .val false [.u (.int k n)]
def vbool (b : Bool) : S := .val false [.u (.bool b)]
def vstr (s : ByteArray) : S := .val false [.u (.str s)]
def kindEq : IntKind → IntKind → Bool
  | .i8, .i8 | .i16, .i16 | .i32, .i32 | .i64, .i64 | .u8, .u8 | .u16, .u16 | .u32, .u32 | .u64, .u64 => true
  | _, _ => false
theorem kindEq_eq {a b : IntKind} (h : kindEq a b = true) : a = b := by cases a <;> cases b <;> first | rfl | cases h
def isBool (T : Ty) (t : Nat) : Bool := match T t with | some { desc := .base .bool, .. } => true | _ => false
def eqFS (f : Nat → List L → List L → Option Bool) (ls ks : List L) : List (Nat × Nat × Nat) → Option Bool
  | [] => some true
  | (o, ft, sz) :: r => cond (Nat.ble (o + sz) ls.length && Nat.ble (o + sz) ks.length) (match f ft ((ls.drop o).take sz) ((ks.drop o).take sz) with
    | some a => match eqFS f ls ks r with
      | some b => some (a && b)
      | none => none
    | none => none) none
def eqS (T : Ty) : Nat → Nat → List L → List L → Option Bool
  | 0, _, _, _ => none
  | d + 1, t, ls, ks => match T t with
    | some { desc := .base (.int k), .. } => match ls with
      | [.u (.int k1 a)] => match ks with
        | [.u (.int k2 b)] => cond (kindEq k1 k2) (some (decide (a = b))) none
        | _ => none
      | _ => none
    | some { desc := .base .bool, .. } => match ls with
      | [.u (.bool a)] => match ks with
        | [.u (.bool b)] => some (a == b)
        | _ => none
      | _ => none
    | some { desc := .base .string, .. } => match ls with
      | [.u (.str a)] => match ks with
        | [.u (.str b)] => some (a.toList == b.toList)
        | _ => none
      | _ => none
    | some { desc := .struct fs, cmp := true, .. } => eqFS (eqS T d) ls ks fs
    | _ => none
def vbin (T : Ty) (op : BinOp) (t : Nat) (x y : S) (K : S → Prop) : Prop :=
  match x with
  | .val false [.u (.int k a)] => match y with
    | .val false [.u (.int k' b)] => cond (kindEq k k') (match op with
      | .add => ∃ c, c = k.wrap (a + b) ∧ K (vint k c)
      | .sub => ∃ c, c = k.wrap (a - b) ∧ K (vint k c)
      | .mul => ∃ c, c = k.wrap (a * b) ∧ K (vint k c)
      | .quo => b ≠ 0 ∧ ∃ c, c = k.wrap (a.tdiv b) ∧ K (vint k c)
      | .rem => b ≠ 0 ∧ ∃ c, c = a.tmod b ∧ K (vint k c)
      | .eql => K (vbool (decide (a = b)))
      | .neq => K (vbool (!decide (a = b)))
      | .lss => K (vbool (decide (a < b)))
      | .leq => K (vbool (decide (a ≤ b)))
      | .gtr => K (vbool (decide (b < a)))
      | .geq => K (vbool (decide (b ≤ a)))
      | _ => False) False
    | _ => False
  | .val false [.u (.bool a)] => match y with
    | .val false [.u (.bool b)] => cond (isBool T t) (match op with
      | .eql => K (vbool (a == b))
      | .neq => K (vbool (!(a == b)))
      | _ => False) False
    | _ => False
  | .val false [.u (.str a)] => match y with
    | .val false [.u (.str b)] => match op with
      | .eql => K (vbool (a.toList == b.toList))
      | .neq => K (vbool (!(a.toList == b.toList)))
      | .add => a.size + b.size ≤ 9223372036854775807 ∧ K (vstr (a ++ b))
      | _ => False
    | _ => False
  | .val true ls => match y with
    | .val true ks => match T t with
      | some { desc := .struct _, .. } => match eqS T 6 t ls ks with
        | some b => match op with
          | .eql => ∃ c, c = b ∧ K (vbool c)
          | .neq => ∃ c, c = b ∧ K (vbool (!c))
          | _ => False
        | none => False
      | _ => False
    | _ => False
  | _ => False
theorem RS_vint {w : World} {g : Gh} {k : IntKind} {n : Int} {v : Value} (h : RS w g (vint k n) v) : v = .int k n := RV.cell h
theorem RS_vbool {w : World} {g : Gh} {b : Bool} {v : Value} (h : RS w g (vbool b) v) : v = .bool b := RV.cell h
theorem vint_RS (w : World) (g : Gh) (k : IntKind) (n : Int) : RS w g (vint k n) (.int k n) := RV.of_cell (l := .u (.int k n)) rfl
theorem vbool_RS (w : World) (g : Gh) (b : Bool) : RS w g (vbool b) (.bool b) := RV.of_cell (l := .u (.bool b)) rfl
theorem vstr_RS (w : World) (g : Gh) (s : ByteArray) : RS w g (vstr s) (.string s) := RV.of_cell (l := .u (.str s)) rfl
theorem run_guard_int (op : BinOp) (t : TypeId) (x y : Operand) (k k' : IntKind) (m n : Int) (w : World) : (eqGuard op t x y (.int k m) (.int k' n)).run P w = .ok () w := by
  cases op <;> simp [eqGuard]
theorem run_guard_bool (op : BinOp) (t : TypeId) (x y : Operand) (m n : Bool) (w : World) : (eqGuard op t x y (.bool m) (.bool n)).run P w = .ok () w := by
  cases op <;> simp [eqGuard]
theorem run_guard_str (op : BinOp) (t : TypeId) (x y : Operand) (m n : ByteArray) (w : World) : (eqGuard op t x y (.string m) (.string n)).run P w = .ok () w := by
  cases op <;> simp [eqGuard]
theorem isBool_ok (hT : TabOk P T) {t : Nat} (h : isBool T t = true) : P.underlying t = some .bool := by
  unfold isBool at h
  split at h
  · rename_i hi
    exact (hT t _ hi).desc.1
  · cases h
theorem fieldsOf_eq {t : Nat} {fields : Array Field} (h : P.underlying t = some (.struct fields)) : P.fieldsOf t = fields := by simp [Program.fieldsOf, h]
theorem run_part {t : Nat} {i : TyI} (h : TyOk P t i) (hz : i.agg = false → i.size = 1) {w : World} {g : Gh} {ls : List L} {xs : List Value} (hl : RLs w g ls xs) (o : Nat) (hlen : o + i.size ≤ ls.length) :
    ∃ v, (part t xs.toArray o).run P w = .ok v w ∧ RV w g i.agg ((ls.drop o).take i.size) v := by
  have hx := RLs.len hl
  unfold part
  simp only [Sem.run_bind, h.aggr, Result.andThen_ok]
  cases ha : i.agg with
  | true =>
    refine ⟨.agg (xs.toArray.extract o (o + i.size)), by simp [h.size], (xs.drop o).take i.size, ?_, RLs.take _ (RLs.drop _ hl)⟩
    simp [List.extract_eq_take_drop]
  | false =>
    have h1 := hz ha
    have hlt : o < xs.length := by omega
    refine ⟨xs[o], by simp [hlt], [xs[o]], by simp, ?_⟩
    rw [h1]
    have h2 := RLs.take 1 (RLs.drop o hl)
    have e : (xs.drop o).take 1 = [xs[o]] := by rw [List.drop_eq_getElem_cons hlt]; rfl
    rw [e] at h2
    exact h2
theorem eqS_len (T : Ty) (hT : TabOk P T) : ∀ (d t : Nat) (ls ks : List L) (b : Bool) (i : TyI), T t = some i → eqS T d t ls ks = some b → i.agg = false → ls.length = 1 ∧ ks.length = 1 := by
  intro d
  cases d with
  | zero => intro t ls ks b i hi h; cases h
  | succ d =>
    intro t ls ks b i hi h ha
    simp only [eqS, hi] at h
    split at h
    · split at h
      · split at h
        · exact ⟨rfl, rfl⟩
        · cases h
      · cases h
    · split at h
      · split at h
        · exact ⟨rfl, rfl⟩
        · cases h
      · cases h
    · split at h
      · split at h
        · exact ⟨rfl, rfl⟩
        · cases h
      · cases h
    · rename_i he
      injection he with he
      subst he
      simp [TyI.agg] at ha
    · cases h
theorem eqS_sound (hT : TabOk P T) : ∀ (d t : Nat) (ls ks : List L) (b : Bool) (w : World) (g : Gh) (v1 v2 : Value) (i : TyI), T t = some i → eqS T d t ls ks = some b → RV w g i.agg ls v1 → RV w g i.agg ks v2 → ∀ e, (Op.equalIn (e + d) t v1 v2).run P w = .ok b w := by
  intro d
  induction d with
  | zero => intro t ls ks b w g v1 v2 i hi h; cases h
  | succ d ih =>
    intro t ls ks b w g v1 v2 i hi h h1 h2 e
    have ty := hT t i hi
    have hd := ty.desc
    simp only [eqS, hi] at h
    split at h
    case h_1 cm sz by_ ze k he =>
      injection he with he
      subst he
      split at h
      case h_2 => cases h
      case h_1 k1 a =>
        split at h
        case h_2 => cases h
        case h_1 k2 a2 =>
          have e1 : v1 = .int k1 a := RV.cell h1
          have e2 : v2 = .int k2 a2 := RV.cell h2
          cases hk : kindEq k1 k2 with
          | false => rw [hk] at h; cases h
          | true =>
            rw [hk] at h
            have := kindEq_eq hk
            subst this
            simp only [cond_true, Option.some.injEq] at h
            subst h
            rw [e1, e2, ← Nat.add_assoc, run_equalIn_int w (e + d) t k1 k a a2 hd.1]
            congr 1
    case h_2 cm sz by_ ze he =>
      injection he with he
      subst he
      split at h
      case h_2 => cases h
      case h_1 a =>
        split at h
        case h_2 => cases h
        case h_1 a2 =>
          have e1 : v1 = .bool a := RV.cell h1
          have e2 : v2 = .bool a2 := RV.cell h2
          simp only [Option.some.injEq] at h
          subst h
          rw [e1, e2, ← Nat.add_assoc, run_equalIn_bool' w (e + d) t a a2 hd.1]
    case h_3 cm sz by_ ze he =>
      injection he with he
      subst he
      split at h
      case h_2 => cases h
      case h_1 a =>
        split at h
        case h_2 => cases h
        case h_1 a2 =>
          have e1 : v1 = .string a := RV.cell h1
          have e2 : v2 = .string a2 := RV.cell h2
          simp only [Option.some.injEq] at h
          subst h
          rw [e1, e2, ← Nat.add_assoc, run_equalIn_string w (e + d) t a a2 hd.1]
    case h_4 sz by_ ze fs he =>
      injection he with he
      subst he
      obtain ⟨fields, hu, hfs⟩ := hd
      obtain ⟨c1, _, c3⟩ := ty.cmp rfl
      obtain ⟨xs, ex, hxs⟩ := h1
      obtain ⟨ys, ey, hys⟩ := h2
      simp only [TyI.agg, if_true] at ex ey
      subst ex; subst ey
      have hfo := fieldsOf_eq hu
      rw [← Nat.add_assoc, run_equalIn_struct w (e + d) t xs.toArray ys.toArray (by rw [hfo]; exact hu) c1]
      rw [hfo] at c3 ⊢
      revert h hfs c3
      generalize fields.toList = fl
      clear hfo hu ty hi
      induction fs generalizing fl b with
      | nil =>
        intro h hfs c3
        cases fl with
        | nil => simp only [eqFS, Option.some.injEq] at h; subst h; simp [Op.eqFields]
        | cons f fl => simp at hfs
      | cons p fs ihf =>
        obtain ⟨o, ft, sz'⟩ := p
        intro h hfs c3
        cases fl with
        | nil => simp at hfs
        | cons f fl =>
          simp only [List.map_cons, List.cons.injEq, Prod.mk.injEq] at hfs
          obtain ⟨⟨rfl, rfl, hsz⟩, hfs⟩ := hfs
          simp only [List.all_cons, Bool.and_eq_true] at c3
          simp only [eqFS] at h
          cases hle : (Nat.ble (f.offset + sz') ls.length && Nat.ble (f.offset + sz') ks.length) with
          | false => rw [hle] at h; cases h
          | true =>
          rw [hle] at h
          simp only [cond_true] at h
          rw [Bool.and_eq_true] at hle
          have hle1 := Nat.le_of_ble_eq_true hle.1
          have hle2 := Nat.le_of_ble_eq_true hle.2
          cases ha : eqS T d f.type ((ls.drop f.offset).take sz') ((ks.drop f.offset).take sz') with
          | none => rw [ha] at h; cases h
          | some b1 =>
            rw [ha] at h
            simp only at h
            cases hb : eqFS (eqS T d) ls ks fs with
            | none => rw [hb] at h; cases h
            | some b2 =>
              rw [hb] at h
              simp only [Option.some.injEq] at h
              subst h
              -- the field's type
              have hex : ∃ j, T f.type = some j := by
                cases d with
                | zero => cases ha
                | succ d =>
                  cases hj : T f.type with
                  | none => simp only [eqS, hj] at ha; cases ha
                  | some j => exact ⟨j, rfl⟩
              obtain ⟨j, hj⟩ := hex
              have tyj := hT _ j hj
              have hszj : sz' = j.size := by
                obtain ⟨inf, z, q1, q2, _⟩ := tyj.info
                rw [q1] at hsz
                simp only [Option.map_some, Option.some.injEq] at hsz
                omega
              subst hszj
              have hz : j.agg = false → j.size = 1 := fun hag => by
                have hl := (eqS_len T hT _ _ _ _ _ j hj ha hag).1
                rw [List.length_take, List.length_drop] at hl
                omega
              obtain ⟨u1, r1, q1⟩ := run_part tyj hz hxs f.offset hle1
              obtain ⟨u2, r2, q2⟩ := run_part tyj hz hys f.offset hle2
              have hr := ih f.type _ _ b1 w g u1 u2 j hj ha q1 q2 e
              have hrest := ihf b2 fl hb hfs (by simpa using c3.2)
              have hn : f.name ≠ "_" := by simpa using c3.1
              simp only [Op.eqFields, if_pos hn, Sem.run_bind, r1, r2, hr, Result.andThen_ok]
              cases b1
              · simp
              · simpa using hrest
    case h_5 => cases h
theorem vbin_sound (hT : TabOk P T) {F : Fix P} {σ : St} {g : Gh} {a : Act} {w : World} (h : Rel F σ g a w) {op : BinOp} {t : Nat} {x y : Operand} {K : S → Prop} (hs : vbin T op t (σ.eval x) (σ.eval y) K) :
    ∃ s v, K s ∧ (do eqGuard op t x y (a.eval x) (a.eval y); binOp op t (a.eval x) (a.eval y) : Sem Value).run P w = .ok v w ∧ RS w g s v := by
  have hx := h.eval x
  have hy := h.eval y
  unfold vbin at hs
  split at hs
  case h_5 => exact hs.elim
  case h_4 ls he =>
    split at hs
    case h_2 => exact hs.elim
    case h_1 ks he' =>
      rw [he] at hx
      rw [he'] at hy
      split at hs
      case h_2 => exact hs.elim
      case h_1 cm sz by_ ze fs hi =>
        split at hs
        case h_2 => exact hs.elim
        case h_1 b hb =>
          obtain ⟨xs, ex, hxs⟩ := id hx
          obtain ⟨ys, ey, hys⟩ := id hy
          simp only [if_true] at ex ey
          have hrun := eqS_sound hT 6 t ls ks b w g _ _ _ hi hb hx hy 9994
          have hcm : P.eqGuardType P.depth t = false := by
            have ty := hT t _ hi
            cases cm with
            | true => exact (ty.cmp rfl).2.1
            | false => simp only [eqS, hi] at hb; cases hb
          rw [ex, ey] at hrun ⊢
          simp only [Sem.run_bind, run_eqGuard_agg w op t x y _ _ hcm, Result.andThen_ok]
          cases op <;> simp only at hs <;> first
            | exact hs.elim
            | (obtain ⟨c, rfl, hK⟩ := hs
               exact ⟨_, _, hK, by first | (rw [run_eql_struct]; rw [show (10000 : Nat) = 9994 + 6 from rfl, hrun]; rfl) | (rw [run_neq_struct]; rw [show (10000 : Nat) = 9994 + 6 from rfl, hrun]; rfl), vbool_RS _ _ _⟩)
  case h_1 k m he =>
    split at hs
    case h_2 => exact hs.elim
    case h_1 k' n he' =>
      rw [he] at hx
      rw [he'] at hy
      have hx' : a.eval x = .int k m := RV.cell hx
      have hy' : a.eval y = .int k' n := RV.cell hy
      rw [hx', hy']
      cases hk : kindEq k k' with
      | false => rw [hk] at hs; exact hs.elim
      | true =>
        rw [hk] at hs
        have hkk := kindEq_eq hk
        subst hkk
        simp only [cond_true] at hs
        simp only [Sem.run_bind, run_guard_int, Result.andThen_ok]
        cases op <;> simp only at hs <;> first
          | exact hs.elim
          | (obtain ⟨c, hc, hK⟩ := hs; exact ⟨vint k c, .int k c, hK, by simp [binOp, Op.intArith, hc], vint_RS _ _ _ _⟩)
          | (obtain ⟨h0, c, hc, hK⟩ := hs; exact ⟨vint k c, .int k c, hK, by simp [binOp, Op.intDiv, h0, hc], vint_RS _ _ _ _⟩)
          | exact ⟨_, _, hs, by simp [binOp, Op.intCmp]; try rfl, vbool_RS _ _ _⟩
  case h_2 m he =>
    split at hs
    case h_2 => exact hs.elim
    case h_1 n he' =>
      rw [he] at hx
      rw [he'] at hy
      have hx' : a.eval x = .bool m := RV.cell hx
      have hy' : a.eval y = .bool n := RV.cell hy
      rw [hx', hy']
      cases hb : isBool T t with
      | false => rw [hb] at hs; exact hs.elim
      | true =>
        rw [hb] at hs
        have hu := isBool_ok hT hb
        simp only [cond_true] at hs
        simp only [Sem.run_bind, run_guard_bool, Result.andThen_ok]
        cases op <;> simp only at hs <;> first
          | exact hs.elim
          | exact ⟨_, _, hs, by simp [binOp, run_equal_bool w t m n hu], vbool_RS _ _ _⟩
  case h_3 m he =>
    split at hs
    case h_2 => exact hs.elim
    case h_1 n he' =>
      rw [he] at hx
      rw [he'] at hy
      have hx' : a.eval x = .string m := RV.cell hx
      have hy' : a.eval y = .string n := RV.cell hy
      rw [hx', hy']
      simp only [Sem.run_bind, run_guard_str, Result.andThen_ok]
      cases op <;> simp only at hs <;> first
        | exact hs.elim
        | exact ⟨_, _, hs, by simp [binOp, Op.stringOp]; rfl, vbool_RS _ _ _⟩
        | exact ⟨_, _, hs, by simp [binOp, Op.stringOp], vbool_RS _ _ _⟩
        | (obtain ⟨h0, hK⟩ := hs
           have h1 : ¬ ((m.size + n.size : Nat) : Int) > IntKind.i64.max := by
             have : IntKind.i64.max = 9223372036854775807 := by decide
             omega
           exact ⟨_, _, hK, by simp only [binOp, Op.stringOp, Sem.run_ite, if_neg h1]; rfl, vstr_RS _ _ _⟩)
end
end Go.Vs

namespace Go.Vs
section
variable {P : Program} [Glob P] {T : Ty}
def vun (op : UnOp) (x : S) (K : S → Prop) : Prop :=
 match x with
 | .val false [.u (.bool b)] => match op with
  | .not => K (vbool (!b))
  | _ => False
 | .val false [.u (.int k n)] => match op with
  | .neg => ∃ c, c = k.wrap (0 - n) ∧ K (vint k c)
  | _ => False
 | _ => False
theorem vun_sound {F : Fix P} {σ : St} {g : Gh} {a : Act} {w : World} (h : Rel F σ g a w) {op : UnOp} {x : Operand} {K : S → Prop} (hs : vun op (σ.eval x) K) :
  ∃ s v, K s ∧ (Op.unary op (a.eval x)).run P w = .ok v w ∧ RS w g s v := by
 have hx := h.eval x
 unfold vun at hs
 split at hs
 case h_3 => exact hs.elim
 case h_1 b he =>
  rw [he] at hx
  rw [show a.eval x = .bool b from RV.cell hx]
  cases op <;> simp only at hs <;> first
   | exact hs.elim
   | exact ⟨_, _, hs, by simp [Op.unary], vbool_RS _ _ _⟩
 case h_2 k n he =>
  rw [he] at hx
  rw [show a.eval x = .int k n from RV.cell hx]
  cases op <;> simp only at hs <;> first
   | exact hs.elim
   | (obtain ⟨c, hc, hK⟩ := hs; exact ⟨vint k c, .int k c, hK, by simp only [Op.unary, Op.intArith, hc]; rfl, vint_RS _ _ _ _⟩)
def vconv (T : Ty) (src dst : Nat) (x : S) (K : S → Prop) : Prop :=
 match T src with
 | some _ => match T dst with
  | some { desc := .base (.int k'), .. } => match x with
   | .val false [.u (.int k n)] => ∃ c, c = k'.wrap n ∧ K (vint k' c)
   | _ => False
  | some { desc := .base .string, .. } => match x with
   | .val false [.u (.str s)] => K (vstr s)
   | _ => False
  | _ => False
 | none => False
theorem TyOk.under {t : Nat} {i : TyI} (h : TyOk P t i) : ∃ d, P.underlying t = some d := by
 have hd := h.desc
 cases hi : i.desc with
 | base d => rw [hi] at hd; exact ⟨d, hd.1⟩
 | struct fs => rw [hi] at hd; obtain ⟨f, hu, _⟩ := hd; exact ⟨_, hu⟩
 | slice e => rw [hi] at hd; exact ⟨_, hd⟩
 | array n e => rw [hi] at hd; exact ⟨_, hd⟩
 | builder e => rw [hi] at hd; obtain ⟨f, hu⟩ := hd; exact ⟨_, hu⟩
theorem vconv_sound (hT : TabOk P T) {F : Fix P} {σ : St} {g : Gh} {a : Act} {w : World} (h : Rel F σ g a w) {src dst : Nat} {x : Operand} {K : S → Prop} (hs : vconv T src dst (σ.eval x) K) :
  ∃ s v, K s ∧ (convert src dst (a.eval x)).run P w = .ok v w ∧ RS w g s v := by
 have hx := h.eval x
 unfold vconv at hs
 split at hs
 case h_2 => exact hs.elim
 case h_1 i hi =>
  obtain ⟨d, hd⟩ := (hT src i hi).under
  split at hs
  case h_3 => exact hs.elim
  case h_1 sz by_ ze k' hj =>
   have hu : P.underlying dst = some (.int k') := (hT dst _ hj).desc.1
   split at hs
   case h_2 => exact hs.elim
   case h_1 k n he =>
    rw [he] at hx
    rw [show a.eval x = .int k n from RV.cell hx]
    obtain ⟨c, hc, hK⟩ := hs
    exact ⟨vint k' c, .int k' c, hK, by simp [convert, run_underlying hd, run_underlying hu, Conv.intToInt, hc], vint_RS _ _ _ _⟩
  case h_2 sz by_ ze hj =>
   have hu : P.underlying dst = some .string := (hT dst _ hj).desc.1
   split at hs
   case h_2 => exact hs.elim
   case h_1 s he =>
    rw [he] at hx
    rw [show a.eval x = .string s from RV.cell hx]
    exact ⟨vstr s, .string s, hs, by simp [convert, run_underlying hd, run_underlying hu], vstr_RS _ _ _⟩
def vindex (T : Ty) (t : Nat) (x y : S) (K : S → Prop) : Prop :=
 match T t with
 | some { desc := .base .string, .. } => match x with
  | .val false [.u (.str s)] => match y with
   | .val false [.u (.int _ k)] => (0 ≤ k ∧ k < s.size) ∧ K (vint .u8 (byteAt s k.toNat))
   | _ => False
  | _ => False
 | _ => False
theorem vindex_sound (hT : TabOk P T) {F : Fix P} {σ : St} {g : Gh} {a : Act} {w : World} (h : Rel F σ g a w) {t : Nat} {x y : Operand} {K : S → Prop} (hs : vindex T t (σ.eval x) (σ.eval y) K) :
  ∃ s v, K s ∧ (Instr.index t (a.eval x) (a.eval y)).run P w = .ok v w ∧ RS w g s v := by
 have hx := h.eval x
 have hy := h.eval y
 unfold vindex at hs
 split at hs
 case h_2 => exact hs.elim
 case h_1 sz by_ ze hi =>
  have hu : P.underlying t = some .string := (hT t _ hi).desc.1
  split at hs
  case h_2 => exact hs.elim
  case h_1 s he =>
   split at hs
   case h_2 => exact hs.elim
   case h_1 kd k he' =>
    rw [he] at hx
    rw [he'] at hy
    rw [show a.eval x = .string s from RV.cell hx, show a.eval y = .int kd k from RV.cell hy]
    obtain ⟨⟨h0, h1⟩, hK⟩ := hs
    have hlt : k.toNat < s.size := by omega
    refine ⟨_, _, hK, ?_, vint_RS _ _ _ _⟩
    have hget : s[k.toNat]? = some s[k.toNat] := by simp [hlt]
    simp [Instr.index, asIntOf, run_underlying hu, h0, hlt, byteAt]
def vextract (x : S) (i : Nat) : Option S :=
 match x with
 | .tup ps => match ps[i]? with
  | some (b, ls) => some (.val b ls)
  | none => none
 | _ => none
theorem RT.get {w : World} {g : Gh} : ∀ {ps : List (Bool × List L)} {vs : List Value}, RT w g ps vs → ∀ {j : Nat} {b : Bool} {l : List L}, ps[j]? = some (b, l) → ∃ v, vs[j]? = some v ∧ RV w g b l v
 | [], [], _, j, b, l, h => by simp at h
 | (b, l) :: ls, v :: vs, h, 0, b', l', e => ⟨v, rfl, by simp at e; obtain ⟨e1, e2⟩ := e; subst e1; subst e2; exact h.1⟩
 | (_, _) :: ls, _ :: vs, h, j + 1, b', l', e => by simpa using RT.get h.2 (j := j) (b := b') (l := l') (by simpa using e)
 | [], _ :: _, h, _, _, _, _ => h.elim
 | (_, _) :: _, [], h, _, _, _, _ => h.elim
theorem vextract_sound {F : Fix P} {σ : St} {g : Gh} {a : Act} {w : World} (h : Rel F σ g a w) {x : Operand} {i : Nat} {s : S} (hs : vextract (σ.eval x) i = some s) :
  ∃ v, (Instr.extract (a.eval x) i).run P w = .ok v w ∧ RS w g s v := by
 have hx := h.eval x
 unfold vextract at hs
 split at hs
 case h_2 => cases hs
 case h_1 ps he =>
  split at hs
  case h_2 => cases hs
  case h_1 b ls hp =>
   simp only [Option.some.injEq] at hs
   subst hs
   rw [he] at hx
   obtain ⟨vs, e, hr⟩ := hx
   obtain ⟨v, hv, hrv⟩ := RT.get hr hp
   exact ⟨v, by rw [e]; simp [Instr.extract, hv], hrv⟩
def vlen (T : Ty) (σ : St) (t : Nat) (x : S) (K : S → Prop) : Prop :=
 match T t with
 | some { desc := .slice _, .. } => match x with
  | .val false [.row r] => match σ.obj r with
   | .row _ n _ _ => (n ≤ bound → K (vint .i64 n))
   | .frow _ n _ _ => (n ≤ bound → K (vint .i64 n))
   | _ => False
  | .val false [.u (.sl _ n _ _)] => (n ≤ bound → K (vint .i64 n))
  | .val false [.nil] => K (vint .i64 0)
  | _ => False
 | some { desc := .base .string, .. } => match x with
  | .val false [.u (.str s)] => K (vint .i64 s.size)
  | _ => False
 | _ => False
theorem vlen_sound (hT : TabOk P T) {F : Fix P} {σ : St} {g : Gh} {a : Act} {w : World} (h : Rel F σ g a w) {t : Nat} {x : Operand} {K : S → Prop} (hs : vlen T σ t (σ.eval x) K) (ty : Nat) :
  ∃ s v, K s ∧ (Builtin.len_ #[t] ty #[a.eval x]).run P w = .ok v w ∧ RS w g s v := by
 have hx := h.eval x
 unfold vlen at hs
 split at hs
 case h_3 => exact hs.elim
 case h_1 sz by_ ze e hi =>
  have hu : P.underlying t = some (.slice e) := (hT t _ hi).desc
  have key : ∀ A c (n : Nat), (Builtin.len_ #[t] ty #[.slice A n c]).run P w = .ok (.int .i64 n) w := fun A c n => by simp [Builtin.len_, run_underlying hu, goInt]
  split at hs
  case h_4 => exact hs.elim
  case h_1 r he =>
   rw [he] at hx
   obtain ⟨hr, hv, _⟩ := RV.cell hx
   have ho := h.objs r hr
   split at hs
   case h_3 => exact hs.elim
   case h_1 e' n sz' get hob =>
    rw [hob] at ho
    obtain ⟨A, c, e1, _⟩ := RO.slice ho
    exact ⟨_, _, hs ho.2.1, by rw [hv, e1]; exact key _ _ _, vint_RS _ _ _ _⟩
   case h_2 e' n sz' get hob =>
    rw [hob] at ho
    obtain ⟨_, A, c, e1, _, hb, _⟩ := ho
    exact ⟨_, _, hs hb, by rw [hv, e1]; exact key _ _ _, vint_RS _ _ _ _⟩
  case h_2 tm n sz' get he =>
   rw [he] at hx
   obtain ⟨A, c, e1, _, hb, _⟩ := RV.cell hx
   exact ⟨_, _, hs hb, by rw [e1]; exact key _ _ _, vint_RS _ _ _ _⟩
  case h_3 he =>
   rw [he] at hx
   rw [show a.eval x = .slice none 0 0 from RV.cell hx]
   exact ⟨_, _, hs, key _ _ 0, vint_RS _ _ _ _⟩
 case h_2 sz by_ ze hi =>
  have hu : P.underlying t = some .string := (hT t _ hi).desc.1
  split at hs
  case h_2 => exact hs.elim
  case h_1 s he =>
   rw [he] at hx
   rw [show a.eval x = .string s from RV.cell hx]
   exact ⟨_, _, hs, by simp [Builtin.len_, run_underlying hu, goInt], vint_RS _ _ _ _⟩
def vmax (x y : S) : Option S :=
 match x with
 | .val false [.u (.int k a)] => match y with
  | .val false [.u (.int _ b)] => some (vint k (if b > a then b else a))
  | _ => none
 | _ => none
theorem vmax_sound {F : Fix P} {σ : St} {g : Gh} {a : Act} {w : World} (h : Rel F σ g a w) {ts : Array TypeId} {t : Nat} {x y : Operand} {s : S} (hs : vmax (σ.eval x) (σ.eval y) = some s) :
  ∃ v, (Builtin.max_ ts t #[a.eval x, a.eval y]).run P w = .ok v w ∧ RS w g s v := by
 have hx := h.eval x
 have hy := h.eval y
 unfold vmax at hs
 split at hs
 case h_2 => cases hs
 case h_1 k n he =>
  split at hs
  case h_2 => cases hs
  case h_1 k' m he' =>
   simp only [Option.some.injEq] at hs
   subst hs
   rw [he] at hx
   rw [he'] at hy
   rw [show a.eval x = .int k n from RV.cell hx, show a.eval y = .int k' m from RV.cell hy]
   exact ⟨_, by simp [Builtin.max_, Builtin.max2], vint_RS _ _ _ _⟩
noncomputable def vpick (c x y : S) (K : S → Prop) : Prop :=
 match c with
 | .val false [.u (.bool b)] => match x with
  | .val false [.u (.bool p)] => match y with
   | .val false [.u (.bool q)] => K (vbool (cond b p q))
   | _ => VIf b (K x) (K y)
  | _ => VIf b (K x) (K y)
 | _ => False
theorem vpick_sound {F : Fix P} {σ : St} {g : Gh} {a : Act} {w : World} (h : Rel F σ g a w) {c x y : Operand} {K : S → Prop} (hs : vpick (σ.eval c) (σ.eval x) (σ.eval y) K) :
  ∃ s b, K s ∧ a.eval c = .bool b ∧ RS w g s (if b then a.eval x else a.eval y) := by
 have hc := h.eval c
 have hx := h.eval x
 have hy := h.eval y
 unfold vpick at hs
 split at hs
 case h_2 => exact hs.elim
 case h_1 b he =>
  rw [he] at hc
  have hb : a.eval c = .bool b := RV.cell hc
  have key : VIf b (K (σ.eval x)) (K (σ.eval y)) → ∃ s b, K s ∧ a.eval c = .bool b ∧ RS w g s (if b then a.eval x else a.eval y) := by
   intro hv
   rcases hv.elim with ⟨rfl, hk⟩ | ⟨rfl, hk⟩
   ·exact ⟨_, true, hk, hb, by simpa using hx⟩
   ·exact ⟨_, false, hk, hb, by simpa using hy⟩
  split at hs
  case h_2 => exact key hs
  case h_1 p hp =>
   split at hs
   case h_2 => exact key hs
   case h_1 q hq =>
    refine ⟨_, b, hs, hb, ?_⟩
    rw [hp] at hx
    rw [hq] at hy
    rw [show a.eval x = .bool p from RV.cell hx, show a.eval y = .bool q from RV.cell hy]
    cases b
    ·exact vbool_RS _ _ _
    ·exact vbool_RS _ _ _
def isPtr : S → Bool | .ptr _ _ | .ep _ _ _ _ | .rp _ _ => true | _ => false
def OptK (o : Option S) (K : S → Prop) : Prop := match o with | some s => K s | none => False
theorem OptK.elim {o : Option S} {K : S → Prop} (h : OptK o K) : ∃ s, o = some s ∧ K s := by cases o with | none => exact False.elim h | some s => exact ⟨s, rfl, h⟩
noncomputable def vpure (T : Ty) (σ : St) (op : Op) (K : S → Prop) : Prop :=
 match op with
 | .move x => K (σ.eval x)
 | .assign x => K (σ.eval x)
 | .pick c x y => vpick (σ.eval c) (σ.eval x) (σ.eval y) K
 | .load t x => OptK (vload T σ t (σ.eval x)) K
 | .fieldAddr t x f => OptK (vfieldAddr T t (σ.eval x) f) K
 | .field t x f => OptK (vfield T t (σ.eval x) f) K
 | .indexAddr t x y => vindexAddr T σ t (σ.eval x) (σ.eval y) K
 | .index t x y => vindex T t (σ.eval x) (σ.eval y) K
 | .binOp op t x y _ => vbin T op t (σ.eval x) (σ.eval y) K
 | .unOp op _ x => vun op (σ.eval x) K
 | .convert s d x => vconv T s d (σ.eval x) K
 | .extract x i => OptK (vextract (σ.eval x) i) K
 | .nilCheck x => cond (isPtr (σ.eval x)) (K (σ.eval x)) False
 | .call c => match c.callee with
  | .builtin .len => match c.args.toList, c.argTypes.toList with
   | [x], [t] => vlen T σ t (σ.eval x) K
   | _, _ => False
  | .builtin .max => match c.args.toList with
   | [x, y] => OptK (vmax (σ.eval x) (σ.eval y)) K
   | _ => False
  | _ => False
 | _ => False
theorem vpure_sound (hT : TabOk P T) {F : Fix P} {σ : St} {g : Gh} {a : Act} {w : World} (h : Rel F σ g a w) (o : Oper) {K : S → Prop} (hs : vpure T σ o.op K) :
  ∃ s v, K s ∧ (execOp a.eval o).run P w = .ok (.value v) w ∧ RS w g s v := by
 obtain ⟨dst, op, type, pos, after, guard⟩ := o
 unfold vpure at hs
 simp only at hs
 split at hs
 case h_1 x => exact ⟨_, _, hs, by simp [execOp], h.eval x⟩
 case h_2 x => exact ⟨_, _, hs, by simp [execOp], h.eval x⟩
 case h_3 c x y =>
  obtain ⟨s, b, hK, hb, hr⟩ := vpick_sound h hs
  exact ⟨s, _, hK, by simp [execOp, hb, asBool], hr⟩
 case h_4 t x =>
  obtain ⟨s, he, hK⟩ := hs.elim
  obtain ⟨v, hv, hr⟩ := vload_sound hT h he
  exact ⟨s, v, hK, by simp [execOp, hv], hr⟩
 case h_5 t x f =>
  obtain ⟨s, he, hK⟩ := hs.elim
  obtain ⟨v, hv, hr⟩ := vfieldAddr_sound hT h he
  exact ⟨s, v, hK, by simp [execOp, hv], hr⟩
 case h_6 t x f =>
  obtain ⟨s, he, hK⟩ := hs.elim
  obtain ⟨v, hv, hr⟩ := vfield_sound hT h he
  exact ⟨s, v, hK, by simp [execOp, hv], hr⟩
 case h_7 t x y =>
  obtain ⟨s, v, hK, hv, hr⟩ := vindexAddr_sound hT h hs
  exact ⟨s, v, hK, by simp [execOp, hv], hr⟩
 case h_8 t x y =>
  obtain ⟨s, v, hK, hv, hr⟩ := vindex_sound hT h hs
  exact ⟨s, v, hK, by simp [execOp, hv], hr⟩
 case h_9 op t x y yt =>
  obtain ⟨s, v, hK, hv, hr⟩ := vbin_sound hT h hs
  refine ⟨s, v, hK, ?_, hr⟩
  simp only [Sem.run_bind] at hv
  simp only [execOp, Sem.run_bind]
  rw [hv]
  rfl
 case h_10 op t x =>
  obtain ⟨s, v, hK, hv, hr⟩ := vun_sound (P := P) h hs
  exact ⟨s, v, hK, by simp [execOp, hv], hr⟩
 case h_11 s d x =>
  obtain ⟨s, v, hK, hv, hr⟩ := vconv_sound hT h hs
  exact ⟨s, v, hK, by simp [execOp, hv], hr⟩
 case h_12 x i =>
  obtain ⟨s, he, hK⟩ := hs.elim
  obtain ⟨v, hv, hr⟩ := vextract_sound (P := P) h he
  exact ⟨s, v, hK, by simp [execOp, hv], hr⟩
 case h_13 x =>
  cases hp : isPtr (σ.eval x) with
  | false => rw [hp] at hs; exact hs.elim
  | true =>
   rw [hp] at hs
   have hx := h.eval x
   refine ⟨_, a.eval x, hs, ?_, hx⟩
   have : ∃ p, a.eval x = .pointer (some p) := by
    cases he : σ.eval x <;> rw [he] at hp hx <;> first | (cases hp; done) | skip
    ·obtain ⟨_, b, _, e⟩ := hx; exact ⟨_, e⟩
    ·obtain ⟨_, b, n, c, _, _, e⟩ := hx; exact ⟨_, e⟩
    ·obtain ⟨b, o, e, _⟩ := hx; exact ⟨_, e⟩
   obtain ⟨p, hp⟩ := this
   simp [execOp, hp]
 case h_14 c =>
  obtain ⟨callee, args, argTypes⟩ := c
  simp only at hs
  split at hs
  case h_3 => exact hs.elim
  case h_2 =>
   split at hs
   case h_2 => exact hs.elim
   case h_1 x y hx =>
    obtain ⟨s, he, hK⟩ := hs.elim
    obtain ⟨args⟩ := args
    simp only at hx
    subst hx
    obtain ⟨v, hv, hr⟩ := vmax_sound (P := P) (ts := argTypes) (t := type) h he
    exact ⟨s, v, hK, by simp [execOp, resolve, invoke, builtin, hv], hr⟩
  case h_1 =>
   split at hs
   case h_2 => exact hs.elim
   case h_1 x t hx ht =>
    obtain ⟨s, v, hK, hv, hr⟩ := vlen_sound hT h hs type
    obtain ⟨args⟩ := args
    obtain ⟨argTypes⟩ := argTypes
    simp only at hx ht
    subst hx; subst ht
    exact ⟨s, v, hK, by simp [execOp, resolve, invoke, builtin, hv], hr⟩
 case h_15 => exact hs.elim
end
end Go.Vs

namespace Go.Vs
open Go.RowKit (Below)
section
variable {P : Program} [Glob P] {T : Ty} {F : Fix P} {σ : St} {g : Gh} {a : Act} {w : World}
def St.new (σ : St) (o : Ob) : St := { σ with obj := fun r => cond (Nat.beq r σ.next) o (σ.obj r), next := σ.next + 1 }
def St.set (σ : St) (r : Nat) (o : Ob) : St := { σ with obj := fun q => cond (Nat.beq q r) o (σ.obj q) }
theorem St.new_obj (σ : St) (o : Ob) (r : Nat) : (σ.new o).obj r = if r = σ.next then o else σ.obj r := by
 simp only [St.new, beq_eq]; by_cases h : r = σ.next <;> simp [h]
theorem St.set_obj (σ : St) (r : Nat) (o : Ob) (q : Nat) : (σ.set r o).obj q = if q = r then o else σ.obj q := by
 simp only [St.set, beq_eq]; by_cases h : q = r <;> simp [h]
@[simp] theorem St.new_slots (σ : St) (o : Ob) : (σ.new o).slots = σ.slots := rfl
@[simp] theorem St.new_next (σ : St) (o : Ob) : (σ.new o).next = σ.next + 1 := rfl
@[simp] theorem St.set_slots (σ : St) (r : Nat) (o : Ob) : (σ.set r o).slots = σ.slots := rfl
@[simp] theorem St.set_next (σ : St) (r : Nat) (o : Ob) : (σ.set r o).next = σ.next := rfl
structure Ev (t : Nat → Prop) (σ : St) (g : Gh) (w : World) (σ' : St) (g' : Gh) (w' : World) : Prop where
 grow : Grow w g w' g'
 fr : ∀ b r, g.om b = some r → ¬ t r → w'.heap[b]? = w.heap[b]? ∧ g'.om b = some r
 df : ∀ k, g'.df k → g.df k ∨ (σ.next ≤ k ∧ k < σ'.next)
 nx : σ.next ≤ σ'.next
 sz : w.heap.size ≤ w'.heap.size
 slots : σ'.slots = σ.slots
 obj : ∀ r, ¬ t r → ¬ (σ.next ≤ r ∧ r < σ'.next) → σ'.obj r = σ.obj r
def no (_ : Nat) : Prop := False
theorem Ev.refl (t : Nat → Prop) (σ : St) (g : Gh) (w : World) : Ev t σ g w σ g w :=
 ⟨Grow.refl w g, fun _ _ h _ => ⟨rfl, h⟩, fun _ h => .inl h, Nat.le_refl _, Nat.le_refl _, rfl, fun _ _ _ => rfl⟩
theorem Grow.trans {w w' w'' : World} {g g' g'' : Gh} (h : Grow w g w' g') (k : Grow w' g' w'' g'') : Grow w g w'' g'' :=
 ⟨fun b hb => k.F b (h.F b hb), fun b hb => k.T b (h.T b hb), fun r hr => k.df r (h.df r hr), fun r hr => (k.rv r (h.df r hr)).trans (h.rv r hr),
  fun b hb => (k.keep b (hb.imp (h.F b) (h.T b))).trans (h.keep b hb)⟩
theorem Ev.trans {t : Nat → Prop} {σ σ' σ'' : St} {g g' g'' : Gh} {w w' w'' : World} (h : Ev t σ g w σ' g' w') (k : Ev t σ' g' w' σ'' g'' w'') : Ev t σ g w σ'' g'' w'' := by
 refine ⟨h.grow.trans k.grow, fun b r hb ht => ?_, fun q hq => ?_, Nat.le_trans h.nx k.nx, Nat.le_trans h.sz k.sz, k.slots.trans h.slots, fun r ht hr => ?_⟩
 ·obtain ⟨h1, h2⟩ := h.fr b r hb ht
  obtain ⟨h3, h4⟩ := k.fr b r h2 ht
  exact ⟨h3.trans h1, h4⟩
 ·rcases k.df q hq with h1 | h1
  ·rcases h.df q h1 with h2 | h2
   ·exact .inl h2
   ·exact .inr ⟨h2.1, Nat.lt_of_lt_of_le h2.2 k.nx⟩
  ·exact .inr ⟨Nat.le_trans h.nx h1.1, h1.2⟩
 ·have h1 := h.nx
  have h2 := k.nx
  rw [k.obj r ht (by omega), h.obj r ht (by omega)]
theorem Ev.mono {t t' : Nat → Prop} (ht : ∀ r, t r → t' r) {σ σ' : St} {g g' : Gh} {w w' : World} (h : Ev t σ g w σ' g' w') : Ev t' σ g w σ' g' w' :=
 ⟨h.grow, fun b r hb hn => h.fr b r hb fun hh => hn (ht r hh), h.df, h.nx, h.sz, h.slots, fun r hn hr => h.obj r (fun hh => hn (ht r hh)) hr⟩
theorem Rel.le (h : Rel F σ g a w) : F.w0.heap.size ≤ w.heap.size := h.below.size
theorem Rel.zone (h : Rel F σ g a w) {b : Nat} (hz : g.Fz b ∨ g.Tz b) : b < w.heap.size ∧ g.om b = none := by
 rcases hz with hz | hz
 ·exact (h.fz b hz).2
 ·rw [h.tz] at hz
  have := h.tz' b hz
  exact ⟨by have := h.le; omega, this.2⟩
theorem Rel.new (h : Rel F σ g a w) (hfree : ¬ g.df σ.next) (t : Nat → Prop) (htn : ∀ r, t r → σ.obj r = .none) {w' : World} (hbel : BX F w') (hsz : w.heap.size ≤ w'.heap.size)
  (hkeep : ∀ b, g.Fz b ∨ g.Tz b → w'.heap[b]? = w.heap[b]?) (hobj : ∀ b r, g.om b = some r → ¬ t r → w'.heap[b]? = w.heap[b]?)
  (o : Ob) (v : Value) (hblk : ∀ b, blk v = some b → (F.w0.heap.size ≤ b ∨ F.X b) ∧ b < w'.heap.size ∧ ¬ g.Fz b ∧ ¬ F.Tz b ∧ ∀ r, g.om b = some r → t r)
  (ho : ∀ g', g'.rv σ.next = v → (∀ b, blk v = some b → g'.om b = some σ.next) → Grow w g w' g' → RO w' g' σ.next o) :
  ∃ g', Rel F (σ.new o) g' a w' ∧ g'.rv σ.next = v ∧ g'.df σ.next ∧ Ev t σ g w (σ.new o) g' w' := by
 let g' : Gh := { g with om := fun b => if blk v = some b then some σ.next else g.om b, rv := fun r => if r = σ.next then v else g.rv r, df := fun r => g.df r ∨ r = σ.next }
 have hrv : g'.rv σ.next = v := by simp [g']
 have hgr : Grow w g w' g' := ⟨fun _ h => h, fun _ h => h, fun _ h => .inl h, fun r hr => by
  have : r ≠ σ.next := fun e => hfree (e ▸ hr)
  simp [g', this], hkeep⟩
 have hfr : ∀ b r, g.om b = some r → ¬ t r → w'.heap[b]? = w.heap[b]? ∧ g'.om b = some r := fun b r hb ht => by
  refine ⟨hobj b r hb ht, ?_⟩
  have : ¬ blk v = some b := fun hv => ht ((hblk b hv).2.2.2.2 r hb)
  simp [g', this, hb]
 refine ⟨g', ⟨h.defers, h.size, fun t => RS.mono hgr _ _ (h.slots t), fun r hr => ?_, fun r hr => ?_, fun b hb => ?_, h.tz, fun b hb => ?_, fun b r hb => ?_, hbel, fun r hr => ?_⟩, hrv, .inr rfl,
  ⟨hgr, hfr, fun k hk => ?_, by simp, hsz, rfl, fun r ht hr => ?_⟩⟩
 ·rw [St.new_obj]
  by_cases e : r = σ.next
  ·subst e
   rw [if_pos rfl]
   exact ho g' hrv (fun b hb => by simp [g', hb]) hgr
  ·rw [if_neg e]
   have hr' : g.df r := by
    rcases hr with hr | hr
    ·exact hr
    ·exact absurd hr e
   by_cases hn : t r
   ·rw [htn r hn]; trivial
   ·exact RO.mono hgr r hr' _ (fun b hom => hfr b r hom hn) (h.objs r hr')
 ·rw [St.new_obj] at hr
  by_cases e : r = σ.next
  ·exact .inr e
  ·rw [if_neg e] at hr; exact .inl (h.alive r hr)
 ·have := h.fz b hb
  have hne : ¬ blk v = some b := fun hv => (hblk b hv).2.2.1 hb
  exact ⟨this.1, by omega, by simp [g', hne, this.2.2]⟩
 ·have hne : ¬ blk v = some b := fun hv => (hblk b hv).2.2.2.1 hb
  exact ⟨(h.tz' b hb).1, by simp [g', hne, (h.tz' b hb).2]⟩
 ·by_cases hv : blk v = some b
  ·exact ⟨(hblk b hv).1, (hblk b hv).2.1⟩
  ·have hb' : g.om b = some r := by simpa [g', hv] using hb
   have := h.om b r hb'
   exact ⟨this.1, by omega⟩
 ·have := h.prm r hr
  exact ⟨.inl this.1, (hgr.rv r this.1).trans this.2⟩
 ·rcases hk with hk | hk
  ·exact .inl hk
  ·exact .inr ⟨by omega, by simp; omega⟩
 ·rw [St.new_obj, if_neg (by simp at hr; omega)]
theorem Rel.kill (h : Rel F σ g a w) (r : Nat) : Rel F (σ.set r .none) g a w :=
 ⟨h.defers, h.size, h.slots, fun q hq => by
  rw [St.set_obj]; by_cases e : q = r
  ·rw [if_pos e]; trivial
  ·rw [if_neg e]; exact h.objs q hq, fun q hq => by
  rw [St.set_obj] at hq; by_cases e : q = r
  ·rw [if_pos e] at hq; exact absurd rfl hq
  ·rw [if_neg e] at hq; exact h.alive q hq, h.fz, h.tz, h.tz', h.om, h.below, h.prm⟩
theorem BX.below (h : BX F w) {w' : World} (hb : Below w.heap.size w w') : BX F w' :=
 ⟨hb.os.trans h.os, hb.tape.trans h.tape, hb.output.trans h.output, Nat.le_trans h.size hb.size, fun k hk hx => (hb.block k (Nat.lt_of_lt_of_le hk h.size)).trans (h.block k hk hx)⟩
theorem BX.grown (h : BX F w) {w' : World} {row : Option Nat} (hg : w.grownBy w' row) (hr : ∀ k, row = some k → F.w0.heap.size ≤ k ∨ F.X k) : BX F w' :=
 ⟨hg.os.trans h.os, hg.tape.trans h.tape, hg.output.trans h.output, Nat.le_trans h.size hg.size, fun k hk hx => (hg.block k (Nat.lt_of_lt_of_le hk h.size) (fun e => by
  rcases hr k e.symm with h1 | h1
  ·omega
  ·exact hx h1)).trans (h.block k hk hx)⟩
theorem Rel.fresh (h : Rel F σ g a w) (hfree : ¬ g.df σ.next) {w' : World} (hb : Below w.heap.size w w') (o : Ob) (v : Value) (hblk : ∀ b, blk v = some b → w.heap.size ≤ b ∧ b < w'.heap.size)
  (ho : ∀ g', g'.rv σ.next = v → (∀ b, blk v = some b → g'.om b = some σ.next) → Grow w g w' g' → RO w' g' σ.next o) :
  ∃ g', Rel F (σ.new o) g' a w' ∧ g'.rv σ.next = v ∧ g'.df σ.next ∧ Ev no σ g w (σ.new o) g' w' := by
 refine h.new hfree no (fun _ h => h.elim) (h.below.below hb) hb.size (fun b hz => hb.block b (h.zone hz).1) (fun b r hom _ => hb.block b (h.om b r hom).2) o v (fun b hv => ?_) ho
 obtain ⟨h1, h2⟩ := hblk b hv
 have hle := h.le
 exact ⟨.inl (by omega), h2, fun hf => by have := (h.fz b hf).2.1; omega, fun hf => by have := (h.tz' b hf).1; omega, fun r hom => by have := (h.om b r hom).2; omega⟩
theorem Rel.setObj (h : Rel F σ g a w) {r : Nat} (hr : g.df r) (o : Ob) {w' : World} {row : Option Nat} (hg : w.grownBy w' row) (hrow : ∀ k, row = some k → g.om k = some r)
  (hs : w'.heap.size = w.heap.size) (ho : Grow w g w' g → RO w' g r o) : Rel F (σ.set r o) g a w' ∧ Ev (· = r) σ g w (σ.set r o) g w' := by
 have hkeep : ∀ b, b < w.heap.size → g.om b ≠ some r → w'.heap[b]? = w.heap[b]? := fun b hb hne => hg.block b hb fun e => hne (hrow b e.symm)
 have hgr : Grow w g w' g := ⟨fun _ h => h, fun _ h => h, fun _ h => h, fun _ _ => rfl, fun b hz => by
  have := h.zone hz
  exact hkeep b this.1 (by rw [this.2]; simp)⟩
 refine ⟨⟨h.defers, h.size, fun t => RS.mono hgr _ _ (h.slots t), fun q hq => ?_, fun q hq => ?_, fun b hb => by rw [hs]; exact h.fz b hb, h.tz, h.tz', fun b q hb => by rw [hs]; exact h.om b q hb,
  h.below.grown hg fun k hk => (h.om k r (hrow k hk)).1, h.prm⟩,
  ⟨hgr, fun b q hb ht => ⟨hkeep b (h.om b q hb).2 (by rw [hb]; simpa using ht), hb⟩, fun k hk => .inl hk, Nat.le_refl _, by omega, rfl, fun q ht _ => by rw [St.set_obj, if_neg ht]⟩⟩
 ·rw [St.set_obj]
  by_cases e : q = r
  ·subst e; rw [if_pos rfl]; exact ho hgr
  ·rw [if_neg e]
   exact RO.mono hgr q hq _ (fun b hom => ⟨hkeep b (h.om b q hom).2 (by rw [hom]; simpa using e), hom⟩) (h.objs q hq)
 ·rw [St.set_obj] at hq
  by_cases e : q = r
  ·rw [e]; exact hr
  ·rw [if_neg e] at hq; exact h.alive q hq
theorem Rel.freeze (h : Rel F σ g a w) {r e n sz : Nat} {get : Nat → Nat → U} (hr : g.df r) (ho : σ.obj r = .row e n sz get) :
  ∃ g', Rel F (σ.set r (.frow e n sz get)) g' a w ∧ Ev (fun q => σ.obj q ≠ .none) σ g w (σ.set r (.frow e n sz get)) g' w ∧ RU w g' (.sl false n sz get) (g.rv r) := by
 have hro := h.objs r hr
 rw [ho] at hro
 obtain ⟨h1, h2, ⟨cs, hown, hc⟩, hom⟩ := hro
 let g' : Gh := { g with Fz := fun b => g.Fz b ∨ (g.rv r).ownBlock = some b, om := fun b => if (g.rv r).ownBlock = some b then none else g.om b }
 have hgr : Grow w g w g' := ⟨fun _ h => .inl h, fun _ h => h, fun _ h => h, fun _ _ => rfl, fun _ _ => rfl⟩
 have hru : RU w g' (.sl false n sz get) (g.rv r) := by
  rcases hown.2 with ⟨hn, h0⟩ | ⟨gb, cap, cur, e1, _, e3, e4, _⟩
  ·exact ⟨none, 0, by rw [hn, h0], by omega, h2, fun hp => by omega⟩
  ·refine ⟨some ⟨gb, 0, none⟩, cap, e1, e4, h2, fun _ => ⟨gb, 0, rfl, .inl (.inr (by rw [e1]; rfl)), fun i hi j hj => ?_⟩⟩
   obtain ⟨x, hx, hu⟩ := hc i hi j hj
   have := hown.cells (g := gb) (by rw [e1]; rfl) (i * sz + j) x hx
   rw [addr_add] at this
   exact ⟨x, this, RU.mono hgr _ _ hu⟩
 have hkeep : ∀ b q, g.om b = some q → q ≠ r → g'.om b = some q := fun b q hb hne => by
  have : ¬ (g.rv r).ownBlock = some b := fun hv => by have := hom b hv; rw [hb] at this; simp at this; exact hne this
  simp [g', this, hb]
 refine ⟨g', ⟨h.defers, h.size, fun t => RS.mono hgr _ _ (h.slots t), fun q hq => ?_, fun q hq => ?_, fun b hb => ?_, h.tz, fun b hb => ⟨(h.tz' b hb).1, ?_⟩, fun b q hb => ?_, h.below, h.prm⟩,
  ⟨hgr, fun b q hb ht => ⟨rfl, hkeep b q hb fun e => ht (by rw [e, ho]; simp)⟩, fun k hk => .inl hk, Nat.le_refl _, Nat.le_refl _, rfl, fun q ht _ => ?_⟩, hru⟩
 ·rw [St.set_obj]
  by_cases e : q = r
  ·subst e; rw [if_pos rfl]; exact ⟨h1, hru⟩
  ·rw [if_neg e]
   exact RO.mono hgr q hq _ (fun b hq' => ⟨rfl, hkeep b q hq' e⟩) (h.objs q hq)
 ·rw [St.set_obj] at hq
  by_cases e : q = r
  ·rw [e]; exact hr
  ·rw [if_neg e] at hq; exact h.alive q hq
 ·rcases hb with hb | hb
  ·have h3 := h.fz b hb
   refine ⟨h3.1, h3.2.1, ?_⟩
   show (if _ then none else g.om b) = none
   split
   ·rfl
   ·exact h3.2.2
  ·have h3 := h.om b r (hom b hb)
   exact ⟨h3.1.imp id .inr, h3.2, by simp [g', hb]⟩
 ·show (if _ then none else g.om b) = none
  split
  ·rfl
  ·exact (h.tz' b hb).2
 ·have : g.om b = some q := by
   simp only [g'] at hb
   split at hb
   ·cases hb
   ·exact hb
  exact h.om b q this
 ·rw [St.set_obj]
  by_cases e : q = r
  ·exact absurd (by rw [e, ho]; simp) ht
  ·rw [if_neg e]
def freezeL (σ : St) (l : L) : Option (U × St) :=
 match l with
 | .u x => some (x, σ)
 | .nil => some (.sl false 0 1 (fun _ _ => .bool false), σ)
 | .row r => match σ.obj r with
  | .row e n sz get => some (.sl false n sz get, σ.set r (.frow e n sz get))
  | .frow _ n sz get => some (.sl false n sz get, σ)
  | _ => none
 | .dead => none
def freezeLs (σ : St) : List L → Option (List U × St)
 | [] => some ([], σ)
 | l :: ls => match freezeL σ l with
  | some (x, σ') => match freezeLs σ' ls with
   | some (xs, σ'') => some (x :: xs, σ'')
   | none => none
  | none => none
def RUs (w : World) (g : Gh) : List U → List Value → Prop
 | [], [] => True
 | u :: us, v :: vs => RU w g u v ∧ RUs w g us vs
 | _, _ => False
theorem RUs.mono {w w' : World} {g g' : Gh} (h : Grow w g w' g') : ∀ (us : List U) (vs : List Value), RUs w g us vs → RUs w' g' us vs
 | [], [], _ => trivial
 | u :: us, v :: vs, hv => ⟨RU.mono h u v hv.1, RUs.mono h us vs hv.2⟩
 | [], _ :: _, hv => hv.elim
 | _ :: _, [], hv => hv.elim
theorem RUs.len {w : World} {g : Gh} : ∀ {us : List U} {vs : List Value}, RUs w g us vs → us.length = vs.length
 | [], [], _ => rfl
 | _ :: _, _ :: _, h => by simp [RUs.len h.2]
 | [], _ :: _, h => h.elim
 | _ :: _, [], h => h.elim
theorem RUs.get {w : World} {g : Gh} (d : U) : ∀ {us : List U} {vs : List Value}, RUs w g us vs → ∀ {j : Nat}, j < us.length → ∃ v, vs[j]? = some v ∧ RU w g (us.getD j d) v
 | [], [], _, j, h => by simp at h
 | u :: us, v :: vs, h, 0, _ => ⟨v, rfl, h.1⟩
 | _ :: us, _ :: vs, h, j + 1, e => by simpa using RUs.get d h.2 (j := j) (by simpa using e)
 | [], _ :: _, h, _, _ => h.elim
 | _ :: _, [], h, _, _ => h.elim
theorem freezeL_sound (h : Rel F σ g a w) {l : L} {x : U} {σ' : St} (hf : freezeL σ l = some (x, σ')) {v : Value} (hv : RL w g l v) :
  ∃ g', Rel F σ' g' a w ∧ Ev (fun q => σ.obj q ≠ .none) σ g w σ' g' w ∧ RU w g' x v ∧ σ'.next = σ.next ∧ ∀ q, σ'.obj q ≠ .none → σ.obj q ≠ .none := by
 unfold freezeL at hf
 split at hf
 ·simp only [Option.some.injEq, Prod.mk.injEq] at hf
  obtain ⟨rfl, rfl⟩ := hf
  exact ⟨g, h, Ev.refl _ _ _ _, hv, rfl, fun _ h => h⟩
 ·simp only [Option.some.injEq, Prod.mk.injEq] at hf
  obtain ⟨rfl, rfl⟩ := hf
  exact ⟨g, h, Ev.refl _ _ _ _, ⟨none, 0, hv, by omega, by simp [bound], fun hp => by omega⟩, rfl, fun _ h => h⟩
 ·rename_i r
  obtain ⟨hr, hv1, _⟩ := hv
  split at hf
  ·rename_i e n sz get ho
   simp only [Option.some.injEq, Prod.mk.injEq] at hf
   obtain ⟨rfl, rfl⟩ := hf
   obtain ⟨g', h1, h2, h3⟩ := h.freeze hr ho
   refine ⟨g', h1, h2, by rw [hv1]; exact h3, rfl, fun q hq => ?_⟩
   rw [St.set_obj] at hq
   by_cases eq : q = r
   ·rw [eq, ho]; simp
   ·rwa [if_neg eq] at hq
  ·rename_i e n sz get ho
   simp only [Option.some.injEq, Prod.mk.injEq] at hf
   obtain ⟨rfl, rfl⟩ := hf
   have hro := h.objs r hr
   rw [ho] at hro
   exact ⟨g, h, Ev.refl _ _ _ _, by rw [hv1]; exact hro.2, rfl, fun _ h => h⟩
  ·cases hf
 ·cases hf
theorem freezeLs_sound : ∀ {ls : List L} {σ : St} {g : Gh} (_ : Rel F σ g a w) {xs : List U} {σ' : St} (_ : freezeLs σ ls = some (xs, σ')) {vs : List Value} (_ : RLs w g ls vs),
  ∃ g', Rel F σ' g' a w ∧ Ev (fun q => σ.obj q ≠ .none) σ g w σ' g' w ∧ RUs w g' xs vs ∧ σ'.next = σ.next ∧ ∀ q, σ'.obj q ≠ .none → σ.obj q ≠ .none
 | [], σ, g, h, xs, σ', hf, vs, hv => by
  simp only [freezeLs, Option.some.injEq, Prod.mk.injEq] at hf
  obtain ⟨rfl, rfl⟩ := hf
  cases vs with
  | nil => exact ⟨g, h, Ev.refl _ _ _ _, trivial, rfl, fun _ h => h⟩
  | cons _ _ => exact hv.elim
 | l :: ls, σ, g, h, xs, σ', hf, vs, hv => by
  cases vs with
  | nil => exact hv.elim
  | cons v vs =>
   simp only [freezeLs] at hf
   cases h1 : freezeL σ l with
   | none => rw [h1] at hf; cases hf
   | some p =>
    obtain ⟨x, σ1⟩ := p
    rw [h1] at hf
    simp only at hf
    obtain ⟨g1, r1, ev1, hu, n1, l1⟩ := freezeL_sound h h1 hv.1
    cases h2 : freezeLs σ1 ls with
    | none => rw [h2] at hf; cases hf
    | some q =>
     obtain ⟨xs', σ2⟩ := q
     rw [h2] at hf
     simp only [Option.some.injEq, Prod.mk.injEq] at hf
     obtain ⟨rfl, rfl⟩ := hf
     obtain ⟨g2, r2, ev2, hus, n2, l2⟩ := freezeLs_sound r1 h2 (RLs.mono ev1.grow _ _ hv.2)
     exact ⟨g2, r2, ev1.trans (ev2.mono fun q hq => l1 q hq), ⟨RU.mono ev2.grow _ _ hu, hus⟩, by rw [n2, n1], fun q hq => l1 q (l2 q hq)⟩
theorem freezeLs_len : ∀ {ls : List L} {σ σ' : St} {xs : List U}, freezeLs σ ls = some (xs, σ') → xs.length = ls.length
 | [], σ, σ', xs, h => by simp only [freezeLs, Option.some.injEq, Prod.mk.injEq] at h; obtain ⟨rfl, _⟩ := h; rfl
 | l :: ls, σ, σ', xs, h => by
  simp only [freezeLs] at h
  split at h
  ·split at h
   ·rename_i h2
    simp only [Option.some.injEq, Prod.mk.injEq] at h
    obtain ⟨rfl, _⟩ := h
    simp [freezeLs_len h2]
   ·cases h
  ·cases h
end
end Go.Vs

namespace Go.Vs
open Go.RowKit (Below)
section
variable {P : Program} [Glob P] {T : Ty} {F : Fix P} {σ : St} {g : Gh} {a : Act} {w : World}
theorem constL_sound (w : World) (g : Gh) (v : Value) (h1 : v.oneCell' = true) : RL w g (constL v) v := by
 unfold constL
 split
 ·rfl
 ·rfl
 ·rfl
 ·rfl
 ·exact h1
theorem constLs_sound (w : World) (g : Gh) : ∀ (vs : List Value), vs.all (·.oneCell') = true → RLs w g (vs.map constL) vs
 | [], _ => trivial
 | v :: vs, h => by
  simp only [List.all_cons, Bool.and_eq_true] at h
  exact ⟨constL_sound w g v h.1, constLs_sound w g vs h.2⟩
theorem below_alloc' (w : World) (o : Obj) : Below w.heap.size w (w.alloc o) := (Below.refl _ _).alloc (Nat.le_refl _) o
def al (σ : St) (r : Nat) : Prop := σ.obj r ≠ .none
theorem Rel.newBox (h : Rel F σ g a w) (hfree : ¬ g.df σ.next) (e : Nat) (ls : List L) (cs : Array Value) (hl : RLs w g ls cs.toList) :
  ∃ g', Rel F (σ.new (.box e ls)) g' a (w.alloc (.cells cs e)) ∧ RS (w.alloc (.cells cs e)) g' (.ptr σ.next 0) (.pointer (some ⟨w.heap.size, 0, none⟩)) ∧
   Ev no σ g w (σ.new (.box e ls)) g' (w.alloc (.cells cs e)) := by
 obtain ⟨g', h1, h2, h4, h3⟩ := h.fresh hfree (below_alloc' w (.cells cs e)) (.box e ls) (.pointer (some ⟨w.heap.size, 0, none⟩)) (fun b hb => by
   simp only [blk, Option.some.injEq] at hb; subst hb; simp) (fun g' hrv hom hgr => ⟨w.heap.size, cs, hrv, hom _ rfl, heap_alloc_new w _, RLs.mono hgr _ _ hl⟩)
 exact ⟨g', h1, ⟨h4, w.heap.size, h2, rfl⟩, h3⟩
theorem Rel.newRow (h : Rel F σ g a w) (hfree : ¬ g.df σ.next) (e n sz : Nat) (get : Nat → Nat → U) (cs : Array Value) (hsz : 0 < sz) (hn : n ≤ bound) (hcs : cs.size = n * sz)
  (hc : ∀ i, i < n → ∀ j, j < sz → ∃ x, cs.toList[i * sz + j]? = some x ∧ RU w g (get i j) x) :
  ∃ g', Rel F (σ.new (.row e n sz get)) g' a (w.alloc (.cells cs e)) ∧ RS (w.alloc (.cells cs e)) g' (.val false [.row σ.next]) (.slice (some ⟨w.heap.size, 0, none⟩) n n) ∧
   Ev no σ g w (σ.new (.row e n sz get)) g' (w.alloc (.cells cs e)) := by
 obtain ⟨g', h1, h2, h4, h3⟩ := h.fresh hfree (below_alloc' w (.cells cs e)) (.row e n sz get) (.slice (some ⟨w.heap.size, 0, none⟩) n n) (fun b hb => by
   simp only [blk, Option.some.injEq] at hb; subst hb; simp) (fun g' hrv hom hgr => by
   refine ⟨hsz, hn, ⟨cs.toList, ⟨by simpa using hcs, .inr ⟨w.heap.size, n, cs, hrv, Nat.zero_le _, heap_alloc_new w _, Nat.le_refl _, by simp only [bound, maxLen] at *; omega, hcs, ?_⟩⟩, fun i hi j hj => ?_⟩, fun b hb => hom b ?_⟩
   ·rw [← hcs]; exact List.take_of_length_le (by simp)
   ·obtain ⟨x, hx, hu⟩ := hc i hi j hj
    exact ⟨x, hx, RU.mono hgr _ _ hu⟩
   ·rw [hrv] at hb; exact blk_own hb)
 exact ⟨g', h1, RV.of_cell ⟨h4, h2.symm, rfl⟩, h3⟩
def bldQ (t e : Nat) (s : ByteArray) : World → (Nat → Prop) → Value → Prop := fun w own v =>
 ∃ b p bv, v = .pointer (some ⟨b, 0, none⟩) ∧ own b ∧ w.heap[b]? = some (.cells #[p, bv] t (0, 0)) ∧ (p = .pointer none ∨ p = .pointer (some ⟨b, 0, none⟩)) ∧
  w.ownsRow 0 e 1 bv s.data.toList.length (s.data.toList.map fun x => Value.int .u8 (x.toNat : Int)) ∧ bv.ownBlock ≠ some b ∧ ∀ k, bv.ownBlock = some k → own k
def valloc (T : Ty) (σ : St) (t : Nat) (K : S → St → Prop) : Prop :=
 match T t with
 | some i => match i.desc with
  | .builder e => i.zero = [.pointer none, .slice none 0 0] ∧ K (.ptr σ.next 0) (σ.new (.abs (bldQ t e ByteArray.empty)))
  | _ => K (.ptr σ.next 0) (σ.new (.box t (i.zero.map constL)))
 | none => False
theorem valloc_sound (hT : TabOk P T) (h : Rel F σ g a w) (hfree : ¬ g.df σ.next) {t : Nat} {K : S → St → Prop} (hs : valloc T σ t K) :
  ∃ s σ' g' v w', K s σ' ∧ (Instr.alloc t true (.tuple #[])).run P w = .ok v w' ∧ Rel F σ' g' a w' ∧ RS w' g' s v ∧ Ev no σ g w σ' g' w' := by
 unfold valloc at hs
 split at hs
 case h_2 => exact hs.elim
 case h_1 i hi =>
  have ty := hT t i hi
  obtain ⟨inf, z, h1, h2, h3, h4, h5⟩ := ty.info
  split at hs
  ·rename_i e _
   obtain ⟨hz, hs⟩ := hs
   have hzc : z.cells = #[.pointer none, .slice none 0 0] := by
    apply Array.ext'
    rw [h5, hz]
   obtain ⟨g', r1, r2, r4, r3⟩ := h.fresh hfree (below_alloc' w (.cells z.cells t)) (.abs (bldQ t e ByteArray.empty)) (.pointer (some ⟨w.heap.size, 0, none⟩)) (fun b hb => by
     simp only [blk, Option.some.injEq] at hb; subst hb; simp) (fun g' hrv hom hgr => by
     refine ⟨fun b => b = w.heap.size, fun b hb => hom b (by rw [hb]; rfl), fun b hb => ?_, fun w' hw => ?_⟩
     ·rw [hrv] at hb
      simp only [blk, Option.some.injEq] at hb
      exact hb.symm
     ·rw [hrv]
      refine ⟨w.heap.size, .pointer none, .slice none 0 0, rfl, rfl, ?_, .inl rfl, World.ownsRow_nil w' 0 e 1, by simp [Value.ownBlock], fun k hk => by simp [Value.ownBlock] at hk⟩
      rw [hw _ rfl, heap_alloc_new, hzc])
   exact ⟨_, _, g', _, _, hs, by simp [Instr.alloc, zeroValue, typeInfo, h1, h4, newVar, newRow], r1, ⟨r4, w.heap.size, r2, rfl⟩, r3⟩
  ·obtain ⟨g', r1, r2, r3⟩ := h.newBox hfree t (i.zero.map constL) z.cells (by rw [h5]; exact constLs_sound _ _ _ ty.one)
   exact ⟨_, _, g', _, _, hs, by simp [Instr.alloc, zeroValue, typeInfo, h1, h4, newVar, newRow], r1, r2, r3⟩
theorem RV.cells {w : World} {g : Gh} {agg : Bool} {ls : List L} {v : Value} (h : RV w g agg ls v) : RLs w g ls v.cells.toList := by
 obtain ⟨cs, e, hl⟩ := h
 cases agg with
 | true => simp only [if_true] at e; rw [e]; simpa [Value.cells] using hl
 | false =>
  simp only [Bool.false_eq_true, if_false] at e
  subst e
  rw [cells_one (RLs.one hl v (by simp))]
  exact hl
def vbox (σ : St) (t : Nat) (s : S) (K : S → St → Prop) : Prop :=
 match s with
 | .val _ ls => K (.ptr σ.next 0) (σ.new (.box t ls))
 | _ => False
theorem vbox_sound (h : Rel F σ g a w) (hfree : ¬ g.df σ.next) {t : Nat} {x : Operand} {K : S → St → Prop} (hs : vbox σ t (σ.eval x) K) :
  ∃ s σ' g' v w', K s σ' ∧ (Instr.box t (a.eval x)).run P w = .ok v w' ∧ Rel F σ' g' a w' ∧ RS w' g' s v ∧ Ev no σ g w σ' g' w' := by
 have hx := h.eval x
 unfold vbox at hs
 split at hs
 case h_2 => exact hs.elim
 case h_1 agg ls he =>
  rw [he] at hx
  obtain ⟨g', r1, r2, r3⟩ := h.newBox hfree t ls (a.eval x).cells (RV.cells hx)
  exact ⟨_, _, g', _, _, hs, by simp [Instr.box, newVar, newRow], r1, r2, r3⟩
def spliceL {α : Type} (ls : List α) (off : Nat) (us : List α) : List α := ls.take off ++ us ++ ls.drop (off + us.length)
noncomputable def overS {α : Type} (us : List α) : List α → List α := List.rec (fun ls => ls) (fun u _ ih ls => List.rec [] (fun _ ls _ => u :: ih ls) ls) us
noncomputable def spliceS {α : Type} (ls : List α) (off : Nat) (us : List α) : List α :=
 Nat.rec (motive := fun _ => List α → List α) (fun ls => overS us ls) (fun _ ih ls => List.rec [] (fun l ls _ => l :: ih ls) ls) off ls
theorem overS_eq {α : Type} : ∀ (us ls : List α), us.length ≤ ls.length → overS us ls = us ++ ls.drop us.length
 | [], ls, _ => rfl
 | u :: us, [], h => by simp at h
 | u :: us, l :: ls, h => by
  show u :: overS us ls = _
  rw [overS_eq us ls (by simpa using h)]; rfl
theorem spliceS_eq {α : Type} : ∀ (off : Nat) (ls us : List α), off + us.length ≤ ls.length → spliceS ls off us = spliceL ls off us
 | 0, ls, us, h => by
  show overS us ls = _
  rw [overS_eq us ls (by omega)]
  simp [spliceL]
 | off + 1, [], us, h => by simp at h
 | off + 1, l :: ls, us, h => by
  show l :: spliceS ls off us = _
  rw [spliceS_eq off ls us (by simp at h; omega)]
  simp [spliceL, show off + 1 + us.length = (off + us.length) + 1 from by omega]
noncomputable def vfill (place : Nat → Option (Nat × Nat)) : List L → List (Nat × S) → Option (List L)
 | ls, [] => some ls
 | ls, (i, s) :: r => match s with
  | .val _ us => match place i with
   | some (off, sz) => cond (Nat.beq us.length sz && Nat.ble (off + sz) ls.length) (vfill place (spliceS ls off us) r) none
   | none => none
  | _ => none
theorem fold_set (off : Nat) : ∀ (vs : List Value) (k : Nat) (cs : Array Value), off + k + vs.length ≤ cs.size →
  ((vs.zipIdx k).foldl (fun (cs : Array Value) (c, j) => cs.setIfInBounds (off + j) c) cs).toList = cs.toList.take (off + k) ++ vs ++ cs.toList.drop (off + k + vs.length)
 | [], k, cs, _ => by simp
 | v :: vs, k, cs, h => by
  have hk : off + k < cs.toList.length := by simp at h ⊢; omega
  simp only [List.zipIdx_cons, List.foldl_cons]
  rw [fold_set off vs (k + 1) (cs.setIfInBounds (off + k) v) (by simp at h ⊢; omega)]
  have := list_seg_step cs.toList (off + k) v vs (by simp at h ⊢; omega)
  simpa [Array.toList_setIfInBounds, Nat.add_assoc] using this
theorem RLs.splice {w : World} {g : Gh} {ls us : List L} {cs vs : List Value} (off : Nat) (h : RLs w g ls cs) (k : RLs w g us vs) : RLs w g (spliceL ls off us) (spliceL cs off vs) := by
 unfold spliceL
 rw [RLs.len k]
 exact RLs.append (RLs.append (RLs.take _ h) k) (RLs.drop _ h)
theorem vfill_sound {w : World} {g : Gh} (place : Nat → Option (Nat × Nat)) : ∀ (parts : List (Nat × S)) (vals : List (Nat × Value)) (ls : List L) (cs : Array Value) (ls' : List L),
  vfill place ls parts = some ls' → RLs w g ls cs.toList → parts.length = vals.length → (∀ (k i : Nat) (s : S), parts[k]? = some (i, s) → ∃ v, vals[k]? = some (i, v) ∧ RS w g s v) →
  ∃ cs', Instr.fill place cs vals = some cs' ∧ RLs w g ls' cs'.toList ∧ cs'.size = cs.size
 | [], vals, ls, cs, ls', h, hl, hn, _ => by
  simp only [vfill, Option.some.injEq] at h
  subst h
  have : vals = [] := List.eq_nil_of_length_eq_zero (by simpa using hn.symm)
  subst this
  exact ⟨cs, rfl, hl, rfl⟩
 | (i, s) :: r, [], ls, cs, ls', h, hl, hn, _ => by simp at hn
 | (i, s) :: r, (i', v) :: vals, ls, cs, ls', h, hl, hn, hp => by
  obtain ⟨v', hv', hs⟩ := hp 0 i s rfl
  simp only [List.getElem?_cons_zero, Option.some.injEq, Prod.mk.injEq] at hv'
  obtain ⟨rfl, rfl⟩ := hv'
  simp only [vfill] at h
  split at h
  case h_2 => cases h
  case h_1 agg us =>
   split at h
   case h_2 => cases h
   case h_1 off sz hpl =>
    cases hc : (Nat.beq us.length sz && Nat.ble (off + sz) ls.length) with
    | false => rw [hc] at h; cases h
    | true =>
     rw [hc] at h
     simp only [cond_true] at h
     simp only [Bool.and_eq_true] at hc
     have h1 := Nat.eq_of_beq_eq_true hc.1
     have h2 := Nat.le_of_ble_eq_true hc.2
     rw [spliceS_eq off ls us (by omega)] at h
     have hcells := RV.cells hs
     have hlen := RLs.len hcells
     have hlen2 := RLs.len hl
     simp only [Array.length_toList] at hlen hlen2
     have hfold := fold_set off v.cells.toList 0 cs (by simp; omega)
     have hz : v.cells.zipIdx.foldl (fun (cs : Array Value) (c, j) => cs.setIfInBounds (off + j) c) cs = (v.cells.toList.zipIdx 0).foldl (fun (cs : Array Value) (c, j) => cs.setIfInBounds (off + j) c) cs := by
      rw [← Array.foldl_toList]; simp
     obtain ⟨cs', e1, e2, e3⟩ := vfill_sound place r vals (spliceL ls off us) (v.cells.zipIdx.foldl (fun (cs : Array Value) (c, j) => cs.setIfInBounds (off + j) c) cs) ls' h
      (by rw [hz, hfold]; exact RLs.splice off hl hcells) (by simpa using hn) (fun k i s hk => by simpa using hp (k + 1) i s (by simpa using hk))
     refine ⟨cs', ?_, e2, ?_⟩
     ·simp only [Instr.fill, hpl]
      rw [if_neg]
      ·exact e1
      ·simp; omega
     ·have hl3 := congrArg List.length hfold
      rw [Array.length_toList] at hl3
      rw [e3, hz, hl3]
      simp
      omega
def asV : S → S
 | .ptr r 0 => .val false [.row r]
 | s => s
theorem asV_sound {w : World} {g : Gh} {s : S} {v : Value} (h : RS w g s v) : RS w g (asV s) v := by
 unfold asV
 split
 ·rename_i r
  obtain ⟨hr, b, e1, e2⟩ := h
  exact ⟨[v], by simp, ⟨hr, by rw [e1, e2], by rw [e2]; rfl⟩, trivial⟩
 ·exact h
def evalParts (σ : St) (parts : Array (Nat × Operand)) : List (Nat × S) := parts.toList.map fun p => (p.1, asV (σ.eval p.2))
theorem evalParts_get (h : Rel F σ g a w) (parts : Array (Nat × Operand)) : ∀ (k i : Nat) (s : S), (evalParts σ parts)[k]? = some (i, s) →
  ∃ v, ((parts.map fun (i, x) => (i, a.eval x)).toList)[k]? = some (i, v) ∧ RS w g s v := by
 intro k i s hk
 simp only [evalParts, List.getElem?_map] at hk
 obtain ⟨p, hp, he⟩ := Option.map_eq_some_iff.1 hk
 simp only [Prod.mk.injEq] at he
 obtain ⟨rfl, rfl⟩ := he
 exact ⟨a.eval p.2, by simp [Array.toList_map, List.getElem?_map, hp], asV_sound (h.eval p.2)⟩
def placeOf (f : Field) : Sem (Nat × Nat) := do pure (f.offset, ← sizeOf f.type)
theorem run_places (w : World) : ∀ (fs : List Field) (sz : List (Nat × Nat × Nat)), (fs.map fun f => (f.offset, f.type, (P.info? f.type).map (·.size))) = (sz.map fun x => (x.1, x.2.1, some x.2.2)) →
  (fs.mapM placeOf).run P w = .ok (sz.map fun p => (p.1, p.2.2)) w
 | [], sz, h => by
  have : sz = [] := by simpa using h.symm
  subst this; simp
 | f :: fs, [], h => by simp at h
 | f :: fs, (o, t, s) :: sz, h => by
  simp only [List.map_cons, List.cons.injEq, Prod.mk.injEq] at h
  obtain ⟨⟨rfl, rfl, h3⟩, h4⟩ := h
  obtain ⟨inf, h6, h7⟩ := Option.map_eq_some_iff.1 h3
  have h8 : (placeOf f).run P w = .ok (f.offset, s) w := by simp [placeOf, sizeOf, typeInfo, h6, h7]
  simp only [List.mapM_cons, Sem.run_bind, h8, Result.andThen_ok, run_places w fs sz h4, Sem.run_pure, List.map_cons]
noncomputable def vbuild (T : Ty) (σ : St) (t : Nat) (parts : Array (Nat × Operand)) : Option S :=
 match T t with
 | some i => match i.desc with
  | .struct fs => match vfill (fun k => (fs[k]?).map fun p => (p.1, p.2.2)) (i.zero.map constL) (evalParts σ parts) with
   | some ls => some (.val true ls)
   | none => none
  | .array _ e => match T e with
   | some j => match vfill (fun k => some (k * j.size, j.size)) (i.zero.map constL) (evalParts σ parts) with
    | some ls => some (.val true ls)
    | none => none
   | none => none
  | _ => none
 | none => none
theorem vbuild_sound (hT : TabOk P T) (h : Rel F σ g a w) {t : Nat} {parts : Array (Nat × Operand)} {s : S} (hs : vbuild T σ t parts = some s) :
  ∃ v, (Instr.build t (parts.map fun (i, x) => (i, a.eval x))).run P w = .ok v w ∧ RS w g s v := by
 unfold vbuild at hs
 split at hs
 case h_2 => cases hs
 case h_1 i hi =>
  have ty := hT t i hi
  obtain ⟨inf, z, h1, h2, h3, h4, h5⟩ := ty.info
  have hz := constLs_sound w g i.zero ty.one
  rw [← h5] at hz
  have hlen : (evalParts σ parts).length = ((parts.map fun (i, x) => (i, a.eval x)).toList).length := by simp [evalParts]
  split at hs
  case h_3 => cases hs
  case h_1 fs hd =>
   split at hs
   case h_2 => cases hs
   case h_1 ls hf =>
    simp only [Option.some.injEq] at hs
    subst hs
    have hde := ty.desc
    rw [hd] at hde
    obtain ⟨fields, hu, hfs⟩ := hde
    obtain ⟨cs', e1, e2, _⟩ := vfill_sound _ _ _ _ z.cells ls (by rw [← h5] at hf; exact hf) hz hlen (evalParts_get h parts)
    refine ⟨.agg cs', ?_, cs'.toList, by simp, e2⟩
    have hp := run_places (P := P) w fields.toList fs hfs
    have hpa : (fields.mapM fun f => (do pure (f.offset, ← sizeOf f.type) : Sem (Nat × Nat))).run P w = .ok ((fs.map fun p => (p.1, p.2.2)).toArray) w := by
     show (fields.mapM placeOf).run P w = _
     rw [Array.mapM_eq_mapM_toList]
     simp only [Sem.run_map, hp, Result.andThen_ok]
    simp only [Instr.build, Sem.run_bind, zeroValue, typeInfo, run_program, Result.andThen_ok, h1, Sem.run_pure, h4, run_underlying hu, hpa]
    have hfun : (fun k : Nat => ((fs.map fun p => (p.1, p.2.2)).toArray)[k]?) = fun k : Nat => (fs[k]?).map fun p => (p.1, p.2.2) := by funext k; simp
    rw [hfun, e1]
    rfl
  case h_2 n e hd =>
   split at hs
   case h_2 => cases hs
   case h_1 j hj =>
    split at hs
    case h_2 => cases hs
    case h_1 ls hf =>
     simp only [Option.some.injEq] at hs
     subst hs
     have hde := ty.desc
     rw [hd] at hde
     simp only at hde
     obtain ⟨cs', e1, e2, _⟩ := vfill_sound _ _ _ _ z.cells ls (by rw [← h5] at hf; exact hf) hz hlen (evalParts_get h parts)
     refine ⟨.agg cs', ?_, cs'.toList, by simp, e2⟩
     simp only [Instr.build, Sem.run_bind, zeroValue, typeInfo, run_program, Result.andThen_ok, h1, Sem.run_pure, h4, run_underlying hde, (hT e j hj).size]
     rw [e1]
     rfl
end
end Go.Vs

namespace Go.Vs
open Go.RowKit (Below)
section
variable {P : Program} [Glob P] {T : Ty} {F : Fix P} {σ : St} {g : Gh} {a : Act} {w : World}
def dU : U := .bool false
def zeroFlat (j : TyI) (n : Nat) : List L := (List.range n).map fun k => constL (j.zero.getD (k % j.zero.length) (.bool false))
theorem RLs.of_map {w : World} {g : Gh} (f : Nat → L) (v : Nat → Value) (h : ∀ k, RL w g (f k) (v k)) : ∀ l : List Nat, RLs w g (l.map f) (l.map v)
 | [] => trivial
 | k :: l => ⟨h k, RLs.of_map f v h l⟩
def strsU : List U → Option (List ByteArray)
 | [] => some []
 | .str s :: us => match strsU us with | some ss => some (s :: ss) | none => none
 | _ :: _ => none
def litG (us : List U) (sz : Nat) : Nat → Nat → U := match strsU us with
 | some ss => cond (Nat.beq sz 1) (fun i _ => .str (ss.getD i default)) (fun i k => us.getD (i * sz + k) dU)
 | none => fun i k => us.getD (i * sz + k) dU
theorem strsU_get : ∀ {us : List U} {ss : List ByteArray}, strsU us = some ss → ∀ {i : Nat}, i < us.length → us.getD i dU = .str (ss.getD i default)
 | [], _, _, _, hi => absurd hi (Nat.not_lt_zero _)
 | u :: us, ss, h, i, hi => by
  cases u with
  | str s =>
   simp only [strsU] at h
   cases hs : strsU us with
   | none => rw [hs] at h; cases h
   | some ss' =>
    rw [hs] at h
    cases h
    cases i with
    | zero => rfl
    | succ i => exact strsU_get hs (by simpa using hi)
  | int k n => simp [strsU] at h
  | bool b => simp [strsU] at h
  | sl t n sz get => simp [strsU] at h
  | xsl n sz get => simp [strsU] at h
theorem litG_eq {us : List U} {sz i k : Nat} (hk : k < sz) (h : i * sz + k < us.length) : litG us sz i k = us.getD (i * sz + k) dU := by
 unfold litG
 cases hs : strsU us with
 | none => rfl
 | some ss =>
  cases hz : Nat.beq sz 1 with
  | false => rfl
  | true =>
   have := Nat.eq_of_beq_eq_true hz
   subst this
   obtain rfl : k = 0 := by omega
   rw [strsU_get hs h]
   show U.str (ss.getD i default) = _
   rw [Nat.mul_one, Nat.add_zero]
noncomputable def vbuildSlice1 (T : Ty) (σ : St) (t len : Nat) (parts : Array (Nat × Operand)) (K : S → St → Prop) : Prop :=
 match T t with
 | some { desc := .slice e, .. } => match T e with
  | some j => cond (Nat.ble (len * j.size) 16777216 && Nat.blt 0 j.size && Nat.blt 0 len) (match vfill (fun k => some (k * j.size, j.size)) (zeroFlat j (len * j.size)) (evalParts σ parts) with
   | some ls => match freezeLs σ ls with
    | some (us, σ') => K (.val false [.row σ'.next]) (σ'.new (.row e len j.size (litG us j.size)))
    | none => False
   | none => False) False
  | none => False
 | _ => False
theorem vbuildSlice1_sound (hT : TabOk P T) (h : Rel F σ g a w) (hfree : ¬ g.df σ.next) {t len : Nat} {parts : Array (Nat × Operand)} {K : S → St → Prop} (hs : vbuildSlice1 T σ t len parts K) :
  ∃ s σ' g' v w', K s σ' ∧ (Instr.buildSlice t len (parts.map fun (i, x) => (i, a.eval x))).run P w = .ok v w' ∧ Rel F σ' g' a w' ∧ RS w' g' s v ∧ Ev (al σ) σ g w σ' g' w' := by
 unfold vbuildSlice1 at hs
 split at hs
 case h_2 => exact hs.elim
 case h_1 sz0 by0 ze0 e hi =>
  split at hs
  case h_2 => exact hs.elim
  case h_1 j hj =>
   have hu : P.underlying t = some (.slice e) := (hT t _ hi).desc
   have ty := hT e j hj
   obtain ⟨inf, z, h1, h2, h3, h4, h5⟩ := ty.info
   cases hc : (Nat.ble (len * j.size) 16777216 && Nat.blt 0 j.size && Nat.blt 0 len) with
   | false => rw [hc] at hs; exact hs.elim
   | true =>
    rw [hc] at hs
    simp only [cond_true] at hs
    simp only [Bool.and_eq_true] at hc
    have c1 := Nat.le_of_ble_eq_true hc.1.1
    have c2 : 0 < j.size := Nat.le_of_ble_eq_true hc.1.2
    have c3 : 0 < len := Nat.le_of_ble_eq_true hc.2
    have hpos : 0 < len * j.size := Nat.mul_pos c3 c2
    split at hs
    case h_2 => exact hs.elim
    case h_1 ls hf =>
     split at hs
     case h_2 => exact hs.elim
     case h_1 us σ' hfr =>
      have hzl : z.cells.size = j.zero.length := by rw [← h5]; simp
      have hz : RLs w g (zeroFlat j (len * j.size)) ((Array.range (len * j.size)).map (z.cells[· % z.cells.size]!)).toList := by
       have : ((Array.range (len * j.size)).map (z.cells[· % z.cells.size]!)).toList = (List.range (len * j.size)).map fun k => z.cells[k % z.cells.size]! := by simp
       rw [this]
       refine RLs.of_map _ _ (fun k => ?_) _
       by_cases h0 : j.zero.length = 0
       ·have hk : j.zero.getD (k % j.zero.length) (.bool false) = .bool false := by
         have : j.zero = [] := List.eq_nil_of_length_eq_zero h0
         rw [this]; rfl
        have hk2 : z.cells[k % z.cells.size]! = default := by
         have : z.cells = #[] := by apply Array.eq_empty_of_size_eq_zero; omega
         rw [this]; rfl
        rw [hk, hk2]; rfl
       ·have hlt : k % z.cells.size < z.cells.size := Nat.mod_lt _ (by omega)
        have e2 : z.cells[k % z.cells.size]! = j.zero.getD (k % j.zero.length) (.bool false) := by
         rw [← hzl, ← h5, List.getD_eq_getElem?_getD, Array.getElem?_toList]
         rw [getElem!_pos z.cells (k % z.cells.size) hlt, Array.getElem?_eq_getElem hlt]; rfl
        rw [e2]
        refine constL_sound _ _ _ ?_
        have hmem : j.zero.getD (k % j.zero.length) (.bool false) ∈ j.zero := by
         have hl : k % j.zero.length < j.zero.length := Nat.mod_lt _ (by omega)
         rw [List.getD_eq_getElem?_getD, List.getElem?_eq_getElem hl]
         exact List.getElem_mem hl
        exact (List.all_eq_true.1 ty.one) _ hmem
      have hlen : (evalParts σ parts).length = ((parts.map fun (i, x) => (i, a.eval x)).toList).length := by simp [evalParts]
      obtain ⟨cs', e1, e2, e3⟩ := vfill_sound _ _ _ _ _ ls hf hz hlen (evalParts_get h parts)
      have e3' : cs'.size = len * j.size := by rw [e3]; simp
      obtain ⟨g1, r1, ev1, hus, n1, l1⟩ := freezeLs_sound h hfr e2
      have hul := RUs.len hus
      simp only [Array.length_toList] at hul
      have hfree1 : ¬ g1.df σ'.next := fun hd => by
       rcases ev1.df _ hd with h9 | h9
       ·rw [n1] at h9; exact hfree h9
       ·omega
      obtain ⟨g2, r2, r3, ev2⟩ := r1.newRow hfree1 e len j.size (litG us j.size) cs' c2 (by
        have : len ≤ len * j.size := Nat.le_mul_of_pos_right _ c2
        simp only [bound]; omega) e3' (fun i hi k hk => by
        have hlt : i * j.size + k < us.length := by
         have : (i + 1) * j.size ≤ len * j.size := Nat.mul_le_mul_right _ hi
         rw [Nat.succ_mul] at this
         omega
        rw [litG_eq hk hlt]
        exact RUs.get dU hus hlt)
      refine ⟨_, _, g2, _, _, hs, ?_, r2, r3, ev1.trans (ev2.mono fun _ h => h.elim)⟩
      have h0 : ¬ len * inf.size = 0 := by rw [h2]; omega
      exact run_buildSlice (P := P) w t e len _ cs' inf z hu h1 h4 (by rw [h2]; omega) h0 (by rw [h2]; exact e1)
noncomputable def vslice0 (T : Ty) (σ : St) (t : Nat) (parts : Array (Nat × Operand)) (K : S → St → Prop) : Prop :=
 match T t with
 | some { desc := .slice e, .. } => match T e with
  | some j => cond (Nat.beq parts.size 0 && Nat.blt 0 j.size) (K (.val false [.row σ.next]) (σ.new (.row e 0 j.size fun _ _ => dU))) False
  | none => False
 | _ => False
theorem vslice0_sound (hT : TabOk P T) (h : Rel F σ g a w) (hfree : ¬ g.df σ.next) {t : Nat} {parts : Array (Nat × Operand)} {K : S → St → Prop} (hs : vslice0 T σ t parts K) :
  ∃ s σ' g' v w', K s σ' ∧ (Instr.buildSlice t 0 (parts.map fun (i, x) => (i, a.eval x))).run P w = .ok v w' ∧ Rel F σ' g' a w' ∧ RS w' g' s v ∧ Ev (al σ) σ g w σ' g' w' := by
 unfold vslice0 at hs
 split at hs
 case h_2 => exact hs.elim
 case h_1 sz0 by0 ze0 e hi =>
  split at hs
  case h_2 => exact hs.elim
  case h_1 j hj =>
   have hu : P.underlying t = some (.slice e) := (hT t _ hi).desc
   have ty := hT e j hj
   cases hc : (Nat.beq parts.size 0 && Nat.blt 0 j.size) with
   | false => rw [hc] at hs; exact hs.elim
   | true =>
    rw [hc] at hs
    simp only [cond_true] at hs
    simp only [Bool.and_eq_true] at hc
    have c1 := Nat.eq_of_beq_eq_true hc.1
    have c2 : 0 < j.size := Nat.le_of_ble_eq_true hc.2
    have hp : parts = #[] := Array.eq_empty_of_size_eq_zero c1
    subst hp
    obtain ⟨inf, z, h1, h2, h3, h4, h5⟩ := ty.info
    obtain ⟨g2, r2, r3, ev2⟩ := h.newRow hfree e 0 j.size (fun _ _ => dU) #[] c2 (Nat.zero_le _) (by simp) (fun i hi => absurd hi (Nat.not_lt_zero i))
    refine ⟨_, _, g2, _, _, hs, ?_, r2, r3, ev2.mono fun _ h => h.elim⟩
    simp [Instr.buildSlice, run_underlying hu, sizeOf, typeInfo, h1, Instr.fill, newRow]
    congr 2
    exact Array.eq_empty_of_size_eq_zero (by simp)
noncomputable def vbuildSlice (T : Ty) (σ : St) (t len : Nat) (parts : Array (Nat × Operand)) (K : S → St → Prop) : Prop :=
 cond (Nat.beq len 0) (vslice0 T σ t parts K) (vbuildSlice1 T σ t len parts K)
theorem vbuildSlice_sound (hT : TabOk P T) (h : Rel F σ g a w) (hfree : ¬ g.df σ.next) {t len : Nat} {parts : Array (Nat × Operand)} {K : S → St → Prop} (hs : vbuildSlice T σ t len parts K) :
  ∃ s σ' g' v w', K s σ' ∧ (Instr.buildSlice t len (parts.map fun (i, x) => (i, a.eval x))).run P w = .ok v w' ∧ Rel F σ' g' a w' ∧ RS w' g' s v ∧ Ev (al σ) σ g w σ' g' w' := by
 unfold vbuildSlice at hs
 cases hb : Nat.beq len 0 with
 | true =>
  rw [hb] at hs
  have := Nat.eq_of_beq_eq_true hb
  subst this
  exact vslice0_sound hT h hfree hs
 | false =>
  rw [hb] at hs
  exact vbuildSlice1_sound hT h hfree hs
def zeroU : Value → Option U
 | .int k n => some (.int k n)
 | .bool b => some (.bool b)
 | .string s => some (.str s)
 | .slice none 0 0 => some (.sl false 0 1 fun _ _ => dU)
 | _ => none
theorem zeroU_sound (w : World) (g : Gh) {v : Value} {u : U} (h : zeroU v = some u) : RU w g u v := by
 unfold zeroU at h
 split at h
 ·simp only [Option.some.injEq] at h; subst h; rfl
 ·simp only [Option.some.injEq] at h; subst h; rfl
 ·simp only [Option.some.injEq] at h; subst h; rfl
 ·simp only [Option.some.injEq] at h; subst h; exact ⟨none, 0, rfl, by omega, by simp [bound], fun h => by omega⟩
 ·cases h
def zerosU : List Value → Option (List U)
 | [] => some []
 | v :: vs => match zeroU v with
  | some u => match zerosU vs with
   | some us => some (u :: us)
   | none => none
  | none => none
theorem zerosU_sound (w : World) (g : Gh) : ∀ {vs : List Value} {us : List U}, zerosU vs = some us → RUs w g us vs
 | [], us, h => by simp only [zerosU, Option.some.injEq] at h; subst h; trivial
 | v :: vs, us, h => by
  simp only [zerosU] at h
  split at h
  case h_2 => cases h
  case h_1 u hu =>
   split at h
   case h_2 => cases h
   case h_1 us' hus =>
    simp only [Option.some.injEq] at h
    subst h
    exact ⟨zeroU_sound w g hu, zerosU_sound w g hus⟩
def vmake (T : Ty) (σ : St) (t : Nat) (sl sc : S) (K : S → St → Prop) : Prop :=
 match sl with
 | .val false [.u (.int _ n)] => match sc with
  | .val false [.u (.int _ c)] => match T t with
   | some { desc := .slice e, .. } => match T e with
    | some j => match zerosU j.zero with
     | some us => cond (Nat.beq us.length j.size && Nat.blt 0 j.size && Nat.blt 0 j.bytes)
       ((c = n ∧ 0 ≤ n ∧ n * j.bytes ≤ bound) ∧ K (.val false [.row σ.next]) (σ.new (.row e n.toNat j.size (fun _ k => us.getD k dU)))) False
     | none => False
    | none => False
   | _ => False
  | _ => False
 | _ => False
theorem vmake_sound (hT : TabOk P T) (h : Rel F σ g a w) (hfree : ¬ g.df σ.next) {t : Nat} {x y : Operand} {K : S → St → Prop} (hs : vmake T σ t (σ.eval x) (σ.eval y) K) :
  ∃ s σ' g' v w', K s σ' ∧ (Instr.makeSlice t (a.eval x) (a.eval y)).run P w = .ok v w' ∧ Rel F σ' g' a w' ∧ RS w' g' s v ∧ Ev no σ g w σ' g' w' := by
 have hx := h.eval x
 have hy := h.eval y
 unfold vmake at hs
 split at hs
 case h_2 => exact hs.elim
 case h_1 kl n he =>
  split at hs
  case h_2 => exact hs.elim
  case h_1 kc c he' =>
   split at hs
   case h_2 => exact hs.elim
   case h_1 sz0 by0 ze0 e hi =>
    split at hs
    case h_2 => exact hs.elim
    case h_1 j hj =>
     split at hs
     case h_2 => exact hs.elim
     case h_1 us hzu =>
      cases hc : (Nat.beq us.length j.size && Nat.blt 0 j.size && Nat.blt 0 j.bytes) with
      | false => rw [hc] at hs; exact hs.elim
      | true =>
       rw [hc] at hs
       obtain ⟨⟨h01, h02, h03⟩, hK⟩ := hs
       simp only [Bool.and_eq_true] at hc
       have c1 := Nat.eq_of_beq_eq_true hc.1.1
       have c2 : 0 < j.size := Nat.le_of_ble_eq_true hc.1.2
       have c3 : 0 < j.bytes := Nat.le_of_ble_eq_true hc.2
       rw [he] at hx
       rw [he'] at hy
       have hx' : a.eval x = .int kl n := RV.cell hx
       have hy' : a.eval y = .int kc c := RV.cell hy
       subst h01
       have hu : P.underlying t = some (.slice e) := (hT t _ hi).desc
       have ty := hT e j hj
       obtain ⟨inf, z, h1, h2, h3, h4, h5⟩ := ty.info
       obtain ⟨m, rfl⟩ := Int.eq_ofNat_of_zero_le h02
       have hmb : m * j.bytes ≤ bound := by
        have : ((m * j.bytes : Nat) : Int) ≤ bound := by rw [Int.natCast_mul]; exact h03
        omega
       have hmle : m ≤ bound := Nat.le_trans (Nat.le_mul_of_pos_right _ c3) hmb
       have hzus := zerosU_sound w g hzu
       have hlen : z.cells.size = j.size := by
        have := RUs.len hzus; rw [← h5] at this; simp at this; omega
       obtain ⟨g', r1, r2, r3⟩ := h.newRow hfree e m j.size (fun _ k => us.getD k dU) (madeCells z.cells (m * j.size)) c2 hmle (by simp [madeCells]) (fun i hi k hk => by
        have hlt : i * j.size + k < m * j.size := by
         have : (i + 1) * j.size ≤ m * j.size := Nat.mul_le_mul_right _ hi
         rw [Nat.succ_mul] at this
         omega
        obtain ⟨v, hv, hr⟩ := RUs.get dU hzus (j := k) (by omega)
        refine ⟨v, ?_, hr⟩
        have hmod : (i * j.size + k) % z.cells.size = k := by
         rw [hlen, Nat.mul_comm, Nat.mul_add_mod, Nat.mod_eq_of_lt hk]
        have hk2 : k < z.cells.size := by omega
        have hvk : z.cells[k]! = v := by
         rw [← h5, Array.getElem?_toList] at hv
         rw [getElem!_pos z.cells k hk2]
         rw [Array.getElem?_eq_getElem hk2] at hv
         exact Option.some.inj hv
        simp [madeCells, hlt, hmod, hvk])
       refine ⟨_, _, g', _, _, hK, ?_, r1, r2, r3⟩
       rw [hx', hy']
       have hb1 : (inf.bytes : Int) * (m : Int) ≤ 281474976710656 := by
        have : ((inf.bytes * m : Nat) : Int) ≤ 281474976710656 := by
         rw [h3, Nat.mul_comm]; simp only [bound] at hmb; omega
        rwa [Int.natCast_mul] at this
       have := run_make (P := P) w t e inf z hu h1 h4 kl kc m m (by omega) (Int.le_refl _) hb1 (by simp only [bound] at hmle; omega)
       rw [h2] at this
       simpa using this
def storeRow (get : Nat → Nat → U) (k off : Nat) (us : List U) : Nat → Nat → U :=
 fun i j => cond (Nat.beq i k && Nat.ble off j && Nat.blt j (off + us.length)) (us.getD (j - off) dU) (get i j)
noncomputable def vstore (T : Ty) (σ : St) (t : Nat) (sx sv : S) (K : St → Prop) : Prop :=
 match T t with
 | some i => match sv with
  | .val _ ls => cond (Nat.beq ls.length i.size) (match sx with
   | .ptr r off => match σ.obj r with
    | .box e old => cond (Nat.ble (off + ls.length) old.length) (K (σ.set r (.box e (spliceS old off ls)))) False
    | _ => False
   | .ep r sz k off => match freezeLs σ ls with
    | some (us, σ') => match σ'.obj r with
     | .row e n sz' get => cond (Nat.beq sz sz' && Nat.ble (off + us.length) sz) (K (σ'.set r (.row e n sz (storeRow get k off us)))) False
     | _ => False
    | none => False
   | _ => False) False
  | _ => False
 | none => False
theorem grownBy_setRow (w : World) (b : Nat) (cs : Array Value) : w.grownBy (w.setRow b cs) (some b) :=
 ⟨rfl, rfl, rfl, by simp, fun k _ hk => setRow_other w b k _ (fun e => hk (by rw [e]))⟩
theorem run_storeVar {t : Nat} {i : TyI} (ht : TyOk P t i) (v : Value) (hl : v.cells.size = i.size) (h1 : ∀ x ∈ v.cells.toList, x.oneCell' = true) (b off e : Nat) (cur : Array Value) (w : World)
  (hg : w.heap[b]? = some (.cells cur e (0, 0))) (hfit : off + i.size ≤ cur.size) :
  (storeVar t ⟨b, off, none⟩ v).run P w = .ok () (w.setRow b (spliceL cur.toList off v.cells.toList).toArray) := by
 have := run_storeCells_at P b off e v.cells.toList 0 cur w hg (by simp; omega) h1
 simp only [Nat.add_zero] at this
 simp [storeVar, ht.size, hl, this, spliceL]
theorem ij_inj {sz i j k m : Nat} (hj : j < sz) (hm : m < sz) (h : i * sz + j = k * sz + m) : i = k ∧ j = m := by
 have h1 : (i * sz + j) / sz = i := by rw [Nat.mul_comm, Nat.mul_add_div (by omega), Nat.div_eq_of_lt hj]; omega
 have h2 : (k * sz + m) / sz = k := by rw [Nat.mul_comm, Nat.mul_add_div (by omega), Nat.div_eq_of_lt hm]; omega
 have : i = k := by rw [← h1, ← h2, h]
 subst this
 exact ⟨rfl, by omega⟩
theorem splice_get {α : Type} (l us : List α) (off q : Nat) (h : off + us.length ≤ l.length) : (spliceL l off us)[q]? = if off ≤ q ∧ q < off + us.length then us[q - off]? else l[q]? := by
 unfold spliceL
 by_cases h1 : q < off
 ·rw [if_neg (by omega), List.append_assoc, List.getElem?_append_left (by simp; omega), List.getElem?_take, if_pos h1]
 ·by_cases h2 : q < off + us.length
  ·rw [if_pos ⟨by omega, h2⟩, List.getElem?_append_left (by simp; omega), List.getElem?_append_right (by simp; omega)]
   congr 1
   simp; omega
  ·rw [if_neg (by omega), List.getElem?_append_right (by simp; omega), List.getElem?_drop]
   congr 1
   simp; omega
theorem splice_len {α : Type} (l us : List α) (off : Nat) (h : off + us.length ≤ l.length) : (spliceL l off us).length = l.length := by
 simp [spliceL]; omega
theorem vstore_sound (hT : TabOk P T) (h : Rel F σ g a w) {t : Nat} {x y : Operand} {K : St → Prop} (hs : vstore T σ t (σ.eval x) (σ.eval y) K) :
  ∃ σ' g' w', K σ' ∧ (Instr.storeAt t (a.eval x) (a.eval y)).run P w = .ok () w' ∧ Rel F σ' g' a w' ∧ Ev (al σ) σ g w σ' g' w' := by
 have hx := h.eval x
 have hy := h.eval y
 unfold vstore at hs
 split at hs
 case h_2 => exact hs.elim
 case h_1 i hi =>
  have ty := hT t i hi
  split at hs
  case h_2 => exact hs.elim
  case h_1 agg ls he =>
   rw [he] at hy
   have hcells := RV.cells hy
   have hlen := RLs.len hcells
   simp only [Array.length_toList] at hlen
   have hone := RLs.one hcells
   cases hc : Nat.beq ls.length i.size with
   | false => rw [hc] at hs; exact hs.elim
   | true =>
    rw [hc] at hs
    simp only [cond_true] at hs
    have c1 := Nat.eq_of_beq_eq_true hc
    split at hs
    case h_3 => exact hs.elim
    case h_1 r off hex =>
     rw [hex] at hx
     obtain ⟨hr, b, e1, e2⟩ := hx
     have ho := h.objs r hr
     split at hs
     case h_2 => exact hs.elim
     case h_1 e old hob =>
      rw [hob] at ho
      cases hle : Nat.ble (off + ls.length) old.length with
      | false => rw [hle] at hs; exact hs.elim
      | true =>
       rw [hle] at hs
       have hle' := Nat.le_of_ble_eq_true hle
       rw [spliceS_eq off old ls hle'] at hs
       obtain ⟨b', cs, e3, hom, e4, e5⟩ := ho
       rw [e1] at e3
       injection e3 with e3; injection e3 with e3; injection e3 with e3 _; subst e3
       have hl2 := RLs.len e5
       simp only [Array.length_toList] at hl2
       have hrun := run_storeVar ty (a.eval y) (by omega) hone b off e cs w e4 (by omega)
       obtain ⟨r1, ev1⟩ := h.setObj hr (.box e (spliceL old off ls)) (grownBy_setRow w b (spliceL cs.toList off (a.eval y).cells.toList).toArray) (fun k hk => by injection hk with hk; subst hk; exact hom) (by simp) (fun hgr =>
        ⟨b, _, e1, hom, setRow_heap w b cs _ e (0, 0) e4, RLs.splice off (RLs.mono hgr _ _ e5) (RLs.mono hgr _ _ hcells)⟩)
       exact ⟨_, g, _, hs, by rw [e2]; simp [Instr.storeAt, Instr.sureAddr, hrun], r1, ev1.mono fun q hq => by show σ.obj q ≠ .none; rw [hq, hob]; simp⟩
    case h_2 r sz k off hex =>
     rw [hex] at hx
     obtain ⟨hr, b, m, c, e1, hk, e2⟩ := hx
     split at hs
     case h_2 => exact hs.elim
     case h_1 us σ' hfr =>
      obtain ⟨g1, r1, ev1, hus, n1, l1⟩ := freezeLs_sound h hfr hcells
      have hr1 : g1.df r := ev1.grow.df r hr
      have hrv : g1.rv r = .slice (some ⟨b, 0, none⟩) m c := by rw [ev1.grow.rv r hr]; exact e1
      have ho := r1.objs r hr1
      have hul := RUs.len hus
      simp only [Array.length_toList] at hul
      split at hs
      case h_2 => exact hs.elim
      case h_1 e n sz' get hob =>
       rw [hob] at ho
       cases hle : (Nat.beq sz sz' && Nat.ble (off + us.length) sz) with
       | false => rw [hle] at hs; exact hs.elim
       | true =>
        rw [hle] at hs
        simp only [Bool.and_eq_true] at hle
        have hsz := Nat.eq_of_beq_eq_true hle.1
        have hle' := Nat.le_of_ble_eq_true hle.2
        subst hsz
        obtain ⟨p1, p2, ⟨cs, hown, hcc⟩, hom⟩ := ho
        have homb : g1.om b = some r := hom b (by rw [hrv]; rfl)
        rcases hown.2 with ⟨hn, _⟩ | ⟨gb, cap, cur, q1, _, q2, q3, q4, q5, q6⟩
        ·rw [hrv] at hn; cases hn
        ·rw [hrv] at q1
         injection q1 with q1 q7 q8
         injection q1 with q1; injection q1 with q1 _
         subst q1; subst q7; subst q8
         have hfit : k * sz + off + i.size ≤ m * sz := by
          have : (k + 1) * sz ≤ m * sz := Nat.mul_le_mul_right _ hk
          rw [Nat.succ_mul] at this
          omega
         have hfit2 : m * sz ≤ c * sz := Nat.mul_le_mul_right _ q3
         have hrun := run_storeVar ty (a.eval y) (by omega) hone b (k * sz + off) e cur w q2 (by omega)
         have hul2 : us.length = i.size := by omega
         have hvl : (a.eval y).cells.toList.length = us.length := by simp; omega
         obtain ⟨r2, ev2⟩ := r1.setObj hr1 (.row e m sz (storeRow get k off us)) (grownBy_setRow w b (spliceL cur.toList (k * sz + off) (a.eval y).cells.toList).toArray)
          (fun q hq => by injection hq with hq; subst hq; exact homb) (by simp) (fun hgr => by
          refine ⟨p1, p2, ⟨(spliceL cur.toList (k * sz + off) (a.eval y).cells.toList).take (m * sz), ⟨?_, .inr ⟨b, c, _, hrv, Nat.zero_le _, setRow_heap w b cur _ e (0, 0) q2, q3, q4, ?_, ?_⟩⟩, fun i' hi' j' hj' => ?_⟩, hom⟩
          ·rw [List.length_take, splice_len _ _ _ (by simp; omega)]; simp; omega
          ·rw [List.size_toArray, splice_len _ _ _ (by simp; omega)]; simpa using q5
          ·simp
          ·have hlt : i' * sz + j' < m * sz := by
            have : (i' + 1) * sz ≤ m * sz := Nat.mul_le_mul_right _ hi'
            rw [Nat.succ_mul] at this
            omega
           rw [List.getElem?_take, if_pos hlt, splice_get _ _ _ _ (by simp; omega)]
           obtain ⟨x0, hx0, hu0⟩ := hcc i' hi' j' hj'
           have hx0' : cur.toList[i' * sz + j']? = some x0 := by
            rw [← q6, List.getElem?_take, if_pos hlt] at hx0; exact hx0
           by_cases hin : i' = k ∧ off ≤ j' ∧ j' < off + us.length
           ·obtain ⟨h8, h9, h10⟩ := hin
            subst h8
            rw [if_pos ⟨by omega, by rw [hvl]; omega⟩]
            obtain ⟨v, hv, hr⟩ := RUs.get dU hus (j := j' - off) (by omega)
            have hidx : i' * sz + j' - (i' * sz + off) = j' - off := by omega
            rw [hidx]
            refine ⟨v, hv, ?_⟩
            have : storeRow get i' off us i' j' = us.getD (j' - off) dU := by
             unfold storeRow
             rw [show (Nat.beq i' i' && Nat.ble off j' && Nat.blt j' (off + us.length)) = true from by
              simp [Nat.ble_eq, Nat.blt_eq, h9, h10]]
             rfl
            rw [this]
            exact RU.mono hgr _ _ hr
           ·have hno : ¬ (k * sz + off ≤ i' * sz + j' ∧ i' * sz + j' < k * sz + off + (a.eval y).cells.toList.length) := by
             rw [hvl]
             intro ⟨h8, h9⟩
             have hd : i' * sz + j' = k * sz + (i' * sz + j' - k * sz) := by omega
             have := ij_inj hj' (by omega) hd
             exact hin ⟨this.1, by omega, by omega⟩
            rw [if_neg hno]
            refine ⟨x0, hx0', ?_⟩
            have : storeRow get k off us i' j' = get i' j' := by
             unfold storeRow
             rw [show (Nat.beq i' k && Nat.ble off j' && Nat.blt j' (off + us.length)) = false from by
              rw [Bool.eq_false_iff]
              intro hh
              simp only [Bool.and_eq_true] at hh
              exact hin ⟨Nat.eq_of_beq_eq_true hh.1.1, Nat.le_of_ble_eq_true hh.1.2, Nat.le_of_ble_eq_true hh.2⟩]
             rfl
            rw [this]
            exact RU.mono hgr _ _ hu0)
         exact ⟨_, g1, _, hs, by rw [e2]; simp [Instr.storeAt, Instr.sureAddr, hrun], r2, ev1.trans (ev2.mono fun q hq => l1 q (by rw [hq, hob]; simp))⟩
end
end Go.Vs

namespace Go.Vs
open Go.RowKit (Below)
section
variable {P : Program} [Glob P] {T : Ty} {F : Fix P} {σ : St} {g : Gh} {a : Act} {w : World}
def sliceOf (σ : St) (sz0 : Nat) (l : L) : Option (Nat × Nat × (Nat → Nat → U)) :=
 match l with
 | .u (.sl _ m sz get) => some (m, sz, get)
 | .row r => match σ.obj r with
  | .row _ m sz get => some (m, sz, get)
  | .frow _ m sz get => some (m, sz, get)
  | _ => none
 | .nil => some (0, sz0, fun _ _ => dU)
 | _ => none
theorem sliceOf_sound (h : Rel F σ g a w) {sz0 : Nat} {l : L} {m sz : Nat} {get : Nat → Nat → U} (hs : sliceOf σ sz0 l = some (m, sz, get)) {v : Value} (hv : RL w g l v) :
  ∃ A c, v = .slice A m c ∧ m ≤ c ∧ m ≤ bound ∧ (0 < m → ∃ b o, A = some ⟨b, o, none⟩ ∧ ∀ i, i < m → ∀ j, j < sz → ∃ x, w.cell? ⟨b, o + (i * sz + j), none⟩ = some x ∧ RU w g (get i j) x) := by
 unfold sliceOf at hs
 split at hs
 case h_1 tm m' sz' get' =>
  simp only [Option.some.injEq, Prod.mk.injEq] at hs
  obtain ⟨rfl, rfl, rfl⟩ := hs
  obtain ⟨A, c, e, h1, h2, h3⟩ := hv
  exact ⟨A, c, e, h1, h2, fun hp => let ⟨b, o, e2, _, hc⟩ := h3 hp; ⟨b, o, e2, hc⟩⟩
 case h_2 r =>
  obtain ⟨hr, hv1, _⟩ := hv
  have ho := h.objs r hr
  split at hs
  case h_3 => cases hs
  case h_1 e m' sz' get' hob =>
   simp only [Option.some.injEq, Prod.mk.injEq] at hs
   obtain ⟨rfl, rfl, rfl⟩ := hs
   rw [hob] at ho
   obtain ⟨A, c, e1, h1, h2⟩ := RO.slice ho
   refine ⟨A, c, by rw [hv1, e1], h1, ho.2.1, fun hp => ?_⟩
   obtain ⟨b, e3⟩ := h2 hp
   refine ⟨b, 0, e3, fun i hi j hj => ?_⟩
   rw [e3] at e1
   simpa using (RO.cells ho e1).2 i hi j hj
  case h_2 e m' sz' get' hob =>
   simp only [Option.some.injEq, Prod.mk.injEq] at hs
   obtain ⟨rfl, rfl, rfl⟩ := hs
   rw [hob] at ho
   obtain ⟨_, A, c, e1, h1, h2, h3⟩ := ho
   exact ⟨A, c, by rw [hv1, e1], h1, h2, fun hp => let ⟨b, o, e2, _, hc⟩ := h3 hp; ⟨b, o, e2, hc⟩⟩
 case h_3 =>
  simp only [Option.some.injEq, Prod.mk.injEq] at hs
  obtain ⟨rfl, rfl, rfl⟩ := hs
  exact ⟨none, 0, hv, Nat.le_refl _, by simp [bound], fun hp => by omega⟩
 case h_4 => cases hs
theorem news_of {w : World} {g : Gh} {b o m sz : Nat} {get : Nat → Nat → U} (hz : 0 < sz) (hc : ∀ i, i < m → ∀ j, j < sz → ∃ x, w.cell? ⟨b, o + (i * sz + j), none⟩ = some x ∧ RU w g (get i j) x) (k : Nat) (hk : k ≤ m) :
  ∃ cs : List Value, cs.length = k * sz ∧ (∀ j v, cs[j]? = some v → w.cell? ⟨b, o + j, none⟩ = some v) ∧ (∀ i, i < k → ∀ j, j < sz → ∃ x, cs[i * sz + j]? = some x ∧ RU w g (get i j) x) ∧ ∀ v ∈ cs, v.oneCell' = true := by
 obtain ⟨cs, hl, h1, h2⟩ := cells_list (w := w) (g := g) (b := b) (o := o) (k * sz) (fun q => get (q / sz) (q % sz)) (fun q hq => by
  have hi : q / sz < k := Nat.div_lt_of_lt_mul (by rw [Nat.mul_comm]; exact hq)
  have := hc (q / sz) (by omega) (q % sz) (Nat.mod_lt _ hz)
  rwa [show q / sz * sz + q % sz = q from by rw [Nat.mul_comm]; exact Nat.div_add_mod q sz] at this)
 refine ⟨cs, hl, h1, fun i hi j hj => ?_, fun v hv => ?_⟩
 ·have hlt : i * sz + j < k * sz := by
   have : (i + 1) * sz ≤ k * sz := Nat.mul_le_mul_right _ hi
   rw [Nat.succ_mul] at this
   omega
  obtain ⟨x, hx, hu⟩ := h2 _ hlt
  have e1 : (i * sz + j) / sz = i := by rw [Nat.mul_comm, Nat.mul_add_div hz, Nat.div_eq_of_lt hj]; omega
  have e2 : (i * sz + j) % sz = j := by rw [Nat.mul_comm, Nat.mul_add_mod, Nat.mod_eq_of_lt hj]
  simp only [e1, e2] at hu
  exact ⟨x, hx, hu⟩
 ·obtain ⟨q, hq⟩ := List.getElem?_of_mem hv
  have hlt : q < k * sz := by
   rw [← hl]; exact (List.getElem?_eq_some_iff.1 hq).1
  obtain ⟨x, hx, hu⟩ := h2 q hlt
  rw [hq] at hx
  injection hx with hx
  rw [hx]; exact RU.one hu
def appGet (get : Nat → Nat → U) (n : Nat) (get2 : Nat → Nat → U) : Nat → Nat → U := fun i j => cond (Nat.blt i n) (get i j) (get2 (i - n) j)
def notRow (l : L) (r : Nat) : Bool := match l with | .row q => !(Nat.beq q r) | _ => true
def vappend (T : Ty) (σ : St) (t1 t2 : Nat) (sx sy : S) (K : S → St → Prop) : Prop :=
 match T t1 with
 | some { desc := .slice e, .. } => match T e with
  | some j => cond (Nat.beq t1 t2 && Nat.blt 0 j.size && Nat.blt 0 j.bytes) (match sx with
   | .rc r sz 0 k => match sy with
    | .rc r2 sz2 l h => match σ.obj r with
     | .row e' n sz' get => cond (Nat.beq r2 r && Nat.beq e' e && Nat.beq sz' j.size && Nat.beq sz j.size && Nat.beq sz2 j.size) ((k + (h - l)) * j.bytes ≤ bound ∧
      K (.val false [.row σ.next]) ((σ.set r .none).new (.row e (k + (h - l)) j.size (appGet get k fun i q => get (l + i) q)))) False
     | _ => False
    | _ => False
   | .val false [lx] => match sy with
    | .val false [ly] => match sliceOf σ j.size ly with
     | some (m, sz2, get2) => cond (Nat.beq sz2 j.size) (match lx with
      | .row r => cond (notRow ly r) (match σ.obj r with
       | .row e' n sz get => cond (Nat.beq e' e && Nat.beq sz j.size) ((n + m) * j.bytes ≤ bound ∧ K (.val false [.row σ.next]) ((σ.set r .none).new (.row e (n + m) j.size (appGet get n get2)))) False
       | _ => False) False
      | .nil => m * j.bytes ≤ bound ∧ K (.val false [.row σ.next]) (σ.new (.row e m j.size get2))
      | .u (.xsl n sz get) => cond (Nat.beq sz j.size && Nat.blt 0 m) ((n + m) * j.bytes ≤ bound ∧ K (.val false [.row σ.next]) (σ.new (.row e (n + m) j.size (appGet get n get2)))) False
      | _ => False) False
     | none => False
    | _ => False
   | _ => False) False
  | none => False
 | _ => False
theorem run_append_zero {t e ty : Nat} {j : TyI} (hu : P.underlying t = some (.slice e)) (he : TyOk P e j) (A B : Option Addr) (n c c' : Nat) (hn : n ≤ c) (w : World) (hnum : ∀ k, P.underlying t ≠ some (.int k)) :
  (Builtin.append_ #[t, t] ty #[.slice A n c, .slice B 0 c']).run P w = .ok (.slice A n c) w := by
 cases A <;> cases B <;> simp [Builtin.append_, run_underlying hu, he.size, Builtin.lenOf, hn, Builtin.firstCells, loadCells, loadCellsFrom, storeCells]
theorem append_fin (h : Rel F σ g a w) (hfree : ¬ g.df σ.next) (tt : Nat → Prop) (htt : ∀ r, tt r → σ.obj r = .none) {e N sz : Nat} (hz : 0 < sz) (hnm : N ≤ bound) {ob : Option Nat} {v' : Value} {w' : World} {xs' : List Value} {get3 : Nat → Nat → U}
  (q2 : w'.ownsRow 0 e sz v' N xs') (q3 : w.grownBy w' ob) (q4 : v'.ownBlock = ob ∨ ∃ b, v'.ownBlock = some b ∧ w.heap.size ≤ b) (q5 : ∀ i, i < N → ∀ k, k < sz → ∃ x, xs'[i * sz + k]? = some x ∧ RU w g (get3 i k) x)
  (hv : ∀ b, ob = some b → (F.w0.heap.size ≤ b ∨ F.X b) ∧ b < w.heap.size ∧ ¬ g.Fz b ∧ ¬ F.Tz b ∧ (∀ r, g.om b = some r → tt r)) :
  ∃ g', Rel F (σ.new (.row e N sz get3)) g' a w' ∧ g'.rv σ.next = v' ∧ v'.oneCell' = true ∧ g'.df σ.next ∧ Ev tt σ g w (σ.new (.row e N sz get3)) g' w' := by
 have hone : v'.oneCell' = true := by
  rcases q2.2 with ⟨e1, _⟩ | ⟨gb, cap, cur, e1, _⟩ <;> rw [e1] <;> rfl
 have hbel : BX F w' := h.below.grown q3 fun k hk => (hv k hk).1
 have hblk : ∀ b, blk v' = some b → v'.ownBlock = some b := by
  intro b hb
  rcases q2.2 with ⟨e1, _⟩ | ⟨gb, cap, cur, e1, _⟩
  ·rw [e1] at hb; cases hb
  ·rw [e1] at hb ⊢; exact hb
 obtain ⟨g', r1, r2, r4, r3⟩ := h.new hfree tt htt (w' := w') hbel q3.size (fun b hz' => q3.block b (h.zone hz').1 fun e => by
   have hv' := hv b e.symm
   rcases hz' with hz' | hz'
   ·exact hv'.2.2.1 hz'
   ·rw [h.tz] at hz'; exact hv'.2.2.2.1 hz')
  (fun b r hom hn => q3.block b (h.om b r hom).2 fun e => hn ((hv b e.symm).2.2.2.2 r hom))
  (.row e N sz get3) v' (fun b hb => by
   have hb' := hblk b hb
   have hlt := (q2.lt b hb').2
   rcases q4 with q4 | q4
   ·rw [q4] at hb'
    have := hv b hb'
    exact ⟨this.1, hlt, this.2.2.1, this.2.2.2⟩
   ·obtain ⟨b', q4, q6⟩ := q4
    rw [q4] at hb'
    injection hb' with hb'
    subst hb'
    have hle := Nat.le_trans h.le q6
    exact ⟨.inl hle, hlt, fun hf => by have := (h.fz _ hf).2.1; omega, fun hf => by have := (h.tz' _ hf).1; omega, fun r hom => by have := (h.om _ r hom).2; omega⟩)
  (fun g' hrv hom hgr => ⟨hz, hnm, ⟨xs', by rw [hrv]; exact q2, fun i hi k hk => by
   obtain ⟨x, hx, hr⟩ := q5 i hi k hk
   exact ⟨x, hx, RU.mono hgr _ _ hr⟩⟩, fun b hb => hom b (by rw [hrv] at hb; exact blk_own hb)⟩)
 exact ⟨g', r1, r2, hone, r4, r3⟩
theorem append_row (h : Rel F σ g a w) (hfree : ¬ g.df σ.next) (tt : Nat → Prop) (htt : ∀ r, tt r → σ.obj r = .none) {t ty e : Nat} {j : TyI} (hu : P.underlying t = some (.slice e)) (he : TyOk P e j) (hz : 0 < j.size) (hb : 0 < j.bytes)
  {v : Value} {n : Nat} {xs : List Value} (hown : w.ownsRow 0 e j.size v n xs) {get get2 : Nat → Nat → U} (hget : ∀ i, i < n → ∀ k, k < j.size → ∃ x, xs[i * j.size + k]? = some x ∧ RU w g (get i k) x)
  {A : Option Addr} {m c : Nat} (hA : 0 < m → ∃ b o, A = some ⟨b, o, none⟩ ∧ ∀ i, i < m → ∀ k, k < j.size → ∃ x, w.cell? ⟨b, o + (i * j.size + k), none⟩ = some x ∧ RU w g (get2 i k) x)
  (hbytes : (n + m) * j.bytes ≤ bound) (hv : ∀ b, v.ownBlock = some b → (F.w0.heap.size ≤ b ∨ F.X b) ∧ b < w.heap.size ∧ ¬ g.Fz b ∧ ¬ F.Tz b ∧ (∀ r, g.om b = some r → tt r)) :
  ∃ v' w' g', (Builtin.append_ #[t, t] ty #[v, .slice A m c]).run P w = .ok v' w' ∧ Rel F (σ.new (.row e (n + m) j.size (appGet get n get2))) g' a w' ∧ g'.rv σ.next = v' ∧ v'.oneCell' = true ∧ g'.df σ.next ∧
   Ev tt σ g w (σ.new (.row e (n + m) j.size (appGet get n get2))) g' w' := by
 have hnm : n + m ≤ bound := Nat.le_trans (Nat.le_mul_of_pos_right _ hb) hbytes
 obtain ⟨inf, z, h1, h2, h3, h4, h5⟩ := he.info
 -- the run, and what it leaves
 have hrun : ∃ v' w' xs', (Builtin.append_ #[t, t] ty #[v, .slice A m c]).run P w = .ok v' w' ∧ w'.ownsRow 0 e j.size v' (n + m) xs' ∧ w.grownBy w' v.ownBlock ∧
   (v'.ownBlock = v.ownBlock ∨ v'.ownBlock = some w.heap.size) ∧ ∀ i, i < n + m → ∀ k, k < j.size → ∃ x, xs'[i * j.size + k]? = some x ∧ RU w g (appGet get n get2 i k) x := by
  rcases Nat.eq_zero_or_pos m with h0 | hm
  ·subst h0
   have hsl : ∃ B cc, v = .slice B n cc ∧ n ≤ cc := by
    rcases hown.2 with ⟨e1, e2⟩ | ⟨gb, cap, cur, e1, _, _, q3, _⟩
    ·exact ⟨none, 0, by rw [e1, e2], by omega⟩
    ·exact ⟨_, cap, e1, q3⟩
   obtain ⟨B, cc, e1, e2⟩ := hsl
   refine ⟨v, w, xs, ?_, by simpa using hown, World.grownBy.refl _ _, .inl rfl, fun i hi k hk => ?_⟩
   ·rw [e1]; exact run_append_zero (P := P) hu he B A n cc c e2 w (fun k hk => by rw [hu] at hk; cases hk)
   ·obtain ⟨x, hx, hr⟩ := hget i (by omega) k hk
    refine ⟨x, hx, ?_⟩
    have : appGet get n get2 i k = get i k := by
     unfold appGet
     rw [show Nat.blt i n = true from by simp [Nat.blt_eq]; omega]; rfl
    rw [this]; exact hr
  ·obtain ⟨b, o, hA', hc⟩ := hA hm
   obtain ⟨news, hl, hn1, hn2, hn3⟩ := news_of hz hc m (Nat.le_refl _)
   subst hA'
   obtain ⟨v', w', q1, q2, q3, _, q5⟩ := run_append_own_at (P := P) w 0 t ty e inf z j.size j.bytes hu h1 h4 h2 h3 (by
     have := congrArg List.length h5
     rw [he.len] at this
     simpa using this) hz v n xs hown ⟨b, o, none⟩ m c news hl
    (fun q u hq => by rw [addr_add]; exact hn1 q u hq) hn3 (by simp only [bound, maxLen] at *; omega) (by simpa [bound] using hbytes) (Nat.zero_le _)
   refine ⟨v', w', xs ++ news, q1, q2, q3, q5, fun i hi k hk => ?_⟩
   have hxl : xs.length = n * j.size := hown.1
   by_cases hin : i < n
   ·obtain ⟨x, hx, hr⟩ := hget i hin k hk
    refine ⟨x, by rw [List.getElem?_append_left (List.getElem?_eq_some_iff.1 hx).1]; exact hx, ?_⟩
    have : appGet get n get2 i k = get i k := by
     unfold appGet
     rw [show Nat.blt i n = true from by simp [Nat.blt_eq]; omega]; rfl
    rw [this]; exact hr
   ·obtain ⟨x, hx, hr⟩ := hn2 (i - n) (by omega) k hk
    have hidx : i * j.size + k - xs.length = (i - n) * j.size + k := by
     rw [hxl, Nat.sub_mul]
     have : n * j.size ≤ i * j.size := Nat.mul_le_mul_right _ (by omega)
     omega
    refine ⟨x, by
     rw [List.getElem?_append_right (by
      rw [hxl]
      have : n * j.size ≤ i * j.size := Nat.mul_le_mul_right _ (by omega)
      omega), hidx]; exact hx, ?_⟩
    have : appGet get n get2 i k = get2 (i - n) k := by
     unfold appGet
     rw [show Nat.blt i n = false from by rw [Bool.eq_false_iff]; simp [Nat.blt_eq]; omega]; rfl
    rw [this]; exact hr
 obtain ⟨v', w', xs', q1, q2, q3, q4, q5⟩ := hrun
 obtain ⟨g', r1⟩ := append_fin h hfree tt htt hz hnm q2 q3 (q4.imp id fun e => ⟨_, e, Nat.le_refl _⟩) q5 hv
 exact ⟨v', w', g', q1, r1⟩
theorem appGet_lo {get get2 : Nat → Nat → U} {n i k : Nat} (h : i < n) : appGet get n get2 i k = get i k := by
 unfold appGet
 rw [show Nat.blt i n = true from by simp [Nat.blt_eq]; omega]; rfl
theorem appGet_hi {get get2 : Nat → Nat → U} {n i k : Nat} (h : ¬ i < n) : appGet get n get2 i k = get2 (i - n) k := by
 unfold appGet
 rw [show Nat.blt i n = false from by rw [Bool.eq_false_iff]; simp [Nat.blt_eq]; omega]; rfl
theorem append_full (h : Rel F σ g a w) (hfree : ¬ g.df σ.next) {t ty e : Nat} {j : TyI} (hu : P.underlying t = some (.slice e)) (he : TyOk P e j) (hz : 0 < j.size) (hb : 0 < j.bytes)
  {v : Value} {n : Nat} {get get2 : Nat → Nat → U} (hv : RU w g (.xsl n j.size get) v)
  {A : Option Addr} {m c : Nat} (hm : 0 < m) (hA : 0 < m → ∃ b o, A = some ⟨b, o, none⟩ ∧ ∀ i, i < m → ∀ k, k < j.size → ∃ x, w.cell? ⟨b, o + (i * j.size + k), none⟩ = some x ∧ RU w g (get2 i k) x)
  (hbytes : (n + m) * j.bytes ≤ bound) :
  ∃ v' w' g', (Builtin.append_ #[t, t] ty #[v, .slice A m c]).run P w = .ok v' w' ∧ Rel F (σ.new (.row e (n + m) j.size (appGet get n get2))) g' a w' ∧ g'.rv σ.next = v' ∧ v'.oneCell' = true ∧ g'.df σ.next ∧
   Ev no σ g w (σ.new (.row e (n + m) j.size (appGet get n get2))) g' w' := by
 have hnm : n + m ≤ bound := Nat.le_trans (Nat.le_mul_of_pos_right _ hb) hbytes
 obtain ⟨inf, z, h1, h2, h3, h4, h5⟩ := he.info
 have hzs : z.cells.size = j.size := by
  have := congrArg List.length h5
  rw [he.len] at this
  simpa using this
 obtain ⟨A0, rfl, hn, h6⟩ := hv
 obtain ⟨b, o, hA', hc⟩ := hA hm
 obtain ⟨news, hl, hn1, hn2, hn3⟩ := news_of hz hc m (Nat.le_refl _)
 subst hA'
 have hold : ∃ olds : List Value, olds.length = n * j.size ∧ (∀ ad, A0 = some ad → ∀ q u, olds[q]? = some u → w.cell? (ad.add q) = some u) ∧ ∀ i, i < n → ∀ k, k < j.size → ∃ x, olds[i * j.size + k]? = some x ∧ RU w g (get i k) x := by
  rcases Nat.eq_zero_or_pos n with h0 | hp
  ·subst h0
   exact ⟨[], by simp, fun _ _ q u hq => by simp at hq, fun i hi => absurd hi (Nat.not_lt_zero i)⟩
  ·obtain ⟨b0, o0, e0, _, hc0⟩ := h6 hp
   obtain ⟨olds, p1, p2, p3, _⟩ := news_of hz hc0 n (Nat.le_refl _)
   refine ⟨olds, p1, fun ad had q u hq => ?_, p3⟩
   rw [e0] at had
   injection had with had
   rw [← had, addr_add]; exact p2 q u hq
 obtain ⟨olds, p1, p2, p3⟩ := hold
 have hrun : ∃ v' w', (Builtin.append_ #[t, t] ty #[.slice A0 n n, .slice (some ⟨b, o, none⟩) m c]).run P w = .ok v' w' ∧ w'.ownsRow 0 e j.size v' (n + m) (olds ++ news) ∧ w.grownBy w' none ∧ (v'.ownBlock = none ∨ ∃ b, v'.ownBlock = some b ∧ w.heap.size ≤ b) := by
  cases A0 with
  | none =>
   have h0 : n = 0 := by
    rcases Nat.eq_zero_or_pos n with h0 | hp
    ·exact h0
    ·obtain ⟨_, _, e0, _⟩ := h6 hp; cases e0
   subst h0
   have ho : olds = [] := List.eq_nil_of_length_eq_zero (by simpa using p1)
   subst ho
   obtain ⟨v', w', q1, q2, q3, _, q5⟩ := run_append_own_at (P := P) w 0 t ty e inf z j.size j.bytes hu h1 h4 h2 h3 hzs hz (.slice none 0 0) 0 [] (World.ownsRow_nil w 0 e j.size) ⟨b, o, none⟩ m c news hl
    (fun q u hq => by rw [addr_add]; exact hn1 q u hq) hn3 (by simp only [bound, maxLen] at *; omega) (by simpa [bound] using hbytes) (Nat.zero_le _)
   exact ⟨v', w', q1, q2, q3, q5.imp id fun e => ⟨_, e, Nat.le_refl _⟩⟩
  | some ad =>
   obtain ⟨v', w', q1, q2, q3⟩ := run_append_arg_grows (P := P) w t ty e inf z j.size j.bytes hu h1 h4 h2 h3 hzs hz ad n n olds p1 (p2 ad rfl) ⟨b, o, none⟩ m c news hl
    (fun q u hq => by rw [addr_add]; exact hn1 q u hq) (by omega) (by simp only [bound, maxLen] at *; omega) (by simpa [bound] using hbytes)
   refine ⟨v', w', q1, ⟨q2.1, ?_⟩, q3, ?_⟩
   ·rcases q2.2 with e1 | ⟨gb, cap, cur, e1, _, e3⟩
    ·exact .inl e1
    ·exact .inr ⟨gb, cap, cur, e1, Nat.zero_le _, e3⟩
   ·rcases q2.2 with ⟨e1, _⟩ | ⟨gb, cap, cur, e1, e2, e3, _⟩
    ·exact .inl (by rw [e1]; rfl)
    ·exact .inr ⟨gb, by rw [e1]; rfl, e2⟩
 obtain ⟨v', w', q1, q2, q3, q4⟩ := hrun
 have hxl := p1
 obtain ⟨g', r1⟩ := append_fin (get3 := appGet get n get2) h hfree no (fun _ h => h.elim) hz hnm q2 q3 q4 (fun i hi k hk => by
  by_cases hin : i < n
  ·obtain ⟨x, hx, hr⟩ := p3 i hin k hk
   exact ⟨x, by rw [List.getElem?_append_left (List.getElem?_eq_some_iff.1 hx).1]; exact hx, by rw [appGet_lo hin]; exact hr⟩
  ·obtain ⟨x, hx, hr⟩ := hn2 (i - n) (by omega) k hk
   have hle : n * j.size ≤ i * j.size := Nat.mul_le_mul_right _ (by omega)
   have hidx : i * j.size + k - olds.length = (i - n) * j.size + k := by
    rw [hxl, Nat.sub_mul]
    omega
   exact ⟨x, by rw [List.getElem?_append_right (by omega), hidx]; exact hx, by rw [appGet_hi hin]; exact hr⟩) (fun b hb => by cases hb)
 exact ⟨v', w', g', q1, r1⟩
theorem own_facts (h : Rel F σ g a w) {r e n sz : Nat} {get : Nat → Nat → U} (hr : g.df r) (ho : σ.obj r = .row e n sz get) :
  0 < sz ∧ n ≤ bound ∧ (∃ cs, w.ownsRow 0 e sz (g.rv r) n cs ∧ ∀ i, i < n → ∀ j, j < sz → ∃ x, cs[i * sz + j]? = some x ∧ RU w g (get i j) x) ∧
   ∀ b, (g.rv r).ownBlock = some b → (F.w0.heap.size ≤ b ∨ F.X b) ∧ b < w.heap.size ∧ ¬ g.Fz b ∧ ¬ F.Tz b ∧ g.om b = some r := by
 have hro := h.objs r hr
 rw [ho] at hro
 obtain ⟨h1, h2, h3, hom⟩ := hro
 refine ⟨h1, h2, h3, fun b hb => ?_⟩
 have := h.om b r (hom b hb)
 have hnf : ¬ g.Fz b := fun hf => by
  have h4 := (h.fz b hf).2.2
  rw [hom b hb] at h4
  cases h4
 have hnt : ¬ F.Tz b := fun hf => by
  have h4 := (h.tz' b hf).2
  rw [hom b hb] at h4
  cases h4
 exact ⟨this.1, this.2, hnf, hnt, hom b hb⟩
theorem vappend_sound (hT : TabOk P T) (h : Rel F σ g a w) (hfree : ¬ g.df σ.next) {t1 t2 ty : Nat} {x y : Operand} {K : S → St → Prop} (hs : vappend T σ t1 t2 (σ.eval x) (σ.eval y) K) :
  ∃ s σ' g' v w', K s σ' ∧ (Builtin.append_ #[t1, t2] ty #[a.eval x, a.eval y]).run P w = .ok v w' ∧ Rel F σ' g' a w' ∧ RS w' g' s v ∧ Ev (al σ) σ g w σ' g' w' := by
 have hx := h.eval x
 have hy := h.eval y
 unfold vappend at hs
 split at hs
 case h_2 => exact hs.elim
 case h_1 sz0 by0 ze0 e hi =>
  split at hs
  case h_2 => exact hs.elim
  case h_1 j hj =>
   have hu : P.underlying t1 = some (.slice e) := (hT t1 _ hi).desc
   have ty' := hT e j hj
   cases hc : (Nat.beq t1 t2 && Nat.blt 0 j.size && Nat.blt 0 j.bytes) with
   | false => rw [hc] at hs; exact hs.elim
   | true =>
    rw [hc] at hs
    simp only [cond_true] at hs
    simp only [Bool.and_eq_true] at hc
    have c1 := Nat.eq_of_beq_eq_true hc.1.1
    have c2 : 0 < j.size := Nat.le_of_ble_eq_true hc.1.2
    have c3 : 0 < j.bytes := Nat.le_of_ble_eq_true hc.2
    subst c1
    split at hs
    case h_3 => exact hs.elim
    case h_1 r sz k hex =>
     split at hs
     case h_2 => exact hs.elim
     case h_1 r2 sz2 l q hey =>
      split at hs
      case h_2 => exact hs.elim
      case h_1 e' n sz' get hob =>
       cases hc4 : (Nat.beq r2 r && Nat.beq e' e && Nat.beq sz' j.size && Nat.beq sz j.size && Nat.beq sz2 j.size) with
       | false => rw [hc4] at hs; exact hs.elim
       | true =>
        rw [hc4] at hs
        simp only [cond_true] at hs
        simp only [Bool.and_eq_true] at hc4
        have d1 := Nat.eq_of_beq_eq_true hc4.1.1.1.1
        have d2 := Nat.eq_of_beq_eq_true hc4.1.1.1.2
        have d3 := Nat.eq_of_beq_eq_true hc4.1.1.2
        have d4 := Nat.eq_of_beq_eq_true hc4.1.2
        have d5 := Nat.eq_of_beq_eq_true hc4.2
        subst d1; subst d2; subst d3; subst d4; subst d5
        obtain ⟨hbytes, hK⟩ := hs
        rw [hex] at hx
        rw [hey] at hy
        obtain ⟨hr, A, n1, c, f1, f2, _, f3, f4⟩ := hx
        obtain ⟨_, A', n2, c', f5, _, f6, f7, f8⟩ := hy
        rw [f1] at f5
        injection f5 with f5 f9 f10
        subst f5; subst f9; subst f10
        obtain ⟨p1, p2, ⟨cs, hown, hcc⟩, hbk⟩ := own_facts h hr hob
        have hn : n1 = n := by
         rcases hown.2 with ⟨g1, g2⟩ | ⟨gb, cap, cur, g1, _⟩
         ·rw [f1] at g1; injection g1 with g1 g3 g4; omega
         ·rw [f1] at g1; injection g1
        subst hn
        have f4' : a.eval x = .slice A k c := by
         rw [f4]
         have : (A.map (·.add (0 * j.size)) : Option Addr) = A := by
          cases A with
          | none => rfl
          | some ad => simp [Addr.add]
         rw [this]; simp
        have hown' : w.ownsRow 0 e' j.size (.slice A k c) k (cs.take (k * j.size)) := by
         refine ⟨?_, ?_⟩
         ·rw [List.length_take, hown.1]
          have : k * j.size ≤ n1 * j.size := Nat.mul_le_mul_right _ f3
          omega
         ·rcases hown.2 with ⟨g1, g2⟩ | ⟨gb, cap, cur, g1, g2, g3, g4, g5, g6, g7⟩
          ·rw [f1] at g1; injection g1 with g1 g8 g9
           subst g1; subst g9
           have : k = 0 := by omega
           subst this
           exact .inl ⟨rfl, rfl⟩
          ·rw [f1] at g1; injection g1 with g1 g8 g9
           subst g1; subst g9
           refine .inr ⟨gb, c, cur, rfl, g2, g3, by omega, g5, g6, ?_⟩
           rw [← g7, List.take_take]
           congr 1
           have : k * j.size ≤ n1 * j.size := Nat.mul_le_mul_right _ f3
           omega
        have hcell : ∀ b, A = some ⟨b, 0, none⟩ → ∀ i, i < n1 → ∀ q, q < j.size → ∃ v, w.cell? ⟨b, i * j.size + q, none⟩ = some v ∧ RU w g (get i q) v := by
         intro b hb i hi q hq
         have ho := h.objs r2 hr
         rw [hob] at ho
         exact (RO.cells ho (b := b) (by rw [f1, hb])).2 i hi q hq
        have hsome : 0 < n1 → ∃ b, A = some ⟨b, 0, none⟩ := by
         intro hp
         have ho := h.objs r2 hr
         rw [hob] at ho
         obtain ⟨A2, c2, g1, _, g2⟩ := RO.slice ho
         rw [f1] at g1; injection g1 with g1
         subst g1
         exact g2 hp
        have hA : 0 < q - l → ∃ b o, (if c = l then A else A.map (·.add (l * j.size))) = some ⟨b, o, none⟩ ∧ ∀ i, i < q - l → ∀ t, t < j.size → ∃ v, w.cell? ⟨b, o + (i * j.size + t), none⟩ = some v ∧ RU w g (get (l + i) t) v := by
         intro hp
         obtain ⟨b, hb⟩ := hsome (by omega)
         refine ⟨b, l * j.size, ?_, fun i hi t ht => ?_⟩
         ·rw [if_neg (by omega), hb]; simp [addr_add]
         ·obtain ⟨v, h1, h2⟩ := hcell b hb (l + i) (by omega) t ht
          refine ⟨v, ?_, h2⟩
          rw [show l * j.size + (i * j.size + t) = (l + i) * j.size + t from by rw [Nat.add_mul]; omega]; exact h1
        obtain ⟨v', w', g', q1, q2, q3, q4, q5, q6⟩ := append_row (P := P) (ty := ty) (h.kill r2) hfree (· = r2) (fun q hq => by rw [St.set_obj, if_pos hq]) hu ty' c2 c3 hown' (get := get) (get2 := fun i t => get (l + i) t) (c := c - l) (fun i hi t ht => by
         obtain ⟨v, h1, h2⟩ := hcc i (by omega) t ht
         refine ⟨v, ?_, h2⟩
         have : (i + 1) * j.size ≤ k * j.size := Nat.mul_le_mul_right _ hi
         rw [Nat.add_mul] at this
         rw [List.getElem?_take_of_lt (by omega)]; exact h1) hA hbytes (fun b hb => by
         have hb' : (g.rv r2).ownBlock = some b := by rw [f1]; cases A with
          | none => cases hb
          | some ad => exact hb
         obtain ⟨z1, z2, z3, z5, z4⟩ := hbk b hb'
         exact ⟨z1, z2, z3, z5, fun q hq => by
          rw [z4] at hq
          injection hq with hq
          exact hq.symm⟩)
        refine ⟨_, _, g', v', w', hK, by rw [f4', f8]; exact q1, q2, RV.of_cell ⟨q5, q3.symm, q4⟩, ?_⟩
        refine Ev.mono (t := (· = r2)) (fun q hq => by show σ.obj q ≠ .none; rw [hq, hob]; simp) ⟨q6.grow, q6.fr, q6.df, q6.nx, q6.sz, q6.slots, fun q ht hq => ?_⟩
        rw [q6.obj q ht hq, St.set_obj, if_neg ht]
    case h_2 lx hex =>
     split at hs
     case h_2 => exact hs.elim
     case h_1 ly hey =>
      split at hs
      case h_2 => exact hs.elim
      case h_1 m sz2 get2 hsl =>
       cases hc2 : Nat.beq sz2 j.size with
       | false => rw [hc2] at hs; exact hs.elim
       | true =>
        rw [hc2] at hs
        simp only [cond_true] at hs
        have c4 := Nat.eq_of_beq_eq_true hc2
        subst c4
        rw [hex] at hx
        rw [hey] at hy
        have hlx := RV.cell hx
        have hly := RV.cell hy
        obtain ⟨A, c, e1, e2, e3, e4⟩ := sliceOf_sound h hsl hly
        split at hs
        case h_4 => exact hs.elim
        case h_3 n sz get =>
         cases hc3 : (Nat.beq sz j.size && Nat.blt 0 m) with
         | false => rw [hc3] at hs; exact hs.elim
         | true =>
          rw [hc3] at hs
          simp only [cond_true] at hs
          simp only [Bool.and_eq_true] at hc3
          have c5 := Nat.eq_of_beq_eq_true hc3.1
          have c6 := Nat.le_of_ble_eq_true hc3.2
          subst c5
          obtain ⟨hbytes, hK⟩ := hs
          obtain ⟨v', w', g', q1, q2, q3, q4, q5, q6⟩ := append_full (P := P) (ty := ty) (get2 := get2) (c := c) h hfree hu ty' c2 c3 hlx c6 e4 hbytes
          exact ⟨_, _, g', v', w', hK, by rw [e1]; exact q1, q2, RV.of_cell ⟨q5, q3.symm, q4⟩, q6.mono fun _ h => h.elim⟩
        case h_1 r =>
         cases hc3 : notRow ly r with
         | false => rw [hc3] at hs; exact hs.elim
         | true =>
          rw [hc3] at hs
          simp only [cond_true] at hs
          split at hs
          case h_2 => exact hs.elim
          case h_1 e' n sz get hob =>
           cases hc4 : (Nat.beq e' e && Nat.beq sz j.size) with
           | false => rw [hc4] at hs; exact hs.elim
           | true =>
            rw [hc4] at hs
            simp only [cond_true] at hs
            simp only [Bool.and_eq_true] at hc4
            have c5 := Nat.eq_of_beq_eq_true hc4.1
            have c6 := Nat.eq_of_beq_eq_true hc4.2
            subst c5; subst c6
            obtain ⟨hbytes, hK⟩ := hs
            obtain ⟨hr, hv, _⟩ := hlx
            obtain ⟨p1, p2, ⟨cs, hown, hcc⟩, hbk⟩ := own_facts h hr hob
            obtain ⟨v', w', g', q1, q2, q3, q4, q5, q6⟩ := append_row (P := P) (ty := ty) (h.kill r) hfree (· = r) (fun q hq => by rw [St.set_obj, if_pos hq]) hu ty' c2 c3 hown hcc e4 hbytes (fun b hb => by
             obtain ⟨z1, z2, z3, z5, z4⟩ := hbk b hb
             exact ⟨z1, z2, z3, z5, fun q hq => by
              rw [z4] at hq
              injection hq with hq
              exact hq.symm⟩)
            refine ⟨_, _, g', v', w', hK, by rw [hv, e1]; exact q1, q2, RV.of_cell ⟨q5, q3.symm, q4⟩, ?_⟩
            refine Ev.mono (t := (· = r)) (fun q hq => by show σ.obj q ≠ .none; rw [hq, hob]; simp) ⟨q6.grow, q6.fr, q6.df, q6.nx, q6.sz, q6.slots, fun q ht hq => ?_⟩
            rw [q6.obj q ht hq, St.set_obj, if_neg ht]
        case h_2 =>
         obtain ⟨hbytes, hK⟩ := hs
         have hv : a.eval x = .slice none 0 0 := hlx
         have hown := World.ownsRow_nil w 0 e j.size
         obtain ⟨v', w', g', q1, q2, q3, q4, q5, q6⟩ := append_row (P := P) (ty := ty) (get := get2) h hfree no (fun _ h => h.elim) hu ty' c2 c3 hown (fun i hi => absurd hi (Nat.not_lt_zero i)) e4 (by simpa using hbytes) (fun b hb => by simp [Value.ownBlock] at hb)
         have hfun : appGet get2 0 get2 = get2 := by
          funext i k
          unfold appGet
          rw [show Nat.blt i 0 = false from by rw [Bool.eq_false_iff]; simp [Nat.blt_eq]]
          rfl
         rw [hfun, Nat.zero_add] at q2 q6
         exact ⟨_, _, g', v', w', hK, by rw [hv, e1]; exact q1, q2, RV.of_cell ⟨q5, q3.symm, q4⟩, q6.mono fun _ h => h.elim⟩
def copyGet (get : Nat → Nat → U) (k : Nat) (get2 : Nat → Nat → U) : Nat → Nat → U := fun i j => cond (Nat.blt i k) (get2 i j) (get i j)
def vcopy (T : Ty) (σ : St) (t1 : Nat) (sx sy : S) (K : S → St → Prop) : Prop :=
 match T t1 with
 | some { desc := .slice e, .. } => match T e with
  | some j => match sx with
   | .val false [.row r] => match sy with
    | .val false [ly] => match sliceOf σ j.size ly with
     | some (m, sz2, get2) => cond (Nat.beq sz2 j.size && notRow ly r) (match σ.obj r with
      | .row e' n sz get => cond (Nat.beq e' e && Nat.beq sz j.size) (K (vint .i64 (Nat.min m n)) (σ.set r (.row e n j.size (copyGet get (Nat.min m n) get2)))) False
      | _ => False) False
     | none => False
    | _ => False
   | _ => False
  | none => False
 | _ => False
theorem run_copy {t e ty : Nat} {t2 : Nat} {j : TyI} (hu : P.underlying t = some (.slice e)) (he : TyOk P e j) (b n c : Nat) (A : Option Addr) (m c' : Nat) (cur : Array Value) (cs : List Value) (w : World)
  (hg : w.heap[b]? = some (.cells cur e (0, 0))) (hfit : Nat.min m n * j.size ≤ cur.size) (hl : cs.length = Nat.min m n * j.size) (h1 : ∀ v ∈ cs, v.oneCell' = true)
  (hA : A = none → Nat.min m n = 0) (hcs : ∀ ad, A = some ad → ∀ q v, cs[q]? = some v → w.cell? (ad.add q) = some v) :
  (Builtin.copy_ #[t, t2] ty #[.slice (some ⟨b, 0, none⟩) n c, .slice A m c']).run P w = .ok (.int .i64 (Nat.min m n : Nat)) (w.setRow b (spliceL cur.toList 0 cs).toArray) := by
 have hst := run_storeCells_at P b 0 e cs 0 cur w hg (by simp; omega) h1
 simp only [Nat.zero_add] at hst
 have hfirst : (Builtin.firstCells j.size (Nat.min m n) (.slice A m c')).run P w = .ok cs.toArray w := by
  cases A with
  | none =>
   have h0 := hA rfl
   have : cs = [] := List.eq_nil_of_length_eq_zero (by rw [hl, h0]; simp)
   subst this
   exact run_firstCells_none w _ _ _ _
  | some ad => exact run_firstCells_some w j.size _ ad m c' cs hl (hcs ad rfl)
 have hsp : (spliceL cur.toList 0 cs).toArray = (cs ++ cur.toList.drop cs.length).toArray := by simp [spliceL]
 rw [hsp]
 simp [Builtin.copy_, run_underlying hu, he.size, Builtin.lenOf, hfirst, hst, goInt]
theorem vcopy_sound (hT : TabOk P T) (h : Rel F σ g a w) {t1 t2 ty : Nat} {x y : Operand} {K : S → St → Prop} (hs : vcopy T σ t1 (σ.eval x) (σ.eval y) K) :
  ∃ s σ' g' v w', K s σ' ∧ (Builtin.copy_ #[t1, t2] ty #[a.eval x, a.eval y]).run P w = .ok v w' ∧ Rel F σ' g' a w' ∧ RS w' g' s v ∧ Ev (al σ) σ g w σ' g' w' := by
 have hx := h.eval x
 have hy := h.eval y
 unfold vcopy at hs
 split at hs
 case h_2 => exact hs.elim
 case h_1 sz0 by0 ze0 e hi =>
  split at hs
  case h_2 => exact hs.elim
  case h_1 j hj =>
   have hu : P.underlying t1 = some (.slice e) := (hT t1 _ hi).desc
   have ty' := hT e j hj
   split at hs
   case h_2 => exact hs.elim
   case h_1 r hex =>
    split at hs
    case h_2 => exact hs.elim
    case h_1 ly hey =>
     split at hs
     case h_2 => exact hs.elim
     case h_1 m sz2 get2 hsl =>
      cases hc2 : (Nat.beq sz2 j.size && notRow ly r) with
      | false => rw [hc2] at hs; exact hs.elim
      | true =>
       rw [hc2] at hs
       simp only [cond_true] at hs
       simp only [Bool.and_eq_true] at hc2
       have c4 := Nat.eq_of_beq_eq_true hc2.1
       subst c4
       rw [hex] at hx
       rw [hey] at hy
       obtain ⟨hr, hv, _⟩ := RV.cell hx
       have hly := RV.cell hy
       obtain ⟨A, c, e1, e2, e3, e4⟩ := sliceOf_sound h hsl hly
       split at hs
       case h_2 => exact hs.elim
       case h_1 e' n sz get hob =>
        cases hc4 : (Nat.beq e' e && Nat.beq sz j.size) with
        | false => rw [hc4] at hs; exact hs.elim
        | true =>
         rw [hc4] at hs
         simp only [cond_true] at hs
         simp only [Bool.and_eq_true] at hc4
         have c5 := Nat.eq_of_beq_eq_true hc4.1
         have c6 := Nat.eq_of_beq_eq_true hc4.2
         subst c5; subst c6
         obtain ⟨p1, p2, ⟨cs, hown, hcc⟩, hbk⟩ := own_facts h hr hob
         rcases hown.2 with ⟨hn, hn0⟩ | ⟨gb, cap, cur, q1, _, q2, q3, q4, q5, q6⟩
         ·-- nothing to copy into
          subst hn0
          have hmin : Nat.min m 0 = 0 := Nat.min_zero m
          rw [hmin] at hs
          obtain ⟨hset, hev⟩ := h.setObj hr (.row e' 0 j.size (copyGet get 0 get2)) (World.grownBy.refl w none) (fun k hk => by cases hk) rfl (fun _ =>
           ⟨p1, p2, ⟨cs, hown, fun i hi => absurd hi (Nat.not_lt_zero i)⟩, fun b hb => (hbk b hb).2.2.2.2⟩)
          refine ⟨_, _, g, .int .i64 0, w, hs, ?_, hset, vint_RS _ _ _ _, hev.mono fun q hq => by show σ.obj q ≠ .none; rw [hq, hob]; simp⟩
          rw [hv, hn, e1]
          have hfirst : (Builtin.firstCells j.size 0 (.slice A m c)).run P w = .ok #[] w := by
           cases A <;> simp [Builtin.firstCells, loadCells, loadCellsFrom]
          have hmin' : Nat.min m 0 = 0 := Nat.min_zero m
          simp [Builtin.copy_, run_underlying hu, ty'.size, Builtin.lenOf, hmin', hfirst, goInt]
         ·have hbl : (g.rv r).ownBlock = some gb := by rw [q1]; rfl
          have homb := (hbk gb hbl).2.2.2.2
          have hlecap : n * j.size ≤ cap * j.size := Nat.mul_le_mul_right _ q3
          have hkn : Nat.min m n * j.size ≤ n * j.size := Nat.mul_le_mul_right _ (Nat.min_le_right _ _)
          have hcsx : ∃ ks : List Value, ks.length = Nat.min m n * j.size ∧ (∀ v ∈ ks, v.oneCell' = true) ∧ (∀ ad, A = some ad → ∀ q v, ks[q]? = some v → w.cell? (ad.add q) = some v) ∧
            ∀ i, i < Nat.min m n → ∀ k, k < j.size → ∃ x, ks[i * j.size + k]? = some x ∧ RU w g (get2 i k) x := by
           rcases Nat.eq_zero_or_pos m with hm | hm
           ·subst hm
            have hmin : Nat.min 0 n = 0 := Nat.zero_min n
            rw [hmin]
            refine ⟨[], by simp, ?_, ?_, ?_⟩
            ·intro v hv; cases hv
            ·intro ad _ q v hq; simp at hq
            ·intro i hi; omega
           ·obtain ⟨b, o, hA, hc⟩ := e4 hm
            obtain ⟨ks, k1, k2, k3, k4⟩ := news_of p1 hc (Nat.min m n) (Nat.min_le_left _ _)
            exact ⟨ks, k1, k4, fun ad had q v hq => by rw [hA] at had; injection had with had; rw [← had, addr_add]; exact k2 q v hq, k3⟩
          obtain ⟨ks, k1, k2, k3, k4⟩ := hcsx
          have hcurl : Nat.min m n * j.size ≤ cur.size := by omega
          have hrun := run_copy (P := P) (ty := ty) (t2 := t2) hu ty' gb n cap A m c cur ks w q2 hcurl k1 k2 (fun hA => by
           rcases Nat.eq_zero_or_pos m with hm | hm
           ·subst hm; exact Nat.zero_min n
           ·obtain ⟨b, o, hA', _⟩ := e4 hm
            rw [hA] at hA'; cases hA') k3
          obtain ⟨r2, ev2⟩ := h.setObj hr (.row e' n j.size (copyGet get (Nat.min m n) get2)) (grownBy_setRow w gb (spliceL cur.toList 0 ks).toArray)
           (fun q hq => by injection hq with hq; subst hq; exact homb) (by simp) (fun hgr => by
           refine ⟨p1, p2, ⟨(spliceL cur.toList 0 ks).take (n * j.size), ⟨?_, .inr ⟨gb, cap, _, q1, Nat.zero_le _, setRow_heap w gb cur _ e' (0, 0) q2, q3, q4, ?_, ?_⟩⟩, fun i hi k hk => ?_⟩, fun b hb => (hbk b hb).2.2.2.2⟩
           ·rw [List.length_take, splice_len _ _ _ (by simp; omega)]; simp; omega
           ·rw [List.size_toArray, splice_len _ _ _ (by simp; omega)]; simpa using q5
           ·simp
           ·have hlt : i * j.size + k < n * j.size := by
             have : (i + 1) * j.size ≤ n * j.size := Nat.mul_le_mul_right _ hi
             rw [Nat.succ_mul] at this
             omega
            rw [List.getElem?_take, if_pos hlt, splice_get _ _ _ _ (by simp; omega)]
            obtain ⟨x0, hx0, hu0⟩ := hcc i hi k hk
            have hx0' : cur.toList[i * j.size + k]? = some x0 := by
             rw [← q6, List.getElem?_take, if_pos hlt] at hx0; exact hx0
            by_cases hin : i < Nat.min m n
            ·have hlt2 : i * j.size + k < ks.length := by
              have : (i + 1) * j.size ≤ Nat.min m n * j.size := Nat.mul_le_mul_right _ hin
              rw [Nat.succ_mul] at this
              omega
             rw [if_pos ⟨by omega, by omega⟩]
             obtain ⟨x, hx, hr⟩ := k4 i hin k hk
             refine ⟨x, by simpa using hx, ?_⟩
             have : copyGet get (Nat.min m n) get2 i k = get2 i k := by
              unfold copyGet
              rw [show Nat.blt i (Nat.min m n) = true from by simp only [Nat.blt_eq]; exact hin]; rfl
             rw [this]; exact RU.mono hgr _ _ hr
            ·have hge : ks.length ≤ i * j.size + k := by
              have : Nat.min m n * j.size ≤ i * j.size := Nat.mul_le_mul_right _ (by omega)
              omega
             rw [if_neg (by omega)]
             refine ⟨x0, hx0', ?_⟩
             have : copyGet get (Nat.min m n) get2 i k = get i k := by
              unfold copyGet
              rw [show Nat.blt i (Nat.min m n) = false from by rw [Bool.eq_false_iff]; simp only [ne_eq, Nat.blt_eq]; exact hin]; rfl
             rw [this]; exact RU.mono hgr _ _ hu0)
          exact ⟨_, _, g, _, _, hs, by rw [hv, q1, e1]; exact hrun, r2, vint_RS _ _ _ _, ev2.mono fun q hq => by show σ.obj q ≠ .none; rw [hq, hob]; simp⟩
end
end Go.Vs

namespace Go.Vs
open Go.RowKit (Below)
section
variable {P : Program} [Glob P] {T : Ty} {F : Fix P} {σ : St} {g : Gh} {a : Act} {w : World}
def vcut (T : Ty) (σ : St) (t : Nat) (x : S) (lo hi : Option S) (K : S → Prop) : Prop :=
 match T t with
 | some { desc := .slice e, .. } => match T e with
  | some j => match x with
   | .val false [.u (.sl tmp n sz get)] => cond (Nat.beq sz j.size) (match lo, hi with
    | none, none => K (.val false [.u (.sl tmp n sz get)])
    | some (.val false [.u (.int _ l)]), none => (0 ≤ l ∧ l ≤ n) ∧ K (.val false [.u (.sl tmp (n - l.toNat) sz fun i k => get (l.toNat + i) k)])
    | none, some (.val false [.u (.int _ h)]) => (0 ≤ h ∧ h ≤ n) ∧ K (.val false [.u (.sl tmp h.toNat sz get)])
    | some (.val false [.u (.int _ l)]), some (.val false [.u (.int _ h)]) => (0 ≤ l ∧ l ≤ h ∧ h ≤ n) ∧ K (.val false [.u (.sl tmp (h.toNat - l.toNat) sz fun i k => get (l.toNat + i) k)])
    | _, _ => False) False
   | .val false [.row r] => match σ.obj r with
    | .row _ n sz _ => cond (Nat.beq sz j.size) (match lo, hi with
     | some (.val false [.u (.int _ l)]), none => (0 ≤ l ∧ l ≤ n) ∧ K (.rc r sz l.toNat n)
     | none, some (.val false [.u (.int _ h)]) => (0 ≤ h ∧ h ≤ n) ∧ K (.rc r sz 0 h.toNat)
     | _, _ => False) False
    | _ => False
   | _ => False
  | none => False
 | some { desc := .base .string, .. } => match x with
  | .val false [.u (.str s)] => match lo, hi with
   | none, none => K (vstr s)
   | some (.val false [.u (.int _ l)]), none => (0 ≤ l ∧ l ≤ s.size) ∧ K (vstr (s.extract l.toNat s.size))
   | none, some (.val false [.u (.int _ h)]) => (0 ≤ h ∧ h ≤ s.size) ∧ K (vstr (s.extract 0 h.toNat))
   | some (.val false [.u (.int _ l)]), some (.val false [.u (.int _ h)]) => (0 ≤ l ∧ l ≤ h ∧ h ≤ s.size) ∧ K (vstr (s.extract l.toNat h.toNat))
   | _, _ => False
  | _ => False
 | _ => False
theorem addr_add' (A : Option Addr) (b o k : Nat) (hA : A = some ⟨b, o, none⟩) : A.map (·.add k) = some ⟨b, o + k, none⟩ := by rw [hA]; simp [addr_add]
theorem run_cut {t e : Nat} {j : TyI} (hu : P.underlying t = some (.slice e)) (he : TyOk P e j) (A : Option Addr) (n c : Nat) (lo hi : Option Value) (l h : Nat) (hn : n ≤ c)
  (hlo : (lo = none ∧ l = 0) ∨ ∃ k, lo = some (.int k l)) (hhi : (hi = none ∧ h = n) ∨ ∃ k, hi = some (.int k h)) (h1 : l ≤ h) (h2 : h ≤ c) (w : World) :
  (Instr.sliceAt t (.slice A n c) lo hi none).run P w = .ok (.slice (if c = l then A else A.map (·.add (l * j.size))) (h - l) (c - l)) w := by
 have hl' : (0 : Int) ≤ (l : Int) := by omega
 have hh' : (0 : Int) ≤ (h : Int) := by omega
 rcases hlo with ⟨rfl, rfl⟩ | ⟨k, rfl⟩ <;> rcases hhi with ⟨rfl, rfl⟩ | ⟨k', rfl⟩ <;>
  simp [Instr.sliceAt, Instr.slice, run_underlying hu, Instr.sliceBounds, Instr.sliceBound, asIntOf, he.size, h1, h2]
theorem RU.cut {w : World} {g : Gh} {tmp : Bool} {n sz : Nat} {get : Nat → Nat → U} {A : Option Addr} {c l h : Nat} (hr : RU w g (.sl tmp n sz get) (.slice A n c)) (h1 : l ≤ h) (h2 : h ≤ n) :
  RU w g (.sl tmp (h - l) sz fun i k => get (l + i) k) (.slice (if c = l then A else A.map (·.add (l * sz))) (h - l) (c - l)) := by
 obtain ⟨A', c', e, h3, h4, h5⟩ := hr
 injection e with e1 e2 e3
 subst e1; subst e3
 refine ⟨_, _, rfl, by omega, by omega, fun hp => ?_⟩
 obtain ⟨b, o, e4, hz, hc⟩ := h5 (by omega)
 rw [if_neg (by omega)]
 refine ⟨b, o + l * sz, addr_add' _ _ _ _ e4, hz, fun i hi k hk => ?_⟩
 obtain ⟨x, hx, hu⟩ := hc (l + i) (by omega) k hk
 refine ⟨x, ?_, hu⟩
 rw [show o + l * sz + (i * sz + k) = o + ((l + i) * sz + k) from by rw [Nat.add_mul]; omega]
 exact hx
theorem run_cut_str {t : Nat} (hu : P.underlying t = some .string) (s : ByteArray) (lo hi : Option Value) (l h : Nat)
  (hlo : (lo = none ∧ l = 0) ∨ ∃ k, lo = some (.int k l)) (hhi : (hi = none ∧ h = s.size) ∨ ∃ k, hi = some (.int k h)) (h1 : l ≤ h) (h2 : h ≤ s.size) (w : World) :
  (Instr.sliceAt t (.string s) lo hi none).run P w = .ok (.string (s.extract l h)) w := by
 rcases hlo with ⟨rfl, rfl⟩ | ⟨k, rfl⟩ <;> rcases hhi with ⟨rfl, rfl⟩ | ⟨k', rfl⟩ <;>
  simp [Instr.sliceAt, Instr.slice, run_underlying hu, Instr.sliceBounds, Instr.sliceBound, asIntOf, h1, h2]
def optS (σ : St) (o : Option Operand) : Option S := o.map σ.eval
theorem opt_none {o : Option Operand} (h : optS σ o = none) : o = none := by cases o <;> simp [optS] at h ⊢
theorem opt_int (h : Rel F σ g a w) {o : Option Operand} {k : IntKind} {n : Int} (ho : optS σ o = some (.val false [.u (.int k n)])) : o.map a.eval = some (.int k n) := by
 cases o with
 | none => cases ho
 | some x =>
  simp only [optS, Option.map_some, Option.some.injEq] at ho
  have hx := h.eval x
  rw [ho] at hx
  simp [show a.eval x = .int k n from RV.cell hx]
theorem vcut_sound (hT : TabOk P T) (h : Rel F σ g a w) {t : Nat} {x : Operand} {lo hi : Option Operand} {K : S → Prop} (hs : vcut T σ t (σ.eval x) (optS σ lo) (optS σ hi) K) :
  ∃ s v, K s ∧ (Instr.sliceAt t (a.eval x) (lo.map a.eval) (hi.map a.eval) none).run P w = .ok v w ∧ RS w g s v := by
 have hx := h.eval x
 unfold vcut at hs
 split at hs
 case h_3 => exact hs.elim
 case h_1 sz0 by0 ze0 e hi0 =>
  split at hs
  case h_2 => exact hs.elim
  case h_1 j hj =>
   have hu : P.underlying t = some (.slice e) := (hT t _ hi0).desc
   have ty' := hT e j hj
   split at hs
   case h_3 => exact hs.elim
   case h_2 r hex =>
    rw [hex] at hx
    obtain ⟨hr, hv, _⟩ := RV.cell hx
    have ho := h.objs r hr
    split at hs
    case h_2 => exact hs.elim
    case h_1 e0 n sz get hob =>
     rw [hob] at ho
     obtain ⟨A, c, e1, e2, _⟩ := RO.slice ho
     cases hc : Nat.beq sz j.size with
     | false => rw [hc] at hs; exact hs.elim
     | true =>
      rw [hc] at hs
      simp only [cond_true] at hs
      have c1 := Nat.eq_of_beq_eq_true hc
      subst c1
      rw [hv, e1]
      split at hs
      case h_3 => exact hs.elim
      case h_1 k l hlo hhi =>
       obtain ⟨⟨h0, h1⟩, hK⟩ := hs
       obtain ⟨m, rfl⟩ := Int.eq_ofNat_of_zero_le h0
       rw [opt_none hhi, opt_int h hlo]
       exact ⟨_, _, hK, run_cut (P := P) hu ty' A n c _ none m n e2 (.inr ⟨k, rfl⟩) (.inl ⟨rfl, rfl⟩) (by omega) e2 w, hr, A, n, c, e1, e2, by simp at h1 ⊢; omega, Nat.le_refl _, rfl⟩
      case h_2 k hh hlo hhi =>
       obtain ⟨⟨h0, h1⟩, hK⟩ := hs
       obtain ⟨m, rfl⟩ := Int.eq_ofNat_of_zero_le h0
       rw [opt_none hlo, opt_int h hhi]
       exact ⟨_, _, hK, run_cut (P := P) hu ty' A n c none _ 0 m e2 (.inl ⟨rfl, rfl⟩) (.inr ⟨k, rfl⟩) (Nat.zero_le _) (by omega) w, hr, A, n, c, e1, e2, Nat.zero_le _, by simp at h1 ⊢; omega, rfl⟩
   case h_1 tmp n sz get hex =>
    cases hc : Nat.beq sz j.size with
    | false => rw [hc] at hs; exact hs.elim
    | true =>
     rw [hc] at hs
     simp only [cond_true] at hs
     have c1 := Nat.eq_of_beq_eq_true hc
     subst c1
     rw [hex] at hx
     have hr := RV.cell hx
     obtain ⟨A, c, e1, e2, e3, e4⟩ := id hr
     have hr' : RU w g (.sl tmp n j.size get) (a.eval x) := hr
     rw [e1] at hr' ⊢
     split at hs
     case h_5 => exact hs.elim
     case h_1 hlo hhi =>
      rw [opt_none hlo, opt_none hhi]
      refine ⟨_, _, hs, run_cut (P := P) hu ty' A n c none none 0 n e2 (.inl ⟨rfl, rfl⟩) (.inl ⟨rfl, rfl⟩) (Nat.zero_le _) e2 w, RV.of_cell ?_⟩
      have := RU.cut (l := 0) (h := n) hr' (Nat.zero_le _) (Nat.le_refl _)
      show RU w g _ _
      simpa using this
     case h_2 k l hlo hhi =>
      obtain ⟨⟨h0, h1⟩, hK⟩ := hs
      obtain ⟨m, rfl⟩ := Int.eq_ofNat_of_zero_le h0
      rw [opt_none hhi, opt_int h hlo]
      exact ⟨_, _, hK, run_cut (P := P) hu ty' A n c _ none m n e2 (.inr ⟨k, rfl⟩) (.inl ⟨rfl, rfl⟩) (by omega) e2 w, RV.of_cell (RU.cut hr' (by omega) (Nat.le_refl _))⟩
     case h_3 k hh hlo hhi =>
      obtain ⟨⟨h0, h1⟩, hK⟩ := hs
      obtain ⟨m, rfl⟩ := Int.eq_ofNat_of_zero_le h0
      rw [opt_none hlo, opt_int h hhi]
      refine ⟨_, _, hK, run_cut (P := P) hu ty' A n c none _ 0 m e2 (.inl ⟨rfl, rfl⟩) (.inr ⟨k, rfl⟩) (Nat.zero_le _) (by omega) w, RV.of_cell ?_⟩
      have := RU.cut (l := 0) (h := m) hr' (Nat.zero_le _) (by omega)
      show RU w g _ _
      simpa using this
     case h_4 k l k' hh hlo hhi =>
      obtain ⟨⟨h0, h1, h2⟩, hK⟩ := hs
      obtain ⟨m, rfl⟩ := Int.eq_ofNat_of_zero_le h0
      obtain ⟨m', rfl⟩ := Int.eq_ofNat_of_zero_le (Int.le_trans h0 h1)
      rw [opt_int h hlo, opt_int h hhi]
      exact ⟨_, _, hK, run_cut (P := P) hu ty' A n c _ _ m m' e2 (.inr ⟨k, rfl⟩) (.inr ⟨k', rfl⟩) (by omega) (by omega) w, RV.of_cell (RU.cut hr' (by omega) (by omega))⟩
 case h_2 sz0 by0 ze0 hi0 =>
  have hu : P.underlying t = some .string := (hT t _ hi0).desc.1
  split at hs
  case h_2 => exact hs.elim
  case h_1 s hex =>
   rw [hex] at hx
   rw [show a.eval x = .string s from RV.cell hx]
   split at hs
   case h_5 => exact hs.elim
   case h_1 hlo hhi =>
    rw [opt_none hlo, opt_none hhi]
    refine ⟨_, _, hs, run_cut_str (P := P) hu s none none 0 s.size (.inl ⟨rfl, rfl⟩) (.inl ⟨rfl, rfl⟩) (Nat.zero_le _) (Nat.le_refl _) w, ?_⟩
    have : s.extract 0 s.size = s := by simp
    rw [this]; exact vstr_RS _ _ _
   case h_2 k l hlo hhi =>
    obtain ⟨⟨h0, h1⟩, hK⟩ := hs
    obtain ⟨m, rfl⟩ := Int.eq_ofNat_of_zero_le h0
    rw [opt_none hhi, opt_int h hlo]
    exact ⟨_, _, hK, run_cut_str (P := P) hu s _ none m s.size (.inr ⟨k, rfl⟩) (.inl ⟨rfl, rfl⟩) (by omega) (Nat.le_refl _) w, vstr_RS _ _ _⟩
   case h_3 k hh hlo hhi =>
    obtain ⟨⟨h0, h1⟩, hK⟩ := hs
    obtain ⟨m, rfl⟩ := Int.eq_ofNat_of_zero_le h0
    rw [opt_none hlo, opt_int h hhi]
    exact ⟨_, _, hK, run_cut_str (P := P) hu s none _ 0 m (.inl ⟨rfl, rfl⟩) (.inr ⟨k, rfl⟩) (Nat.zero_le _) (by omega) w, vstr_RS _ _ _⟩
   case h_4 k l k' hh hlo hhi =>
    obtain ⟨⟨h0, h1, h2⟩, hK⟩ := hs
    obtain ⟨m, rfl⟩ := Int.eq_ofNat_of_zero_le h0
    obtain ⟨m', rfl⟩ := Int.eq_ofNat_of_zero_le (Int.le_trans h0 h1)
    rw [opt_int h hlo, opt_int h hhi]
    exact ⟨_, _, hK, run_cut_str (P := P) hu s _ _ m m' (.inr ⟨k, rfl⟩) (.inr ⟨k', rfl⟩) (by omega) (by omega) w, vstr_RS _ _ _⟩
end
end Go.Vs

namespace Go.Vs
open Go.RowKit (Below)
def findS : List (ByteArray × Bool) → ByteArray → Bool
 | [], _ => false
 | p :: r, k => bif k == p.1 then p.2 else findS r k
def putS : List (ByteArray × Bool) → ByteArray → Bool → List (ByteArray × Bool)
 | [], k, v => [(k, v)]
 | p :: r, k, v => bif k == p.1 then (p.1, v) :: r else p :: putS r k v
def smapTy (T : Ty) (t : Nat) : Bool :=
 match T t with
 | some { desc := .base (.map k e), .. } => match T k, T e with
  | some { desc := .base .string, .. }, some { desc := .base .bool, zero := [.bool false], .. } => true
  | _, _ => false
 | _ => false
def vmakeMap (T : Ty) (σ : St) (t : Nat) (K : S → St → Prop) : Prop := cond (smapTy T t) (K (.val false [.row σ.next]) (σ.new (.smap []))) False
def vlookup (T : Ty) (σ : St) (t : Nat) (x y : S) (K : S → Prop) : Prop :=
 match x, y with
 | .val false [.row r], .val false [.u (.str k)] => match σ.obj r with
  | .smap D => cond (smapTy T t) (K (vbool (findS D k))) False
  | _ => False
 | _, _ => False
def vmapUpd (T : Ty) (σ : St) (t : Nat) (x y z : S) (K : St → Prop) : Prop :=
 match x, y, z with
 | .val false [.row r], .val false [.u (.str k)], .val false [.u (.bool v)] => match σ.obj r with
  | .smap D => cond (smapTy T t) (K (σ.set r (.smap (putS D k v)))) False
  | _ => False
 | _, _, _ => False
def vbstr (T : Ty) (σ : St) (src dst r : Nat) (K : S → Prop) : Prop :=
 match T src, T dst with
 | some { desc := .slice e, .. }, some { desc := .base .string, .. } => match T e with
  | some { desc := .base (.int .u8), .. } => match σ.obj r with
   | .row _ n sz get => sz = 1 ∧ ∃ L : List Int, n = L.length ∧ (∀ i, i < n → get i 0 = .int .u8 (L.getD i 0)) ∧ K (vstr (strOfNums L))
   | _ => False
  | _ => False
 | _, _ => False
section
variable {P : Program} [Glob P] {T : Ty} {F : Fix P} {σ : St} {g : Gh} {a : Act} {w : World}
theorem vbstr_sound (hT : TabOk P T) (h : Rel F σ g a w) {src dst r : Nat} {x : Operand} (hx0 : σ.eval x = .val false [.row r]) {K : S → Prop} (hs : vbstr T σ src dst r K) :
  ∃ s v, K s ∧ (convert src dst (a.eval x)).run P w = .ok v w ∧ RS w g s v := by
 have hx := h.eval x
 rw [hx0] at hx
 have hxc : RL w g (.row r) (a.eval x) := RV.cell hx
 unfold vbstr at hs
 split at hs
 case h_2 => exact hs.elim
 case h_1 i1 i2 i3 i4 e j1 j2 j3 j4 h1 h2 =>
  split at hs
  case h_2 => exact hs.elim
  case h_1 k1 k2 k3 k4 h3 =>
   split at hs
   case h_2 => exact hs.elim
   case h_1 e' n sz get hob =>
    obtain ⟨rfl, L, hn, hg, hK⟩ := hs
    have u1 : P.underlying src = some (.slice e) := (hT _ _ h1).desc
    have u2 : P.underlying dst = some .string := (hT _ _ h2).desc.1
    have u3 : P.underlying e = some (.int .u8) := (hT _ _ h3).desc.1
    have ho := h.objs r hxc.1
    rw [hob] at ho
    obtain ⟨A, c, e1, e2, e3⟩ := RO.slice ho
    refine ⟨_, .string (strOfNums L), hK, ?_, vstr_RS _ _ _⟩
    rw [hxc.2.1, e1]
    rcases Nat.eq_zero_or_pos n with h0 | h0
    ·subst h0
     have : L = [] := List.length_eq_zero_iff.1 hn.symm
     subst this
     cases A with
     | none => rw [run_convert_bytes_nil w src e u1 u3 0 c dst u2]; rfl
     | some A =>
      obtain ⟨b, o, sp⟩ := A
      rw [run_convert_bytes_string w src dst e _ _ _ u1 u3 u2, run_bytesToString w _ 0 c [] (by simp [loadCells, loadCellsFrom])]
      rfl
    ·obtain ⟨b, rfl⟩ := e3 h0
     refine run_convert_bytes_arg w src e u1 u3 b 0 n c L hn.symm (fun i hi => ?_) dst u2
     obtain ⟨_, _, ⟨cs, hown, hc⟩, _⟩ := ho
     obtain ⟨x, hx1, hx2⟩ := hc i hi 0 (by omega)
     have := hown.cells (g := b) (by rw [e1]; rfl) (i * 1 + 0) x hx1
     rw [addr_add] at this
     rw [hg i hi] at hx2
     have hx3 : x = .int .u8 (L.getD i 0) := hx2
     rw [← hx3]
     simpa using this
theorem smapTy_ok (hT : TabOk P T) {t : Nat} (h : smapTy T t = true) : ∃ k e, P.underlying t = some (.map k e) ∧ P.underlying k = some .string ∧ ∀ w, (zeroValue e).run P w = .ok (.bool false) w := by
 unfold smapTy at h
 split at h
 ·rename_i i1 i2 i3 i4 k e ht
  split at h
  ·rename_i j1 j2 j3 j4 l1 l2 l3 hk he
   have h1 := (hT _ _ ht).desc
   have h2 := (hT _ _ hk).desc
   refine ⟨k, e, h1.1, h2.1, fun w => ?_⟩
   have h3 := hT _ _ he
   obtain ⟨inf, z, q1, _, _, q4, q5⟩ := h3.info
   have q6 := h3.zval rfl inf z q1 q4
   have : z = .bool false := by
    have := cells_one q6
    rw [this] at q5
    simpa using q5
   subst this
   simp [zeroValue, typeInfo, q1, q4]
  ·cases h
 ·cases h
theorem vmakeMap_sound (hT : TabOk P T) (h : Rel F σ g a w) (hfree : ¬ g.df σ.next) {t : Nat} {K : S → St → Prop} (hs : vmakeMap T σ t K) :
  ∃ s σ' g' v w', K s σ' ∧ (Instr.makeMap t none).run P w = .ok v w' ∧ Rel F σ' g' a w' ∧ RS w' g' s v ∧ Ev no σ g w σ' g' w' := by
 unfold vmakeMap at hs
 cases ht : smapTy T t with
 | false => rw [ht] at hs; exact hs.elim
 | true =>
  rw [ht] at hs
  obtain ⟨g', h1, h2, h4, h3⟩ := h.fresh hfree (below_alloc' w (.map #[] 0)) (.smap []) (.map (some w.heap.size)) (fun b hb => by
    simp only [blk, Option.some.injEq] at hb; subst hb; simp) (fun g' hrv hom hgr => ⟨w.heap.size, #[], 0, hrv, hom _ rfl, heap_alloc_new w _, rfl⟩)
  exact ⟨_, _, g', .map (some w.heap.size), _, hs, rfl, h1, RV.of_cell ⟨h4, h2.symm, rfl⟩, h3⟩
def ixS : List (ByteArray × Bool) → ByteArray → Nat → Option (Nat × Value)
 | [], _, _ => none
 | p :: r, k, i => bif k == p.1 then some (i, .bool p.2) else ixS r k (i + 1)
theorem findNow_str (k : ByteArray) : ∀ {es : List MapEntry} {D : List (ByteArray × Bool)} (i : Nat), es.map (fun e => (e.key, e.val)) = D.map (fun p => (Value.string p.1, Value.bool p.2)) →
  Instr.findNow .string (.string k) es i = some (ixS D k i)
 | [], [], i, _ => rfl
 | [], _ :: _, i, h => by simp at h
 | _ :: _, [], i, h => by simp at h
 | e :: es, p :: D, i, h => by
  simp only [List.map_cons, List.cons.injEq, Prod.mk.injEq] at h
  obtain ⟨⟨h1, h2⟩, h3⟩ := h
  unfold Instr.findNow
  rw [h1]
  simp only [Instr.sameNow]
  cases hb : (k == p.1) with
  | true => simp [ixS, hb, h2]
  | false => simp only [ixS, hb, cond_false]; exact findNow_str k (i + 1) h3
theorem ixS_some {k : ByteArray} : ∀ {D : List (ByteArray × Bool)} {i j : Nat} {v : Value}, ixS D k i = some (j, v) → ∃ q p, j = i + q ∧ D[q]? = some p ∧ k = p.1 ∧ v = .bool p.2 ∧ findS D k = p.2 ∧ ∀ b, putS D k b = D.set q (p.1, b)
 | [], i, j, v, h => by cases h
 | p :: D, i, j, v, h => by
  unfold ixS at h
  cases hb : (k == p.1) with
  | true =>
   rw [hb] at h
   simp only [cond_true, Option.some.injEq, Prod.mk.injEq] at h
   exact ⟨0, p, h.1.symm, rfl, (MapKept.bytes_beq _ _).1 hb, h.2.symm, by simp [findS, hb], fun b => by simp [putS, hb]⟩
  | false =>
   rw [hb] at h
   obtain ⟨q, p', h1, h2, h3, h4, h5, h6⟩ := ixS_some (D := D) h
   exact ⟨q + 1, p', by omega, by simpa using h2, h3, h4, by simp only [findS, hb, cond_false]; exact h5, fun b => by simp only [putS, hb, cond_false, h6 b, List.set_cons_succ]⟩
theorem ixS_none {k : ByteArray} : ∀ {D : List (ByteArray × Bool)} {i : Nat}, ixS D k i = none → findS D k = false ∧ ∀ b, putS D k b = D ++ [(k, b)]
 | [], i, h => ⟨rfl, fun _ => rfl⟩
 | p :: D, i, h => by
  unfold ixS at h
  cases hb : (k == p.1) with
  | true => rw [hb] at h; cases h
  | false =>
   rw [hb] at h
   obtain ⟨h1, h2⟩ := ixS_none (D := D) h
   exact ⟨by simp only [findS, hb, cond_false]; exact h1, fun b => by simp only [putS, hb, cond_false, h2 b, List.cons_append]⟩
theorem run_checkKey_str {k : Nat} (hk : P.underlying k = some .string) (b : Bool) (s : ByteArray) (w : World) : (Instr.checkKey b 10000 k (.string s)).run P w = .ok () w := by
 exact MapKept.run_checkKey hk (by simp [MapKept.IsKey]) b 9999
theorem run_findKey_str {k : Nat} (hk : P.underlying k = some .string) (s : ByteArray) {es : List MapEntry} {D : List (ByteArray × Bool)} (h : es.map (fun e => (e.key, e.val)) = D.map (fun p => (Value.string p.1, Value.bool p.2))) (w : World) :
  (Instr.findKey k (.string s) es).run P w = .ok (ixS D s 0) w := by
 simp [Instr.findKey, run_underlying hk, findNow_str s 0 h]
theorem vlookup_sound (hT : TabOk P T) (h : Rel F σ g a w) {t : Nat} {x y : Operand} {K : S → Prop} (hs : vlookup T σ t (σ.eval x) (σ.eval y) K) :
  ∃ s v, K s ∧ (Instr.lookup t (a.eval x) (a.eval y) false).run P w = .ok v w ∧ RS w g s v := by
 have hx := h.eval x
 have hy := h.eval y
 unfold vlookup at hs
 split at hs
 case h_2 => exact hs.elim
 case h_1 r k hxe hye =>
  rw [hxe] at hx; rw [hye] at hy
  split at hs
  case h_2 => exact hs.elim
  case h_1 D hob =>
   cases ht : smapTy T t with
   | false => rw [ht] at hs; exact hs.elim
   | true =>
    rw [ht] at hs
    obtain ⟨kt, et, u1, u2, hz⟩ := smapTy_ok hT ht
    have hxc : RL w g (.row r) (a.eval x) := RV.cell hx
    have hyc : RL w g (.u (.str k)) (a.eval y) := RV.cell hy
    have hyv : a.eval y = .string k := hyc
    have ho := h.objs r hxc.1
    rw [hob] at ho
    obtain ⟨b, es, c, e1, e2, e3, e4⟩ := ho
    have hxv : a.eval x = .map (some b) := by rw [hxc.2.1, e1]
    refine ⟨_, .bool (findS D k), hs, ?_, vbool_RS _ _ _⟩
    rw [hxv, hyv]
    have hfind := run_findKey_str (P := P) u2 k e4 w
    cases hi : ixS D k 0 with
    | none =>
     rw [hi] at hfind
     have := ixS_none hi
     simp [Instr.lookup, run_underlying u1, MapKept.run_getObj_map e3, run_checkKey_str (P := P) u2, hfind, hz, this.1]
    | some p =>
     obtain ⟨j, v⟩ := p
     rw [hi] at hfind
     obtain ⟨q, p', h1, h2, h3, h4, h5, _⟩ := ixS_some hi
     simp [Instr.lookup, run_underlying u1, MapKept.run_getObj_map e3, run_checkKey_str (P := P) u2, hfind, h4, h5]
theorem vmapUpd_sound (hT : TabOk P T) (h : Rel F σ g a w) {t : Nat} {x y z : Operand} {K : St → Prop} (hs : vmapUpd T σ t (σ.eval x) (σ.eval y) (σ.eval z) K) :
  ∃ σ' g' w', K σ' ∧ (Instr.mapUpdate t (a.eval x) (a.eval y) (a.eval z)).run P w = .ok () w' ∧ Rel F σ' g' a w' ∧ Ev (al σ) σ g w σ' g' w' := by
 have hx := h.eval x
 have hy := h.eval y
 have hz := h.eval z
 unfold vmapUpd at hs
 split at hs
 case h_2 => exact hs.elim
 case h_1 r k v hxe hye hze =>
  rw [hxe] at hx; rw [hye] at hy; rw [hze] at hz
  split at hs
  case h_2 => exact hs.elim
  case h_1 D hob =>
   cases ht : smapTy T t with
   | false => rw [ht] at hs; exact hs.elim
   | true =>
    rw [ht] at hs
    obtain ⟨kt, et, u1, u2, hzz⟩ := smapTy_ok hT ht
    have hxc : RL w g (.row r) (a.eval x) := RV.cell hx
    have hyc : RL w g (.u (.str k)) (a.eval y) := RV.cell hy
    have hyv : a.eval y = .string k := hyc
    have hzc : RL w g (.u (.bool v)) (a.eval z) := RV.cell hz
    have hzv : a.eval z = .bool v := hzc
    have ho := h.objs r hxc.1
    rw [hob] at ho
    obtain ⟨b, es, c, e1, e2, e3, e4⟩ := ho
    have hxv : a.eval x = .map (some b) := by rw [hxc.2.1, e1]
    have hlt : b < w.heap.size := (Array.getElem?_eq_some_iff.1 e3).1
    have fin : ∀ es' c', es'.toList.map (fun e : MapEntry => (e.key, e.val)) = (putS D k v).map (fun p => (Value.string p.1, Value.bool p.2)) →
      (Instr.mapUpdate t (a.eval x) (a.eval y) (a.eval z)).run P w = .ok () { w with heap := w.heap.setIfInBounds b (.map es' c') } →
      ∃ σ' g' w', cond true (fun τ => K τ) (fun _ => False) σ' ∧ (Instr.mapUpdate t (a.eval x) (a.eval y) (a.eval z)).run P w = .ok () w' ∧ Rel F σ' g' a w' ∧ Ev (al σ) σ g w σ' g' w' := by
     intro es' c' he hr
     obtain ⟨h1, h2⟩ := h.setObj hxc.1 (.smap (putS D k v)) (w' := { w with heap := w.heap.setIfInBounds b (.map es' c') }) (row := some b)
      ⟨rfl, rfl, rfl, by simp, fun i _ hi => by
       have : b ≠ i := fun e => hi (by rw [e])
       simp [Array.getElem?_setIfInBounds, this]⟩ (fun q hq => by cases hq; exact e2) (by simp) (fun _ => ⟨b, es', c', e1, e2, by simp [Array.getElem?_setIfInBounds, hlt], he⟩)
     exact ⟨_, g, _, hs, hr, h1, h2.mono fun q hq => by rw [hq]; unfold al; rw [hob]; simp⟩
    have hfind := run_findKey_str (P := P) u2 k e4 w
    cases hi : ixS D k 0 with
    | none =>
     rw [hi] at hfind
     have hn := ixS_none hi
     refine fin (es.push { key := .string k, val := .bool v, born := c }) (c + 1) (by simp [hn.2 v, e4]) ?_
     rw [hxv, hyv, hzv]
     simp [Instr.mapUpdate, run_underlying u1, MapKept.run_getObj_map e3, run_checkKey_str (P := P) u2, hfind, MapKept.run_setObj_map _ e3]
    | some p =>
     obtain ⟨j, u⟩ := p
     rw [hi] at hfind
     obtain ⟨q, p', h1, h2, h3, h4, h5, h6⟩ := ixS_some hi
     have hj : j = q := by omega
     subst hj
     have hlen : es.size = D.length := by have := congrArg List.length e4; simpa using this
     have hjl : j < D.length := (List.getElem?_eq_some_iff.1 h2).1
     have hje : j < es.size := by omega
     have hkey : es[j].key = .string k := by
      have := congrArg (fun l => l[j]?) e4
      simp [hje, h2] at this
      rw [this.1, h3]
     refine fin (es.modify j fun e => { e with key := .string k, val := .bool v }) c ?_ ?_
     ·rw [h6 v, ← h3]
      apply List.ext_getElem?
      intro i
      have := congrArg (fun l => l[i]?) e4
      simp only [List.getElem?_map, Array.getElem?_toList] at this ⊢
      rw [Array.getElem?_modify, List.getElem?_set]
      by_cases hij : j = i
      ·subst hij
       simp [hje, hjl]
      ·simp only [hij, if_false]
       exact this
     ·rw [hxv, hyv, hzv]
      simp [Instr.mapUpdate, run_underlying u1, MapKept.run_getObj_map e3, run_checkKey_str (P := P) u2, hfind, MapKept.run_setObj_map _ e3, hje, hkey, Instr.keyThatStays, Instr.sameBits, (MapKept.bytes_beq k k).2 rfl]
end
end Go.Vs

namespace Go.Vs
open Go.RowKit (Below)
section
variable {P : Program} [Glob P] {T : Ty} {F : Fix P} {σ : St} {g : Gh} {a : Act} {w : World}
def LeU : U → U → Prop
 | .int k n, y => ∃ n', y = .int k n' ∧ n = n'
 | .bool b, y => ∃ b', y = .bool b' ∧ b = b'
 | .str s, y => ∃ s', y = .str s' ∧ s = s'
 | .sl t n sz get, y => ∃ t' n' sz' get', y = .sl t' n' sz' get' ∧ (t = true → t' = true) ∧ n = n' ∧ (0 < n → sz' = sz) ∧ ∀ i, i < n → ∀ j, j < sz → LeU (get i j) (get' i j)
 | .xsl n sz get, y => ∃ n' sz' get', ((∃ t', y = .sl t' n' sz' get') ∨ y = .xsl n' sz' get') ∧ n = n' ∧ (0 < n → sz' = sz) ∧ ∀ i, i < n → ∀ j, j < sz → LeU (get i j) (get' i j)
theorem LeU.refl : ∀ u : U, LeU u u
 | .int _ _ => ⟨_, rfl, rfl⟩
 | .bool _ => ⟨_, rfl, rfl⟩
 | .str _ => ⟨_, rfl, rfl⟩
 | .sl _ _ _ get => ⟨_, _, _, _, rfl, id, rfl, fun _ => rfl, fun i _ j _ => LeU.refl (get i j)⟩
 | .xsl _ _ get => ⟨_, _, _, .inr rfl, rfl, fun _ => rfl, fun i _ j _ => LeU.refl (get i j)⟩
theorem RU.le {w : World} {g : Gh} : ∀ (u u' : U) (v : Value), LeU u u' → RU w g u v → RU w g u' v := by
 intro u
 induction u with
 | int k n => intro u' v h hv; obtain ⟨_, rfl, rfl⟩ := h; exact hv
 | bool b => intro u' v h hv; obtain ⟨_, rfl, rfl⟩ := h; exact hv
 | str s => intro u' v h hv; obtain ⟨_, rfl, rfl⟩ := h; exact hv
 | sl t n sz get ih =>
  intro u' v h hv
  obtain ⟨t', n', sz', get', rfl, h1, rfl, h2, h3⟩ := h
  obtain ⟨A, c, e, h4, h5, h6⟩ := hv
  refine ⟨A, c, e, h4, h5, fun hp => ?_⟩
  obtain ⟨b, o, e2, hz, hc⟩ := h6 hp
  have hs := h2 hp
  subst hs
  refine ⟨b, o, e2, hz.imp id fun hz => ⟨h1 hz.1, hz.2⟩, fun i hi j hj => ?_⟩
  obtain ⟨x, hx, hu⟩ := hc i hi j hj
  exact ⟨x, hx, ih i j _ x (h3 i hi j hj) hu⟩
 | xsl n sz get ih =>
  intro u' v h hv
  obtain ⟨n', sz', get', h1, rfl, h2, h3⟩ := h
  obtain ⟨A, e, h5, h6⟩ := hv
  have key : 0 < n → ∃ b o, A = some ⟨b, o, none⟩ ∧ g.Fz b ∧ ∀ i, i < n → ∀ j, j < sz' → ∃ x, w.cell? ⟨b, o + (i * sz' + j), none⟩ = some x ∧ RU w g (get' i j) x := fun hp => by
   obtain ⟨b, o, e2, hz, hc⟩ := h6 hp
   have hs := h2 hp
   subst hs
   refine ⟨b, o, e2, hz, fun i hi j hj => ?_⟩
   obtain ⟨x, hx, hu⟩ := hc i hi j hj
   exact ⟨x, hx, ih i j _ x (h3 i hi j hj) hu⟩
  rcases h1 with ⟨t', rfl⟩ | rfl
  ·refine ⟨A, n, e, Nat.le_refl _, h5, fun hp => ?_⟩
   obtain ⟨b, o, e2, hz, hc⟩ := key hp
   exact ⟨b, o, e2, .inl hz, hc⟩
  ·exact ⟨A, e, h5, key⟩
def NoTmp : U → Prop
 | .sl t n sz get => t = false ∧ ∀ i, i < n → ∀ j, j < sz → NoTmp (get i j)
 | .xsl n sz get => ∀ i, i < n → ∀ j, j < sz → NoTmp (get i j)
 | _ => True
def NoTmpL : L → Prop | .u x => NoTmp x | _ => True
def NoTmpLs : List L → Prop | [] => True | l :: ls => NoTmpL l ∧ NoTmpLs ls
def NoTmpT : List (Bool × List L) → Prop | [] => True | p :: ps => NoTmpLs p.2 ∧ NoTmpT ps
def NoTmpS : S → Prop
 | .val _ ls => NoTmpLs ls
 | .tup ps => NoTmpT ps
 | .rp _ _ => False
 | _ => True
def NoTmpO : Ob → Prop
 | .row _ n sz get => ∀ i, i < n → ∀ j, j < sz → NoTmp (get i j)
 | .frow _ n sz get => ∀ i, i < n → ∀ j, j < sz → NoTmp (get i j)
 | .box _ ls => NoTmpLs ls
 | .smap _ => True
 | .abs _ => True
 | .none => True
def NoTmpOs : List Ob → Prop | [] => True | o :: os => NoTmpO o ∧ NoTmpOs os
def RSs (w : World) (g : Gh) : List S → List Value → Prop
 | [], [] => True
 | s :: ss, v :: vs => RS w g s v ∧ RSs w g ss vs
 | _, _ => False
structure Pre (ags : List S) (os0 : List Ob) (w0 : World) (g0 : Gh) (vals : List Value) : Prop where
 args : RSs w0 g0 ags vals
 objs : ∀ r, r < os0.length → RO w0 g0 r (os0.getD r .none)
 df : ∀ r, g0.df r ↔ r < os0.length
 fz : ∀ b, g0.Fz b → b < w0.heap.size ∧ g0.om b = none
 tz : ∀ b, g0.Tz b → b < w0.heap.size ∧ g0.om b = none
 om : ∀ b r, g0.om b = some r → b < w0.heap.size
structure Post (n0 : Nat) (rs : S) (os1 : List Ob) (w0 : World) (g0 : Gh) (w : World) (g : Gh) (v : Value) : Prop where
 res : RS w g rs v
 objs : ∀ r, r < os1.length → RO w g r (os1.getD r .none)
 df : ∀ r, g.df r ↔ r < os1.length
 len : n0 ≤ os1.length
 fz : ∀ b, g.Fz b → (w0.heap.size ≤ b ∨ g0.Fz b ∨ g0.om b ≠ none) ∧ b < w.heap.size ∧ g.om b = none
 tz : g.Tz = g0.Tz
 tz' : ∀ b, g0.Tz b → g.om b = none
 om : ∀ b r, g.om b = some r → (w0.heap.size ≤ b ∨ g0.om b ≠ none) ∧ b < w.heap.size
 rv : ∀ r, r < n0 → g.rv r = g0.rv r
 os : w.os = w0.os
 tape : w.tape = w0.tape
 output : w.output = w0.output
 size : w0.heap.size ≤ w.heap.size
 block : ∀ k, k < w0.heap.size → g0.om k = none → w.heap[k]? = w0.heap[k]?
def Con (P : Program) [Glob P] (f : FuncId) (ags : List S) (os0 : List Ob) (rs : S) (os1 : List Ob) : Prop :=
 (∀ (vals : Array Value) (w : World), (callFunc f vals).run P w = .ok (.enter f vals) w) ∧
 ∀ (w0 : World) (g0 : Gh) (vals : List Value), Pre ags os0 w0 g0 vals → GOk P w0 (fun b => g0.om b ≠ none) →
  Calls P f vals.toArray w0 fun e w => ∃ v g, e = .returned v ∧ Post os0.length rs os1 w0 g0 w g v
def idOf (ms : List Nat) (nx k : Nat) : Nat := match ms[k]? with | some r => r | none => nx + (k - ms.length)
def posOf : List Nat → Nat → Option Nat
 | [], _ => none
 | m :: ms, r => match posOf ms r with | some k => some (k + 1) | none => cond (Nat.beq m r) (some 0) none
def backOf (ms : List Nat) (nx nx' r : Nat) : Option Nat := match posOf ms r with | some k => some k | none => cond (Nat.ble nx r && Nat.blt r nx') (some (r - nx + ms.length)) none
theorem posOf_some : ∀ {ms : List Nat} {r k : Nat}, posOf ms r = some k → ms[k]? = some r
 | [], r, k, h => by simp [posOf] at h
 | m :: ms, r, k, h => by
  simp only [posOf] at h
  cases hp : posOf ms r with
  | some q =>
   rw [hp] at h
   simp only [Option.some.injEq] at h
   subst h
   simpa using posOf_some hp
  | none =>
   rw [hp] at h
   cases hb : Nat.beq m r with
   | true =>
    rw [hb] at h
    simp only [cond_true, Option.some.injEq] at h
    subst h
    simp [Nat.eq_of_beq_eq_true hb]
   | false => rw [hb] at h; cases h
theorem posOf_none : ∀ {ms : List Nat} {r : Nat}, posOf ms r = none → r ∉ ms
 | [], r, _ => by simp
 | m :: ms, r, h => by
  simp only [posOf] at h
  cases hp : posOf ms r with
  | some q => rw [hp] at h; cases h
  | none =>
   rw [hp] at h
   have := posOf_none hp
   intro hm
   cases hm with
   | head => rw [beq_eq] at h; simp at h
   | tail _ hm => exact this hm
theorem posOf_get : ∀ {ms : List Nat}, ms.Nodup → ∀ {r k : Nat}, ms[k]? = some r → posOf ms r = some k
 | [], _, r, k, h => by simp at h
 | m :: ms, hn, r, 0, h => by
  simp at h
  subst h
  have hn' := List.nodup_cons.1 hn
  have : posOf ms m = none := by
   cases hp : posOf ms m with
   | none => rfl
   | some q => exact absurd (List.mem_of_getElem? (posOf_some hp)) hn'.1
  simp [posOf, beq_eq, this]
 | m :: ms, hn, r, k + 1, h => by
  simp at h
  have hn' := List.nodup_cons.1 hn
  simp [posOf, posOf_get hn'.2 h]
def mapL (ms : List Nat) (nx : Nat) : L → L
 | .row k => .row (idOf ms nx k)
 | l => l
def mapS (ms : List Nat) (nx : Nat) : S → S
 | .val agg ls => .val agg (ls.map (mapL ms nx))
 | .tup ps => .tup (ps.map fun p => (p.1, p.2.map (mapL ms nx)))
 | .ptr r off => .ptr (idOf ms nx r) off
 | .ep r sz i off => .ep (idOf ms nx r) sz i off
 | .rc r sz l h => .rc (idOf ms nx r) sz l h
 | s => s
def mapO (ms : List Nat) (nx : Nat) : Ob → Ob
 | .box e ls => .box e (ls.map (mapL ms nx))
 | o => o
def St.after (σ : St) (ms : List Nat) (os1 : List Ob) : St :=
 { slots := σ.slots, next := σ.next + (os1.length - ms.length), obj := fun r => match backOf ms σ.next (σ.next + (os1.length - ms.length)) r with | some k => mapO ms σ.next (os1.getD k .none) | none => σ.obj r }
section map
variable {w : World} {g g1 : Gh} {ms : List Nat} {nx : Nat}
structure Tr (snap : Bool) (g1 g : Gh) (ms : List Nat) (nx : Nat) : Prop where
 F : ∀ b, g1.Fz b → g.Fz b
 T : snap = false → ∀ b, g1.Tz b → g.Fz b ∨ g.Tz b
 id : ∀ k, g1.df k → g.df (idOf ms nx k) ∧ g.rv (idOf ms nx k) = g1.rv k
 om : ∀ b k, g1.om b = some k → g.om b = some (idOf ms nx k)
theorem RU.tr {snap : Bool} (h : Tr snap g1 g ms nx) : ∀ (u : U) (v : Value), (snap = true → NoTmp u) → RU w g1 u v → RU w g u v := by
 intro u
 induction u with
 | int k n => intro v _ hv; exact hv
 | bool b => intro v _ hv; exact hv
 | str s => intro v _ hv; exact hv
 | sl t n sz get ih =>
  intro v hn hv
  obtain ⟨A, c, e, h1, h2, h3⟩ := hv
  refine ⟨A, c, e, h1, h2, fun hp => ?_⟩
  obtain ⟨b, o, e2, hz, hc⟩ := h3 hp
  refine ⟨b, o, e2, ?_, fun i hi j hj => ?_⟩
  ·rcases hz with hz | ⟨ht, hz⟩
   ·exact .inl (h.F _ hz)
   ·cases hs : snap with
    | true => have := (hn hs).1; rw [ht] at this; cases this
    | false => exact (h.T hs b hz).imp _root_.id fun z => ⟨ht, z⟩
  ·obtain ⟨x, hx, hu⟩ := hc i hi j hj
   exact ⟨x, hx, ih i j x (fun hs => (hn hs).2 i hi j hj) hu⟩
 | xsl n sz get ih =>
  intro v hn hv
  obtain ⟨A, e, h2, h3⟩ := hv
  refine ⟨A, e, h2, fun hp => ?_⟩
  obtain ⟨b, o, e2, hz, hc⟩ := h3 hp
  refine ⟨b, o, e2, h.F _ hz, fun i hi j hj => ?_⟩
  obtain ⟨x, hx, hu⟩ := hc i hi j hj
  exact ⟨x, hx, ih i j x (fun hs => hn hs i hi j hj) hu⟩
theorem RL.tr {snap : Bool} (h : Tr snap g1 g ms nx) (l : L) (v : Value) (hn : snap = true → NoTmpL l) (hv : RL w g1 l v) : RL w g (mapL ms nx l) v := by
 cases l with
 | u x => exact RU.tr h x v hn hv
 | row r => exact ⟨(h.id r hv.1).1, by rw [(h.id r hv.1).2]; exact hv.2.1, hv.2.2⟩
 | nil => exact hv
 | dead => exact hv
theorem RLs.tr {snap : Bool} (h : Tr snap g1 g ms nx) : ∀ (ls : List L) (vs : List Value), (snap = true → NoTmpLs ls) → RLs w g1 ls vs → RLs w g (ls.map (mapL ms nx)) vs
 | [], [], _, _ => trivial
 | l :: ls, v :: vs, hn, hv => ⟨RL.tr h l v (fun hs => (hn hs).1) hv.1, RLs.tr h ls vs (fun hs => (hn hs).2) hv.2⟩
 | [], _ :: _, _, hv => hv.elim
 | _ :: _, [], _, hv => hv.elim
theorem RV.tr {snap : Bool} (h : Tr snap g1 g ms nx) (agg : Bool) (ls : List L) (v : Value) (hn : snap = true → NoTmpLs ls) (hv : RV w g1 agg ls v) : RV w g agg (ls.map (mapL ms nx)) v := by
 obtain ⟨cs, e, hl⟩ := hv
 exact ⟨cs, e, RLs.tr h ls cs hn hl⟩
theorem RT.tr {snap : Bool} (h : Tr snap g1 g ms nx) : ∀ (ps : List (Bool × List L)) (vs : List Value), (snap = true → NoTmpT ps) → RT w g1 ps vs → RT w g (ps.map fun p => (p.1, p.2.map (mapL ms nx))) vs
 | [], [], _, _ => trivial
 | (b, l) :: ls, v :: vs, hn, hv => ⟨RV.tr h b l v (fun hs => (hn hs).1) hv.1, RT.tr h ls vs (fun hs => (hn hs).2) hv.2⟩
 | [], _ :: _, _, hv => hv.elim
 | (_, _) :: _, [], _, hv => hv.elim
theorem RS.tr {snap : Bool} (h : Tr snap g1 g ms nx) (s : S) (v : Value) (hn : snap = true → NoTmpS s) (hv : RS w g1 s v) : RS w g (mapS ms nx s) v := by
 cases s with
 | dead => trivial
 | un => exact hv
 | val agg ls => exact RV.tr h agg ls v hn hv
 | ptr r off => exact ⟨(h.id r hv.1).1, by rw [(h.id r hv.1).2]; exact hv.2⟩
 | ep r sz i off => exact ⟨(h.id r hv.1).1, by rw [(h.id r hv.1).2]; exact hv.2⟩
 | rp m get =>
  cases hs : snap with
  | true => exact (hn hs).elim
  | false =>
   obtain ⟨b, o, e, hz, hc⟩ := hv
   refine ⟨b, o, e, ?_, fun j hj => ?_⟩
   ·rcases hz with hz | hz
    ·exact .inl (h.F _ hz)
    ·exact h.T hs b hz
   ·obtain ⟨x, hx, hu⟩ := hc j hj
    exact ⟨x, hx, RU.tr h _ _ (fun hs' => by rw [hs] at hs'; cases hs') hu⟩
 | tup ps =>
  obtain ⟨vs, e, hr⟩ := hv
  exact ⟨vs, e, RT.tr h ps vs hn hr⟩
 | rc r sz l k => exact ⟨(h.id r hv.1).1, by rw [(h.id r hv.1).2]; exact hv.2⟩
theorem RO.tr {snap : Bool} (h : Tr snap g1 g ms nx) (k : Nat) (hk : g1.df k) (o : Ob) (hn : snap = true → NoTmpO o) (hv : RO w g1 k o) : RO w g (idOf ms nx k) (mapO ms nx o) := by
 have hid := h.id k hk
 cases o with
 | none => trivial
 | row e n sz get =>
  obtain ⟨h1, h2, ⟨cs, h3, h4⟩, h5⟩ := hv
  refine ⟨h1, h2, ⟨cs, by rw [hid.2]; exact h3, fun i hi j hj => ?_⟩, fun b hb => ?_⟩
  ·obtain ⟨x, hx, hu⟩ := h4 i hi j hj
   exact ⟨x, hx, RU.tr h _ _ (fun hs => hn hs i hi j hj) hu⟩
  ·rw [hid.2] at hb
   exact h.om b k (h5 b hb)
 | frow e n sz get => exact ⟨hv.1, by rw [hid.2]; exact RU.tr h _ _ (fun hs => ⟨rfl, hn hs⟩) hv.2⟩
 | box e ls =>
  obtain ⟨b, cs, e1, e2, e3, e4⟩ := hv
  exact ⟨b, cs, by rw [hid.2]; exact e1, h.om b k e2, e3, RLs.tr h _ _ hn e4⟩
 | smap D =>
  obtain ⟨b, es, c, e1, e2, e3, e4⟩ := hv
  exact ⟨b, es, c, by rw [hid.2]; exact e1, h.om b k e2, e3, e4⟩
 | abs Q =>
  obtain ⟨own, e1, e2, e3⟩ := hv
  exact ⟨own, fun b hb => h.om b k (e1 b hb), fun b hb => e2 b (by rw [hid.2] at hb; exact hb), fun w2 hw => by rw [hid.2]; exact e3 w2 hw⟩
end map
def MatchL (σ : St) (ms : List Nat) (snap : Bool) (l l' : L) : Prop :=
 match l' with
 | .u x' => match l with
  | .u x => LeU x x'
  | .nil => ∃ t sz get, x' = .sl t 0 sz get
  | .row r => match σ.obj r with
   | .row _ n sz get => snap = true ∧ posOf ms r = none ∧ LeU (.sl true n sz get) x'
   | .frow _ n sz get => LeU (.sl false n sz get) x'
   | _ => False
  | .dead => False
 | .row k => match l with
  | .row r => ms[k]? = some r
  | _ => False
 | .nil => match l with
  | .nil => True
  | _ => False
 | .dead => True
def MatchLs (σ : St) (ms : List Nat) (snap : Bool) : List L → List L → Prop
 | [], [] => True
 | l :: ls, k :: ks => MatchL σ ms snap l k ∧ MatchLs σ ms snap ls ks
 | _, _ => False
def MatchT (σ : St) (ms : List Nat) (snap : Bool) : List (Bool × List L) → List (Bool × List L) → Prop
 | [], [] => True
 | p :: ps, q :: qs => (p.1 = q.1 ∧ MatchLs σ ms snap p.2 q.2) ∧ MatchT σ ms snap ps qs
 | _, _ => False
def MatchS (σ : St) (ms : List Nat) (snap : Bool) (s s' : S) : Prop :=
 match s' with
 | .dead => True
 | .val agg' ls' => match s with
  | .val agg ls => agg = agg' ∧ MatchLs σ ms snap ls ls'
  | _ => False
 | .ptr k off' => match s with
  | .ptr r off => ms[k]? = some r ∧ off = off'
  | .val false [.row r] => match σ.obj r with
   | .box _ _ => ms[k]? = some r ∧ off' = 0
   | _ => False
  | _ => False
 | .ep k sz' i' off' => match s with
  | .ep r sz i off => ms[k]? = some r ∧ sz = sz' ∧ i = i' ∧ off = off'
  | _ => False
 | .rp m' get' => match s with
  | .rp m get => m' ≤ m ∧ ∀ j, j < m' → LeU (get j) (get' j)
  | _ => False
 | .un => match s with
  | .un => True
  | _ => False
 | .tup qs => match s with
  | .tup ps => MatchT σ ms snap ps qs
  | _ => False
 | .rc _ _ _ _ => False
def MatchSs (σ : St) (ms : List Nat) (snap : Bool) : List S → List S → Prop
 | [], [] => True
 | s :: ss, t :: ts => MatchS σ ms snap s t ∧ MatchSs σ ms snap ss ts
 | _, _ => False
def MatchO (σ : St) (ms : List Nat) (snap : Bool) (o o' : Ob) : Prop :=
 match o' with
 | .none => True
 | .row e' n' sz' get' => match o with
  | .row e n sz get => e = e' ∧ n = n' ∧ sz = sz' ∧ ∀ i, i < n → ∀ j, j < sz → LeU (get i j) (get' i j)
  | _ => False
 | .box e' ls' => match o with
  | .box e ls => e = e' ∧ MatchLs σ ms snap ls ls'
  | _ => False
 | .frow e' n' sz' get' => match o with
  | .frow e n sz get => e = e' ∧ n = n' ∧ sz = sz' ∧ ∀ i, i < n → ∀ j, j < sz → LeU (get i j) (get' i j)
  | _ => False
 | .smap D' => match o with
  | .smap D => D = D'
  | _ => False
 | .abs Q' => match o with
  | .abs Q => Q = Q'
  | _ => False
def liveB (n0 : Nat) (σ : St) (r : Nat) : Bool := match σ.obj r with | .none => Nat.blt r n0 | _ => true
def MatchOs (σ : St) (n0 : Nat) (ms : List Nat) (snap : Bool) : List Nat → List Ob → Prop
 | [], [] => True
 | r :: rs, o :: os => (liveB n0 σ r = true ∧ MatchO σ ms snap (σ.obj r) o) ∧ MatchOs σ n0 ms snap rs os
 | _, _ => False
end
end Go.Vs

namespace Go.Vs
open Go.RowKit (Below)
section
variable {P : Program} [Glob P] {T : Ty} {F : Fix P} {σ : St} {g : Gh} {a : Act} {w : World}
theorem MatchOs.len {n0 : Nat} : ∀ {ms : List Nat} {σ : St} {ns : List Nat} {snap : Bool} {os : List Ob}, MatchOs σ n0 ms snap ns os → ns.length = os.length
 | _, _, [], _, [], _ => rfl
 | ms, σ, _ :: _, snap, _ :: _, h => by simp [MatchOs.len h.2]
 | _, _, [], _, _ :: _, h => h.elim
 | _, _, _ :: _, _, [], h => h.elim
theorem MatchOs.get {n0 : Nat} : ∀ {ms : List Nat} {σ : St} {ns : List Nat} {snap : Bool} {os : List Ob}, MatchOs σ n0 ms snap ns os → ∀ {k r : Nat}, ns[k]? = some r → liveB n0 σ r = true ∧ MatchO σ ms snap (σ.obj r) (os.getD k .none)
 | _, _, [], _, [], _, k, r, hk => by simp at hk
 | ms, σ, n :: ns, snap, o :: os, h, 0, r, hk => by simp at hk; subst hk; exact h.1
 | ms, σ, n :: ns, snap, o :: os, h, k + 1, r, hk => by simpa using MatchOs.get h.2 (k := k) (r := r) (by simpa using hk)
 | _, _, [], _, _ :: _, h, _, _, _ => h.elim
 | _, _, _ :: _, _, [], h, _, _, _ => h.elim
def lend (g : Gh) (ms : List Nat) (snap : Bool) : Gh where
 Fz := g.Fz
 Tz := fun b => g.Tz b ∨ (snap = true ∧ ∃ r, g.om b = some r ∧ posOf ms r = none)
 om := fun b => match g.om b with | some r => posOf ms r | none => none
 rv := fun k => g.rv (ms.getD k 0)
 df := fun k => k < ms.length
theorem RU.zones {w : World} {g g' : Gh} (hF : ∀ b, g.Fz b → g'.Fz b) (hT : ∀ b, g.Tz b → g'.Tz b) : ∀ (u : U) (v : Value), RU w g u v → RU w g' u v := by
 intro u
 induction u with
 | int k n => intro v hv; exact hv
 | bool b => intro v hv; exact hv
 | str s => intro v hv; exact hv
 | sl tmp n sz get ih =>
  intro v hv
  obtain ⟨A, c, e, h1, h2, h3⟩ := hv
  refine ⟨A, c, e, h1, h2, fun hn => ?_⟩
  obtain ⟨b, o, e2, hz, hc⟩ := h3 hn
  refine ⟨b, o, e2, hz.imp (hF b) (fun z => ⟨z.1, hT b z.2⟩), fun i hi j hj => ?_⟩
  obtain ⟨x, hx, hu⟩ := hc i hi j hj
  exact ⟨x, hx, ih i j x hu⟩
 | xsl n sz get ih =>
  intro v hv
  obtain ⟨A, e, h2, h3⟩ := hv
  refine ⟨A, e, h2, fun hn => ?_⟩
  obtain ⟨b, o, e2, hz, hc⟩ := h3 hn
  refine ⟨b, o, e2, hF b hz, fun i hi j hj => ?_⟩
  obtain ⟨x, hx, hu⟩ := hc i hi j hj
  exact ⟨x, hx, ih i j x hu⟩
theorem lend_ru {ms : List Nat} {snap : Bool} {u : U} {v : Value} (h : RU w g u v) : RU w (lend g ms snap) u v :=
 RU.zones (g := g) (g' := lend g ms snap) (fun _ h => h) (fun _ h => Or.inl h) u v h
theorem liveB_df {n0 : Nat} (h : Rel F σ g a w) (hn : n0 ≤ F.n0) {r : Nat} (hl : liveB n0 σ r = true) : g.df r := by
 unfold liveB at hl
 split at hl
 ·exact (h.prm r (by have := Nat.le_of_ble_eq_true hl; omega)).1
 ·rename_i hne; exact h.alive r hne
theorem getD_of_get {ms : List Nat} {k r : Nat} (h : ms[k]? = some r) : ms.getD k 0 = r := by rw [List.getD_eq_getElem?_getD, h]; rfl
theorem matchL_sound (h : Rel F σ g a w) {ms : List Nat} {snap : Bool} {l l' : L} (hm : MatchL σ ms snap l l') {v : Value} (hv : RL w g l v) : RL w (lend g ms snap) l' v := by
 unfold MatchL at hm
 split at hm
 case h_1 x' =>
  split at hm
  case h_1 x => exact RU.le _ _ _ hm (lend_ru hv)
  case h_2 =>
   obtain ⟨t, sz, get, rfl⟩ := hm
   exact ⟨none, 0, hv, Nat.le_refl _, by simp [bound], fun hp => by omega⟩
  case h_3 r =>
   obtain ⟨hr, hv1, _⟩ := hv
   have ho := h.objs r hr
   split at hm
   case h_1 e n sz get hob =>
    rw [hob] at ho
    obtain ⟨hs, hp, hle⟩ := hm
    refine RU.le _ _ _ hle ?_
    obtain ⟨A, c, e1, h1, h2⟩ := RO.slice ho
    refine ⟨A, c, by rw [hv1, e1], h1, ho.2.1, fun hn => ?_⟩
    obtain ⟨b, e3⟩ := h2 hn
    rw [e3] at e1
    refine ⟨b, 0, e3, .inr ⟨rfl, .inr ⟨hs, r, ho.2.2.2 b (by rw [e1]; rfl), hp⟩⟩, fun i hi j hj => ?_⟩
    obtain ⟨x, hx, hu⟩ := (RO.cells ho e1).2 i hi j hj
    exact ⟨x, by simpa using hx, lend_ru hu⟩
   case h_2 e n sz get hob =>
    rw [hob] at ho
    rw [hv1]
    exact RU.le _ _ _ hm (lend_ru ho.2)
   case h_3 => exact hm.elim
  case h_4 => exact hm.elim
 case h_2 k =>
  split at hm
  case h_1 r =>
   obtain ⟨hr, hv1, h1⟩ := hv
   refine ⟨(List.getElem?_eq_some_iff.1 hm).1, ?_, h1⟩
   show v = g.rv (ms.getD k 0)
   rw [getD_of_get hm]; exact hv1
  case h_2 => exact hm.elim
 case h_3 =>
  split at hm
  case h_1 => exact hv
  case h_2 => exact hm.elim
 case h_4 => exact RL.one hv
theorem matchLs_sound (h : Rel F σ g a w) {ms : List Nat} {snap : Bool} : ∀ {ls ls' : List L} {vs : List Value}, MatchLs σ ms snap ls ls' → RLs w g ls vs → RLs w (lend g ms snap) ls' vs
 | [], [], [], _, _ => trivial
 | l :: ls, k :: ks, v :: vs, hm, hv => ⟨matchL_sound h hm.1 hv.1, matchLs_sound h hm.2 hv.2⟩
 | [], _ :: _, _, hm, _ => hm.elim
 | _ :: _, [], _, hm, _ => hm.elim
 | [], [], _ :: _, _, hv => hv.elim
 | _ :: _, _ :: _, [], _, hv => hv.elim
theorem matchT_sound (h : Rel F σ g a w) {ms : List Nat} {snap : Bool} : ∀ {ps qs : List (Bool × List L)} {vs : List Value}, MatchT σ ms snap ps qs → RT w g ps vs → RT w (lend g ms snap) qs vs
 | [], [], [], _, _ => trivial
 | (b, l) :: ps, (b', l') :: qs, v :: vs, hm, hv => by
  obtain ⟨⟨rfl, hl⟩, hm⟩ := hm
  obtain ⟨⟨cs, e, hr⟩, hv⟩ := hv
  exact ⟨⟨cs, e, matchLs_sound h hl hr⟩, matchT_sound h hm hv⟩
 | [], _ :: _, _, hm, _ => hm.elim
 | _ :: _, [], _, hm, _ => hm.elim
 | [], [], _ :: _, _, hv => hv.elim
 | (_, _) :: _, _ :: _, [], _, hv => hv.elim
theorem matchS_sound (h : Rel F σ g a w) {ms : List Nat} {snap : Bool} {s s' : S} (hm : MatchS σ ms snap s s') {v : Value} (hv : RS w g s v) : RS w (lend g ms snap) s' v := by
 unfold MatchS at hm
 split at hm
 case h_1 => trivial
 case h_2 agg' ls' =>
  split at hm
  case h_1 agg ls =>
   obtain ⟨rfl, hm⟩ := hm
   obtain ⟨cs, e, hl⟩ := hv
   exact ⟨cs, e, matchLs_sound h hm hl⟩
  case h_2 => exact hm.elim
 case h_3 k off' =>
  split at hm
  case h_1 r off =>
   obtain ⟨hk, rfl⟩ := hm
   obtain ⟨hr, b, e1, e2⟩ := hv
   refine ⟨(List.getElem?_eq_some_iff.1 hk).1, b, ?_, e2⟩
   show g.rv (ms.getD k 0) = _
   rw [getD_of_get hk]; exact e1
  case h_2 r =>
   split at hm
   case h_1 e ls hob =>
    obtain ⟨hk, rfl⟩ := hm
    obtain ⟨hr, hv1, _⟩ := RV.cell hv
    have ho := h.objs r hr
    rw [hob] at ho
    obtain ⟨b, cs, e1, _⟩ := ho
    refine ⟨(List.getElem?_eq_some_iff.1 hk).1, b, ?_, by rw [hv1, e1]⟩
    show g.rv (ms.getD k 0) = _
    rw [getD_of_get hk]; exact e1
   case h_2 => exact hm.elim
  case h_3 => exact hm.elim
 case h_4 k sz' i' off' =>
  split at hm
  case h_1 r sz i off =>
   obtain ⟨hk, rfl, rfl, rfl⟩ := hm
   obtain ⟨hr, b, n, c, e1, e2, e3⟩ := hv
   refine ⟨(List.getElem?_eq_some_iff.1 hk).1, b, n, c, ?_, e2, e3⟩
   show g.rv (ms.getD k 0) = _
   rw [getD_of_get hk]; exact e1
  case h_2 => exact hm.elim
 case h_5 m' get' =>
  split at hm
  case h_1 m get =>
   obtain ⟨hmm, hle⟩ := hm
   obtain ⟨b, o, e, hz, hc⟩ := hv
   refine ⟨b, o, e, hz.imp id fun z => .inl z, fun j hj => ?_⟩
   obtain ⟨x, hx, hu⟩ := hc j (by omega)
   exact ⟨x, hx, RU.le _ _ _ (hle j hj) (lend_ru hu)⟩
  case h_2 => exact hm.elim
 case h_6 =>
  split at hm
  case h_1 => exact hv
  case h_2 => exact hm.elim
 case h_7 qs =>
  split at hm
  case h_1 ps =>
   obtain ⟨vs, e, hr⟩ := hv
   exact ⟨vs, e, matchT_sound h hm hr⟩
  case h_2 => exact hm.elim
 case h_8 => exact hm.elim
theorem matchSs_sound (h : Rel F σ g a w) {ms : List Nat} {snap : Bool} : ∀ {xs : List Operand} {ags : List S}, MatchSs σ ms snap (xs.map σ.eval) ags → RSs w (lend g ms snap) ags (xs.map a.eval)
 | [], [], _ => trivial
 | x :: xs, s :: ss, hm => ⟨matchS_sound h hm.1 (h.eval x), matchSs_sound h hm.2⟩
 | [], _ :: _, hm => hm.elim
 | _ :: _, [], hm => hm.elim
theorem matchO_sound (h : Rel F σ g a w) {ms : List Nat} {snap : Bool} {k r : Nat} {o' : Ob} (hn : o' ≠ .none → posOf ms r = some k) (hk : ms[k]? = some r) (hr : g.df r) (hm : MatchO σ ms snap (σ.obj r) o') :
  RO w (lend g ms snap) k o' := by
 have ho := h.objs r hr
 have hrv : (lend g ms snap).rv k = g.rv r := by show g.rv (ms.getD k 0) = _; rw [getD_of_get hk]
 have hom : o' ≠ .none → ∀ b, g.om b = some r → (lend g ms snap).om b = some k := fun h0 b hb => by
  show (match g.om b with | some r => posOf ms r | none => none) = _
  rw [hb]; exact hn h0
 unfold MatchO at hm
 split at hm
 case h_1 => trivial
 case h_2 e' n' sz' get' =>
  split at hm
  case h_1 e n sz get hob =>
   rw [hob] at ho
   obtain ⟨rfl, rfl, rfl, hle⟩ := hm
   obtain ⟨h1, h2, ⟨cs, h3, h4⟩, h5⟩ := ho
   refine ⟨h1, h2, ⟨cs, by rw [hrv]; exact h3, fun i hi j hj => ?_⟩, fun b hb => hom (by simp) b (h5 b (by rw [hrv] at hb; exact hb))⟩
   obtain ⟨x, hx, hu⟩ := h4 i hi j hj
   exact ⟨x, hx, RU.le _ _ _ (hle i hi j hj) (lend_ru hu)⟩
  case h_2 => exact hm.elim
 case h_3 e' ls' =>
  split at hm
  case h_1 e ls hob =>
   rw [hob] at ho
   obtain ⟨rfl, hm⟩ := hm
   obtain ⟨b, cs, e1, e2, e3, e4⟩ := ho
   exact ⟨b, cs, by rw [hrv]; exact e1, hom (by simp) b e2, e3, matchLs_sound h hm e4⟩
  case h_2 => exact hm.elim
 case h_4 e' n' sz' get' =>
  split at hm
  case h_1 e n sz get hob =>
   rw [hob] at ho
   obtain ⟨rfl, rfl, rfl, hle⟩ := hm
   refine ⟨ho.1, ?_⟩
   rw [hrv]
   exact RU.le (.sl false n sz get) _ _ ⟨_, _, _, _, rfl, _root_.id, rfl, fun _ => rfl, hle⟩ (lend_ru ho.2)
  case h_2 => exact hm.elim
 case h_5 D' =>
  split at hm
  case h_1 D hob =>
   rw [hob] at ho
   subst hm
   obtain ⟨b, es, c, e1, e2, e3, e4⟩ := ho
   exact ⟨b, es, c, by rw [hrv]; exact e1, hom (by simp) b e2, e3, e4⟩
  case h_2 => exact hm.elim
 case h_6 Q' =>
  split at hm
  case h_1 Q hob =>
   rw [hob] at ho
   subst hm
   obtain ⟨own, e1, e2, e3⟩ := ho
   exact ⟨own, fun b hb => hom (by simp) b (e1 b hb), fun b hb => e2 b (by rw [hrv] at hb; exact hb), fun w2 hw => by rw [hrv]; exact e3 w2 hw⟩
  case h_2 => exact hm.elim
theorem idOf_get {ms : List Nat} {nx k r : Nat} (h : ms[k]? = some r) : idOf ms nx k = r := by unfold idOf; rw [h]
theorem idOf_new {ms : List Nat} {nx k : Nat} (h : ms.length ≤ k) : idOf ms nx k = nx + (k - ms.length) := by
 unfold idOf; rw [List.getElem?_eq_none h]
def omAfter (g1 g : Gh) (ms : List Nat) (nx b : Nat) : Option Nat :=
 match g1.om b with
 | some k => some (idOf ms nx k)
 | none => (match g.om b with
  | some r => (match posOf ms r with
   | some _ => none
   | none => some r)
  | none => none)
theorem omAfter_some {g1 g : Gh} {ms : List Nat} {nx b k : Nat} (h : g1.om b = some k) : omAfter g1 g ms nx b = some (idOf ms nx k) := by unfold omAfter; rw [h]
theorem omAfter_none {g1 g : Gh} {ms : List Nat} {nx b : Nat} (h : g1.om b = none) (h2 : g.om b = none) : omAfter g1 g ms nx b = none := by unfold omAfter; rw [h, h2]
theorem omAfter_keep {g1 g : Gh} {ms : List Nat} {nx b r : Nat} (h : g1.om b = none) (h2 : g.om b = some r) (h3 : posOf ms r = none) : omAfter g1 g ms nx b = some r := by unfold omAfter; simp only [h, h2, h3]
theorem omAfter_gone {g1 g : Gh} {ms : List Nat} {nx b r k : Nat} (h : g1.om b = none) (h2 : g.om b = some r) (h3 : posOf ms r = some k) : omAfter g1 g ms nx b = none := by unfold omAfter; simp only [h, h2, h3]
theorem call_sound (h : Rel F σ g a w) {f : FuncId} {ags : List S} {os0 os1 : List Ob} {rs : S} (hcon : Con P f ags os0 rs os1) (xs : List Operand) {ms : List Nat} {snap : Bool}
  (hargs : MatchSs σ ms snap (xs.map σ.eval) ags) (hobjs : MatchOs σ 0 ms snap ms os0) (hnd : ms.Nodup) (hnt : snap = true → NoTmpS rs ∧ ∀ k, NoTmpO (os1.getD k .none))
  (hfree : ∀ k, σ.next ≤ k → k < (σ.after ms os1).next → ¬ g.df k) :
  Calls P f (xs.map a.eval).toArray w fun e w' => ∃ v g', e = .returned v ∧ Rel F (σ.after ms os1) g' a w' ∧ RS w' g' (mapS ms σ.next rs) v ∧ Ev (al σ) σ g w (σ.after ms os1) g' w' := by
 have hlen := MatchOs.len hobjs
 have hmdf : ∀ {k r : Nat}, ms[k]? = some r → g.df r := fun hk => liveB_df h (Nat.zero_le _) (MatchOs.get hobjs hk).1
 have hmal : ∀ {k r : Nat}, ms[k]? = some r → al σ r := fun hk => by
  have hl := (MatchOs.get hobjs hk).1
  unfold liveB at hl
  split at hl
  ·simp [Nat.blt] at hl
  ·rename_i hne; exact hne
 have hpre : Pre ags os0 w (lend g ms snap) (xs.map a.eval) := by
  refine ⟨matchSs_sound h hargs, fun k hk => ?_, fun r => by rw [← hlen]; exact Iff.rfl, fun b hb => ⟨(h.fz b hb).2.1, ?_⟩, fun b hb => ?_, fun b r hb => ?_⟩
  ·rw [← hlen] at hk
   have hk' : ms[k]? = some ms[k] := List.getElem?_eq_getElem hk
   exact matchO_sound h (fun _ => posOf_get hnd hk') hk' (hmdf hk') (MatchOs.get hobjs hk').2
  ·show (match g.om b with | some r => posOf ms r | none => none) = _
   rw [(h.fz b hb).2.2]
  ·rcases hb with hb | ⟨_, r, hr, hp⟩
   ·have := h.zone (.inr hb)
    exact ⟨this.1, by show (match g.om b with | some r => posOf ms r | none => none) = _; rw [this.2]⟩
   ·exact ⟨(h.om b r hr).2, by show (match g.om b with | some r => posOf ms r | none => none) = _; rw [hr]; exact hp⟩
  ·have hb' : (match g.om b with | some r => posOf ms r | none => none) = some r := hb
   cases hg : g.om b with
   | none => rw [hg] at hb'; cases hb'
   | some q => exact (h.om b q hg).2
 refine (hcon.2 w (lend g ms snap) (xs.map a.eval) hpre (h.glob fun b hb hn => hb (show (match g.om b with | some r => posOf ms r | none => none) = none by rw [hn]))).mono ?_
 rintro e w' ⟨v, g1, rfl, hp⟩
 have hl1 : ms.length ≤ os1.length := by rw [hlen]; exact hp.len
 have hnext : (σ.after ms os1).next = σ.next + (os1.length - ms.length) := rfl
 -- the caller's view behind the call
 let g' : Gh :=
  { Fz := fun b => g.Fz b ∨ (g1.Fz b ∧ (w.heap.size ≤ b ∨ (lend g ms snap).om b ≠ none)), Tz := g.Tz, om := omAfter g1 g ms σ.next, rv := fun r => if σ.next ≤ r ∧ r < (σ.after ms os1).next then g1.rv (r - σ.next + ms.length) else g.rv r, df := fun r => g.df r ∨ (σ.next ≤ r ∧ r < (σ.after ms os1).next) }
 have hlom : ∀ b, (lend g ms snap).om b = match g.om b with | some r => posOf ms r | none => none := fun _ => rfl
 have hkeepb : ∀ b, b < w.heap.size → (lend g ms snap).om b = none → w'.heap[b]? = w.heap[b]? := fun b hb ho => hp.block b hb ho
 have hg1none : ∀ b, b < w.heap.size → (lend g ms snap).om b = none → g1.om b = none := fun b hb ho => by
  cases hg : g1.om b with
  | none => rfl
  | some k =>
   rcases (hp.om b k hg).1 with h1 | h1
   ·omega
   ·exact absurd ho h1
 have hrvold : ∀ r, g.df r → g'.rv r = g.rv r := fun r hr => by
  show (if σ.next ≤ r ∧ r < (σ.after ms os1).next then _ else g.rv r) = _
  rw [if_neg fun hh => hfree r hh.1 hh.2 hr]
 have hgr : Grow w g w' g' := by
  refine ⟨fun b hb => .inl hb, fun b hb => hb, fun r hr => .inl hr, hrvold, fun b hz => ?_⟩
  have hzz := h.zone hz
  exact hkeepb b hzz.1 (by rw [hlom, hzz.2])
 have hidlt : ∀ k, g1.df k → g'.df (idOf ms σ.next k) ∧ g'.rv (idOf ms σ.next k) = g1.rv k := by
  intro k hk
  have hk := (hp.df k).1 hk
  by_cases hkm : k < ms.length
  ·have hk' : ms[k]? = some ms[k] := List.getElem?_eq_getElem hkm
   rw [idOf_get hk']
   refine ⟨.inl (hmdf hk'), ?_⟩
   rw [hrvold _ (hmdf hk'), hp.rv k (by omega)]
   show _ = g.rv (ms.getD k 0)
   rw [getD_of_get hk']
  ·rw [idOf_new (by omega)]
   have hin : σ.next ≤ σ.next + (k - ms.length) ∧ σ.next + (k - ms.length) < (σ.after ms os1).next := by rw [hnext]; omega
   refine ⟨.inr hin, ?_⟩
   show (if _ then g1.rv _ else _) = _
   rw [if_pos hin]
   congr 1
   omega
 have htr : Tr snap g1 g' ms σ.next := by
  refine ⟨fun b hb => ?_, fun hs b hb => ?_, hidlt, fun b k hb => omAfter_some hb⟩
  ·rcases (hp.fz b hb).1 with h1 | h1 | h1
   ·exact .inr ⟨hb, .inl h1⟩
   ·exact .inl h1
   ·exact .inr ⟨hb, .inr h1⟩
  ·rw [hp.tz] at hb
   rcases hb with hb | ⟨h1, _⟩
   ·exact .inr hb
   ·rw [hs] at h1; cases h1
 have hfr : ∀ b r, g.om b = some r → posOf ms r = none → w'.heap[b]? = w.heap[b]? ∧ g'.om b = some r := fun b r hom hpos => by
  have hln : (lend g ms snap).om b = none := by rw [hlom, hom]; exact hpos
  have hbl := (h.om b r hom).2
  exact ⟨hkeepb b hbl hln, omAfter_keep (hg1none b hbl hln) hom hpos⟩
 have hobjE : ∀ r, (σ.after ms os1).obj r = match backOf ms σ.next (σ.after ms os1).next r with | some k => mapO ms σ.next (os1.getD k .none) | none => σ.obj r := fun _ => rfl
 have hback0 : ∀ r, posOf ms r = none → ¬ (σ.next ≤ r ∧ r < (σ.after ms os1).next) → backOf ms σ.next (σ.after ms os1).next r = none := fun r hpos hn => by
  unfold backOf
  rw [hpos]
  simp only
  cases hc : (Nat.ble σ.next r && Nat.blt r (σ.after ms os1).next) with
  | false => rfl
  | true =>
   simp only [Bool.and_eq_true] at hc
   exact absurd ⟨Nat.le_of_ble_eq_true hc.1, Nat.le_of_ble_eq_true hc.2⟩ hn
 have hback1 : ∀ r, posOf ms r = none → (σ.next ≤ r ∧ r < (σ.after ms os1).next) → backOf ms σ.next (σ.after ms os1).next r = some (r - σ.next + ms.length) := fun r hpos hn => by
  unfold backOf
  rw [hpos]
  have h1 : Nat.ble σ.next r = true := by rw [Nat.ble_eq]; exact hn.1
  have h2 : Nat.blt r (σ.after ms os1).next = true := by unfold Nat.blt; rw [Nat.ble_eq]; exact hn.2
  simp only [h1, h2]
  rfl
 refine ⟨v, g', rfl, ⟨h.defers, h.size, fun t => RS.mono hgr _ _ (h.slots t), fun r hr => ?_, fun r hr => ?_, fun b hb => ?_, h.tz, fun b hb => ⟨(h.tz' b hb).1, ?_⟩, fun b r hb => ?_, ?_, fun r hr => ⟨.inl (h.prm r hr).1, (hgr.rv r (h.prm r hr).1).trans (h.prm r hr).2⟩⟩, RS.tr htr rs v (fun hs => (hnt hs).1) hp.res,
  ⟨hgr, fun b r hom ht => hfr b r hom ?_, fun k hk => hk, by rw [hnext]; omega, hp.size, rfl, fun r ht hr => ?_⟩⟩
 ·-- the objects
  rw [hobjE]
  cases hpos : posOf ms r with
  | some k =>
   have hk := posOf_some hpos
   have hkl := (List.getElem?_eq_some_iff.1 hk).1
   have := RO.tr htr k ((hp.df k).2 (by omega)) _ (fun hs => (hnt hs).2 k) (hp.objs k (by omega))
   rw [idOf_get hk] at this
   unfold backOf
   rw [hpos]
   exact this
  | none =>
   by_cases hin : σ.next ≤ r ∧ r < (σ.after ms os1).next
   ·rw [hback1 r hpos hin]
    have hrl : r - σ.next + ms.length < os1.length := by rw [hnext] at hin; omega
    have := RO.tr htr (r - σ.next + ms.length) ((hp.df _).2 hrl) _ (fun hs => (hnt hs).2 _) (hp.objs _ hrl)
    rw [idOf_new (by omega)] at this
    rw [show σ.next + (r - σ.next + ms.length - ms.length) = r from by omega] at this
    exact this
   ·rw [hback0 r hpos hin]
    have hr' : g.df r := by
     rcases hr with hr | hr
     ·exact hr
     ·exact absurd hr hin
    exact RO.mono hgr r hr' _ (fun b hom => hfr b r hom hpos) (h.objs r hr')
 ·rw [hobjE] at hr
  cases hpos : posOf ms r with
  | some k => exact .inl (hmdf (posOf_some hpos))
  | none =>
   by_cases hin : σ.next ≤ r ∧ r < (σ.after ms os1).next
   ·exact .inr hin
   ·rw [hback0 r hpos hin] at hr
    exact .inl (h.alive r hr)
 ·rcases hb with hb | ⟨hb, hb2⟩
  ·have h1 := h.fz b hb
   have hln : (lend g ms snap).om b = none := by rw [hlom, h1.2.2]
   refine ⟨h1.1, Nat.lt_of_lt_of_le h1.2.1 hp.size, ?_⟩
   show omAfter g1 g ms σ.next b = none
   exact omAfter_none (hg1none b h1.2.1 hln) h1.2.2
  ·have h1 := hp.fz b hb
   refine ⟨?_, h1.2.1, ?_⟩
   ·rcases hb2 with h2 | h2
    ·exact .inl (by have := h.le; omega)
    ·cases hg : g.om b with
     | none => rw [hlom, hg] at h2; exact absurd rfl h2
     | some q => exact (h.om b q hg).1.imp id .inr
   ·show omAfter g1 g ms σ.next b = none
    cases hg : g.om b with
    | none => exact omAfter_none h1.2.2 hg
    | some q =>
     rcases hb2 with h2 | h2
     ·have := (h.om b q hg).2; omega
     ·rw [hlom, hg] at h2
      cases hq : posOf ms q with
      | none => simp only [hq] at h2; exact absurd rfl h2
      | some k => exact omAfter_gone h1.2.2 hg hq
 ·have hz := h.zone (.inr (by rw [h.tz]; exact hb))
  have hln : (lend g ms snap).om b = none := by rw [hlom, hz.2]
  show omAfter g1 g ms σ.next b = none
  exact omAfter_none (hg1none b hz.1 hln) hz.2
 ·have hb' : omAfter g1 g ms σ.next b = some r := hb
  cases hg : g1.om b with
  | some k =>
   have h1 := hp.om b k hg
   refine ⟨?_, h1.2⟩
   rcases h1.1 with h2 | h2
   ·exact .inl (by have := h.le; omega)
   ·cases hgb : g.om b with
    | none => rw [hlom, hgb] at h2; exact absurd rfl h2
    | some q => exact (h.om b q hgb).1
  | none =>
   cases hgb : g.om b with
   | none => rw [omAfter_none hg hgb] at hb'; cases hb'
   | some q =>
    have h1 := h.om b q hgb
    exact ⟨h1.1, Nat.lt_of_lt_of_le h1.2 hp.size⟩
 ·refine ⟨hp.os.trans h.below.os, hp.tape.trans h.below.tape, hp.output.trans h.below.output, Nat.le_trans h.le hp.size, fun k hk hx => ?_⟩
  have hkw : k < w.heap.size := by have := h.le; omega
  have hln : (lend g ms snap).om k = none := by
   rw [hlom]
   cases hg : g.om k with
   | none => rfl
   | some q =>
    rcases (h.om k q hg).1 with h1 | h1
    ·omega
    ·exact absurd h1 hx
  exact (hkeepb k hkw hln).trans (h.below.block k hk hx)
 ·cases hpos : posOf ms r with
  | none => rfl
  | some k => exact absurd (hmal (posOf_some hpos)) ht
 ·rw [hobjE, hback0 r ?_ hr]
  cases hpos : posOf ms r with
  | none => rfl
  | some k => exact absurd (hmal (posOf_some hpos)) ht
end
end Go.Vs
