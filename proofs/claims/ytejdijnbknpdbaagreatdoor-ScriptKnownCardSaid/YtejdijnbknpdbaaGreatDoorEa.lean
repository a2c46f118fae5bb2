/- A small evaluator of the translated program, first part: values, memory, what an operation that only reads yields. No condition. -/
import Derived.WalkKit
import Derived.KernelRfl
import Derived.OrdersHeld
import Derived.Laws.StructEq
import Derived.Laws.CopyRow
import Derived.Deep.MidRow
import Derived.Laws.AppendOwn
import Derived.Great.BuildSlice
import Derived.IntWalk
import Derived.Laws.BytesString
namespace Go.V.G
open Go

theorem heap_setRow_other (w : World) (g b : Nat) (cs : Array Value) (h : b ≠ g) : (w.setRow g cs).heap[b]? = w.heap[b]? := by
  simp [World.setRow, Array.getElem?_modify, Ne.symm h]
theorem fold_spl (off : Nat) : ∀ (us : List Value) (j : Nat) (y : List Value), off + j + us.length ≤ y.length →
    (us.zipIdx j).foldl (fun (cs : Array Value) (x : Value × Nat) => cs.setIfInBounds (off + x.2) x.1) y.toArray = (y.take (off + j) ++ us ++ y.drop (off + j + us.length)).toArray
  | [], j, y, h => by simp
  | u :: us, j, y, h => by
    have ih := fold_spl off us (j + 1) (y.set (off + j) u) (by simp at h ⊢; omega)
    simp only [List.zipIdx_cons, List.foldl_cons, List.setIfInBounds_toArray]
    rw [ih]
    congr 1
    apply List.ext_getElem?
    intro i
    simp only [List.length_cons] at h
    simp only [List.getElem?_append, List.length_append, List.length_take, List.length_set, List.length_cons, List.getElem?_take, List.getElem?_drop, List.getElem?_set]
    grind
def rept (z : List Value) : Nat → List Value
  | 0 => []
  | n + 1 => z ++ rept z n
theorem rept_length (z : List Value) : ∀ n, (rept z n).length = n * z.length
  | 0 => by simp [rept]
  | n + 1 => by rw [rept, List.length_append, rept_length, Nat.succ_mul, Nat.add_comm]
theorem rept_get (z : List Value) (hz : 0 < z.length) : ∀ (n i : Nat), i < n * z.length → (rept z n)[i]? = z[i % z.length]?
  | 0, i, h => by simp at h
  | n + 1, i, h => by
    rw [rept, List.getElem?_append]
    split
    · rename_i hi; rw [Nat.mod_eq_of_lt hi]
    · rename_i hi
      rw [rept_get z hz n _ (by rw [Nat.succ_mul] at h; omega)]
      congr 1
      rw [← Nat.mod_eq_sub_mod (by omega)]
theorem unlisted {ops : Array Oper} {md : Region.Mode} {i : Nat} {ls : Array Bool} (h : i ∈ Region.ready md ops ls) : ls.getD i true = false := by
  have := (mem_ready.1 h).1
  rcases Nat.lt_or_ge i ls.size with hl | hl
  · simpa [hl] using this
  · simp [Array.getElem?_eq_none hl] at this
theorem enters {P : Program} {f : FuncId} {fn : Func} (hf : P.funcs[f]? = some fn) (hn : (fn.name == "runtime.NumGoroutine") = false) (hb : fn.body.isNone = false) (args : Array Value) (w : World) : (callFunc f args).run P w = .ok (.enter f args) w := by
  have h2 : (fn.name == "runtime.NumGoroutine") = false := hn
  simp only [callFunc, program, Sem.run_bind, Sem.run, Result.andThen_ok, hf, h2, hb]
  rfl
theorem run_equalIn_array {P : Program} (d : Nat) {t e n sz : Nat} (hu : P.underlying t = some (.array n e)) (hs : ∀ w, (sizeOf e).run P w = .ok sz w) (xs ys : Array Value) (r : Nat → Bool)
    (hr : ∀ i w, i < n → ∃ a b, (part e xs (i * sz)).run P w = .ok a w ∧ (part e ys (i * sz)).run P w = .ok b w ∧ (Op.equalIn d e a b).run P w = .ok (r i) w) (w : World) :
    (Op.equalIn (d + 1) t (.agg xs) (.agg ys)).run P w = .ok ((List.range n).all r) w := by
  simp only [Op.equalIn, Sem.run_bind, run_underlying hu, Result.andThen_ok, hs]
  rw [Std.Legacy.Range.forIn_eq_forIn_range']
  have hall : (List.range n).all r = (List.range' 0 n).all r := by rw [List.range_eq_range']
  rw [hall]
  have key : ∀ (m i : Nat), i + m = n → ((forIn (List.range' i m) ((none, ()) : Option Bool × Unit) fun i _ => do
        let __do_lift ← part e xs (i * sz)
        let __do_lift_1 ← part e ys (i * sz)
        let __do_lift ← Op.equalIn d e __do_lift __do_lift_1
        if (!__do_lift) = true then pure (ForInStep.done (some false, ()))
          else do
            pure ()
            pure (ForInStep.yield (none, ()))).run P w) = .ok ((if (List.range' i m).all r then (none, ()) else (some false, ()))) w := by
    intro m
    induction m with
    | zero => intro i _; simp
    | succ m ih =>
      intro i hi
      obtain ⟨a, b, h1, h2, h3⟩ := hr i w (by omega)
      rw [List.range'_succ, List.forIn_cons]
      simp only [Sem.run_bind, h1, h2, h3, Result.andThen_ok, List.all_cons]
      by_cases hri : r i = true
      · have := ih (i + 1) (by omega)
        simp only [hri, Bool.not_true, Bool.false_eq_true, if_false, Sem.run_pure, Result.andThen_ok, Bool.true_and]
        exact this
      · have hri' : r i = false := by simpa using hri
        simp [hri', Sem.run_pure]
  have h0 := key n 0 (by omega)
  have hsz : (⟨0, n, 1, by decide⟩ : Std.Legacy.Range).size = n := by simp [Std.Legacy.Range.size]
  rw [hsz]
  refine (congrArg (fun x => Result.andThen x _) h0).trans ?_
  cases hb : (List.range' 0 n).all r <;> simp [Sem.run_pure]

end Go.V.G
namespace Go.V
open Go

/-! ### Tries -/
inductive Pa where
  | h | l (p : Pa) | r (p : Pa)
  deriving DecidableEq
def Pa.un : Pa → Nat
  | .h => 0 | .l p => 2 * p.un + 1 | .r p => 2 * p.un + 2
noncomputable def pa (f : Nat) : Nat → Pa := Nat.rec (motive := fun _ => Nat → Pa) (fun _ => .h)
  (fun _ ih i => bif Nat.beq i 0 then .h else bif Nat.beq (Nat.mod i 2) 1 then .l (ih (Nat.div i 2)) else .r (ih (Nat.div (Nat.pred i) 2))) f
theorem pa_succ (f i : Nat) : pa (f + 1) i = bif Nat.beq i 0 then .h else bif Nat.beq (Nat.mod i 2) 1 then .l (pa f (Nat.div i 2)) else .r (pa f (Nat.div (Nat.pred i) 2)) := rfl
theorem un_pa : ∀ (f i : Nat), i < 2 ^ f → (pa f i).un = i
  | 0, i, h => by simp at h; subst h; rfl
  | f + 1, i, h => by
    rw [pa_succ]
    have h2 : 2 ^ (f + 1) = 2 * 2 ^ f := by rw [Nat.pow_succ, Nat.mul_comm]
    cases h0 : Nat.beq i 0 with
    | true => simp only [cond_true]; rw [Nat.eq_of_beq_eq_true h0]; rfl
    | false =>
      have hne : i ≠ 0 := fun e => by subst e; simp at h0
      simp only [cond_false]
      cases h1 : Nat.beq (Nat.mod i 2) 1 with
      | true =>
        have e1 : i % 2 = 1 := Nat.eq_of_beq_eq_true h1
        simp only [cond_true, Pa.un]
        rw [un_pa f (Nat.div i 2) (by show i / 2 < _; omega)]
        show 2 * (i / 2) + 1 = i; omega
      | false =>
        have e1 : i % 2 ≠ 1 := fun e => by
          have : Nat.beq (Nat.mod i 2) 1 = true := by show Nat.beq (i % 2) 1 = true; rw [e]; rfl
          rw [this] at h1; cases h1
        simp only [cond_false, Pa.un]
        have hp : Nat.pred i = i - 1 := rfl
        rw [un_pa f (Nat.div (Nat.pred i) 2) (by show (Nat.pred i) / 2 < _; rw [hp]; omega)]
        show 2 * (Nat.pred i / 2) + 2 = i; rw [hp]; omega
theorem pa_inj {f i j : Nat} (hi : i < 2 ^ f) (hj : j < 2 ^ f) (h : pa f i = pa f j) : i = j := by
  rw [← un_pa f i hi, ← un_pa f j hj, h]

inductive Tr (α : Type) where
  | e | n (l : Tr α) (v : Option α) (r : Tr α)
namespace Tr
noncomputable def get {α : Type} (p : Pa) : Tr α → Option α := Pa.rec (motive := fun _ => Tr α → Option α)
  (fun t => Tr.rec (motive := fun _ => Option α) none (fun _ v _ _ _ => v) t)
  (fun _ ih t => Tr.rec (motive := fun _ => Option α) none (fun l _ _ _ _ => ih l) t)
  (fun _ ih t => Tr.rec (motive := fun _ => Option α) none (fun _ _ r _ _ => ih r) t) p
def set {α : Type} (v : Option α) : Pa → Tr α → Tr α
  | .h, .e => .n .e v .e
  | .h, .n l _ r => .n l v r
  | .l p, .e => .n (set v p .e) none .e
  | .l p, .n l w r => .n (set v p l) w r
  | .r p, .e => .n .e none (set v p .e)
  | .r p, .n l w r => .n l w (set v p r)
noncomputable def setK {α R : Type} (v : Option α) (p : Pa) : Tr α → (Tr α → R) → R := Pa.rec (motive := fun _ => Tr α → (Tr α → R) → R)
  (fun t k => Tr.rec (motive := fun _ => R) (k (n e v e)) (fun l _ r _ _ => k (n l v r)) t)
  (fun _ ih t k => Tr.rec (motive := fun _ => R) (ih e (fun l => k (n l none e))) (fun l w r _ _ => ih l (fun l => k (n l w r))) t)
  (fun _ ih t k => Tr.rec (motive := fun _ => R) (ih e (fun l => k (n e none l))) (fun l w r _ _ => ih r (fun r => k (n l w r))) t) p
theorem setK_eq {α R : Type} (v : Option α) : ∀ (p : Pa) (t : Tr α) (k : Tr α → R), setK v p t k = k (set v p t)
  | .h, .e, _ => rfl
  | .h, .n _ _ _, _ => rfl
  | .l p, .e, _ => setK_eq v p .e _
  | .l p, .n l _ _, _ => setK_eq v p l _
  | .r p, .e, _ => setK_eq v p .e _
  | .r p, .n _ _ r, _ => setK_eq v p r _
theorem get_e {α : Type} (p : Pa) : get p (.e : Tr α) = none := by cases p <;> rfl
theorem get_set_self {α : Type} (v : Option α) : ∀ (p : Pa) (t : Tr α), get p (set v p t) = v
  | .h, .e => rfl
  | .h, .n _ _ _ => rfl
  | .l p, .e => get_set_self v p .e
  | .l p, .n l _ _ => get_set_self v p l
  | .r p, .e => get_set_self v p .e
  | .r p, .n _ _ r => get_set_self v p r
theorem get_set_ne {α : Type} (v : Option α) : ∀ (p q : Pa) (t : Tr α), p ≠ q → get q (set v p t) = get q t
  | .h, .h, _, h => absurd rfl h
  | .h, .l q, .e, _ => by show get q .e = _; rw [get_e]; rfl
  | .h, .r q, .e, _ => by show get q .e = _; rw [get_e]; rfl
  | .h, .l _, .n _ _ _, _ => rfl
  | .h, .r _, .n _ _ _, _ => rfl
  | .l _, .h, .e, _ => rfl
  | .l _, .h, .n _ _ _, _ => rfl
  | .l _, .r q, .e, _ => by show get q .e = _; rw [get_e]; rfl
  | .l _, .r _, .n _ _ _, _ => rfl
  | .l p, .l q, .e, h => (get_set_ne v p q .e fun e => h (e ▸ rfl)).trans (by rw [get_e, get_e])
  | .l p, .l q, .n l _ _, h => get_set_ne v p q l fun e => h (e ▸ rfl)
  | .r _, .h, .e, _ => rfl
  | .r _, .h, .n _ _ _, _ => rfl
  | .r _, .l q, .e, _ => by show get q .e = _; rw [get_e]; rfl
  | .r _, .l _, .n _ _ _, _ => rfl
  | .r p, .r q, .e, h => (get_set_ne v p q .e fun e => h (e ▸ rfl)).trans (by rw [get_e, get_e])
  | .r p, .r q, .n _ _ r, h => get_set_ne v p q r fun e => h (e ▸ rfl)
end Tr

/-- A number, brought to its form. -/
noncomputable def fN {R : Type} (n : Nat) (k : Nat → R) : R := Nat.rec (motive := fun _ => R) (k 0) (fun m _ => k (Nat.succ m)) n
theorem fN_eq {R : Type} (n : Nat) (k : Nat → R) : fN n k = k n := by cases n <;> rfl
noncomputable def fB {R : Type} (b : Bool) (k : Bool → R) : R := Bool.rec (motive := fun _ => R) (k false) (k true) b
theorem fB_eq {R : Type} (b : Bool) (k : Bool → R) : fB b k = k b := by cases b <;> rfl

/-! ### Values, their reading -/
inductive A where
  | i (k : IntKind) (n : Int)
  | b (b : Bool)
  | str (l : List Nat)
  | p (l o : Nat)
  | s (l o n : Nat) (k : Bool) (c : Nat)
  | m (l : Nat)
  | f (g : FuncId) (cs : List A)
  | x (t : TypeId) (a : A)
  | g (cs : List A)
  | t (vs : List A)
  | v (x : Value)

structure Loc where
  blk : Nat
  base : Nat
  cap : Nat
abbrev Val := Nat → Loc
def capD (x : Loc) (k : Bool) (c : Nat) : Nat := match k with | true => c | false => x.cap - c

mutual
def den (φ : Val) : A → Value
  | .i k n => .int k n
  | .b b => .bool b
  | .str l => .string ⟨(l.map UInt8.ofNat).toArray⟩
  | .p l o => .pointer (some ⟨(φ l).blk, (φ l).base + o, none⟩)
  | .s l o n k c => .slice (some ⟨(φ l).blk, (φ l).base + o, none⟩) n (capD (φ l) k c)
  | .m l => .map (some (φ l).blk)
  | .f g cs => .func (.func g) #[] (denL φ cs).toArray
  | .x t a => .iface t (den φ a)
  | .g cs => .agg (denL φ cs).toArray
  | .t vs => .tuple (denL φ vs).toArray
  | .v x => x
def denL (φ : Val) : List A → List Value
  | [] => []
  | a :: l => den φ a :: denL φ l
end
theorem denL_map (φ : Val) : ∀ l, denL φ l = l.map (den φ)
  | [] => rfl
  | a :: l => by rw [denL, denL_map φ l]; rfl
theorem denL_length (φ : Val) (l : List A) : (denL φ l).length = l.length := by rw [denL_map]; simp

/- The places that occur in a value are below n. -/
mutual
def below (n : Nat) : A → Prop
  | .p l _ => l < n
  | .s l _ _ _ _ => l < n
  | .m l => l < n
  | .f _ cs => belowL n cs
  | .x _ a => below n a
  | .g cs => belowL n cs
  | .t vs => belowL n vs
  | _ => True
def belowL (n : Nat) : List A → Prop
  | [] => True
  | a :: l => below n a ∧ belowL n l
end
theorem belowL_iff {n : Nat} : ∀ {l : List A}, belowL n l ↔ ∀ a ∈ l, below n a
  | [] => by simp [belowL]
  | a :: l => by simp [belowL, belowL_iff (l := l)]

mutual
theorem den_congr {φ ψ : Val} {n : Nat} (h : ∀ l, l < n → ψ l = φ l) : ∀ (a : A), below n a → den ψ a = den φ a
  | .p l o, hb => by simp only [den]; rw [h l hb]
  | .s l o m k c, hb => by simp only [den]; rw [h l hb]
  | .m l, hb => by simp only [den]; rw [h l hb]
  | .f g cs, hb => by simp only [den]; rw [denL_congr h cs hb]
  | .x t a, hb => by simp only [den]; rw [den_congr h a hb]
  | .g cs, hb => by simp only [den]; rw [denL_congr h cs hb]
  | .t cs, hb => by simp only [den]; rw [denL_congr h cs hb]
  | .i _ _, _ => rfl
  | .b _, _ => rfl
  | .str _, _ => rfl
  | .v _, _ => rfl
theorem denL_congr {φ ψ : Val} {n : Nat} (h : ∀ l, l < n → ψ l = φ l) : ∀ (l : List A), belowL n l → denL ψ l = denL φ l
  | [], _ => rfl
  | a :: l, hb => by simp only [denL]; rw [den_congr h a hb.1, denL_congr h l hb.2]
end
mutual
theorem below_mono {n m : Nat} (h : n ≤ m) : ∀ (a : A), below n a → below m a
  | .p l o, hb => Nat.lt_of_lt_of_le hb h
  | .s l o _ k c, hb => Nat.lt_of_lt_of_le hb h
  | .m l, hb => Nat.lt_of_lt_of_le hb h
  | .f g cs, hb => belowL_mono h cs hb
  | .x t a, hb => below_mono h a hb
  | .g cs, hb => belowL_mono h cs hb
  | .t cs, hb => belowL_mono h cs hb
  | .i _ _, _ => trivial
  | .b _, _ => trivial
  | .str _, _ => trivial
  | .v _, _ => trivial
theorem belowL_mono {n m : Nat} (h : n ≤ m) : ∀ (l : List A), belowL n l → belowL m l
  | [], _ => trivial
  | a :: l, hb => ⟨below_mono h a hb.1, belowL_mono h l hb.2⟩
end
end Go.V
namespace Go.V
open Go

/-! ### What lies in memory -/
inductive O where
  | c (T : TypeId) (ro : Bool) (g : Nat) (cs : List A)
  | mp (es : List (A × A × Nat)) (ck : Nat)
def O.bl (n : Nat) : O → Prop
  | .c _ _ _ cs => belowL n cs
  | .mp es _ => ∀ e ∈ es, below n e.1 ∧ below n e.2.1
structure S where
  h : Tr O
  n : Nat

def denE (φ : Val) (e : A × A × Nat) : MapEntry := { key := den φ e.1, val := den φ e.2.1, born := e.2.2 }
def okO (φ : Val) (l : Nat) (o : O) (w : World) : Prop :=
  match o with
  | .c T ro g cs => ∃ pre post f, w.heap[(φ l).blk]? = some (.cells (pre ++ denL φ cs ++ post).toArray T f) ∧ pre.length = (φ l).base ∧ (ro = false → f = (0, 0)) ∧ (g = 0 → pre = [] ∧ post = []) ∧ (0 < g → cs.length ≤ (φ l).cap * g ∧ (φ l).cap * g ≤ cs.length + post.length)
  | .mp es ck => w.heap[(φ l).blk]? = some (.map (es.map (denE φ)).toArray ck)

abbrev lim : Nat := 30
noncomputable abbrev pth (l : Nat) : Pa := pa 30 l
abbrev most : Nat := 1073741824

structure Rel (φ : Val) (s : S) (w : World) : Prop where
  few : s.n ≤ most
  ok : ∀ p o, s.h.get p = some o → okO φ p.un o w
  lt : ∀ p o, s.h.get p = some o → p.un < s.n ∧ o.bl s.n
  inj : ∀ p q o o', s.h.get p = some o → s.h.get q = some o' → (φ p.un).blk = (φ q.un).blk → p = q

theorem pth_un {l : Nat} (h : l < most) : (pth l).un = l := un_pa 30 l h

theorem Rel.at {φ : Val} {s : S} {w : World} (R : Rel φ s w) {l : Nat} {o : O} (hl : l < s.n) (h : s.h.get (pth l) = some o) : okO φ l o w := by
  have := R.ok _ _ h
  rwa [pth_un (Nat.lt_of_lt_of_le hl R.few)] at this
theorem Rel.fresh {φ : Val} {s : S} {w : World} (R : Rel φ s w) (hn : s.n < most) : s.h.get (pth s.n) = none := by
  cases h : s.h.get (pth s.n) with
  | none => rfl
  | some o =>
    have := (R.lt _ _ h).1
    rw [pth_un hn] at this
    exact absurd this (Nat.lt_irrefl _)

structure Ext (φ : Val) (s : S) (w : World) (φ' : Val) (s' : S) (w' : World) : Prop where
  agree : ∀ l, l < s.n → φ' l = φ l
  le : s.n ≤ s'.n
  os : w'.os = w.os
  tape : w'.tape = w.tape
  output : w'.output = w.output
  size : w.heap.size ≤ w'.heap.size
  keep : ∀ p T cs, s.h.get p = some (.c T true 0 cs) → s'.h.get p = some (.c T true 0 cs) ∧ φ' p.un = φ p.un ∧ w'.heap[(φ p.un).blk]? = w.heap[(φ p.un).blk]?
  out : ∀ b, b < w.heap.size → (∀ p o, s.h.get p = some o → (φ p.un).blk ≠ b) → w'.heap[b]? = w.heap[b]? ∧ ∀ p o, s'.h.get p = some o → (φ' p.un).blk ≠ b

theorem Ext.refl (φ : Val) (s : S) (w : World) : Ext φ s w φ s w := ⟨fun _ _ => rfl, Nat.le_refl _, rfl, rfl, rfl, Nat.le_refl _, fun _ _ _ h => ⟨h, rfl, rfl⟩, fun _ _ h => ⟨rfl, h⟩⟩
theorem Ext.trans {φ φ' φ'' : Val} {s s' s'' : S} {w w' w'' : World} (h : Ext φ s w φ' s' w') (k : Ext φ' s' w' φ'' s'' w'') : Ext φ s w φ'' s'' w'' := by
  refine ⟨fun l hl => (k.agree l (Nat.lt_of_lt_of_le hl h.le)).trans (h.agree l hl), Nat.le_trans h.le k.le, k.os.trans h.os, k.tape.trans h.tape, k.output.trans h.output, Nat.le_trans h.size k.size, fun p T cs hp => ?_, fun b hb hd => ?_⟩
  · obtain ⟨a1, a2, a3⟩ := h.keep p T cs hp
    obtain ⟨b1, b2, b3⟩ := k.keep p T cs a1
    rw [a2] at b2 b3
    exact ⟨b1, b2, b3.trans a3⟩
  obtain ⟨h1, h2⟩ := h.out b hb hd
  obtain ⟨h3, h4⟩ := k.out b (Nat.lt_of_lt_of_le hb h.size) h2
  exact ⟨h3.trans h1, h4⟩

theorem okO_lt {φ : Val} {l : Nat} {o : O} {w : World} (h : okO φ l o w) : (φ l).blk < w.heap.size := by
  cases o with
  | c T ro g cs => obtain ⟨_, _, _, h, _⟩ := h; exact (Array.getElem?_eq_some_iff.1 h).1
  | mp es ck => exact (Array.getElem?_eq_some_iff.1 h).1
theorem denE_congr {φ ψ : Val} {n : Nat} (h : ∀ l, l < n → ψ l = φ l) (e : A × A × Nat) (he : below n e.1 ∧ below n e.2.1) : denE ψ e = denE φ e := by
  unfold denE; rw [den_congr h _ he.1, den_congr h _ he.2]
/-- An object is read alike in another world that has the same block. -/
theorem okO_congr {φ ψ : Val} {n l : Nat} {o : O} {w w' : World} (h : ∀ l, l < n → ψ l = φ l) (hl : l < n) (ho : o.bl n) (hw : w'.heap[(φ l).blk]? = w.heap[(φ l).blk]?) (k : okO φ l o w) : okO ψ l o w' := by
  cases o with
  | c T ro g cs =>
    obtain ⟨pre, post, f, h1, h2, h3, h4, h5⟩ := k
    refine ⟨pre, post, f, ?_, ?_, h3, h4, ?_⟩
    · rw [h l hl, hw, h1, denL_congr h cs ho]
    · rw [h l hl]; exact h2
    · rw [h l hl]; exact h5
  | mp es ck =>
    show w'.heap[(ψ l).blk]? = _
    rw [h l hl, hw, show w.heap[(φ l).blk]? = _ from k]
    congr 3
    exact (List.map_congr_left fun e he => (denE_congr h e (ho e he)).symm)
theorem O.bl_mono {n m : Nat} (h : n ≤ m) : ∀ {o : O}, o.bl n → o.bl m
  | .c _ _ _ cs, k => belowL_mono h cs k
  | .mp _ _, k => fun e he => ⟨below_mono h _ (k e he).1, below_mono h _ (k e he).2⟩

/-- A step: what is known behind it. -/
def Stp (φ : Val) (s : S) (w : World) (φ' : Val) (s' : S) (w' : World) : Prop := Rel φ' s' w' ∧ Ext φ s w φ' s' w'
theorem Stp.trans {φ φ' φ'' : Val} {s s' s'' : S} {w w' w'' : World} (h : Stp φ s w φ' s' w') (k : Stp φ' s' w' φ'' s'' w'') : Stp φ s w φ'' s'' w'' := ⟨k.1, h.2.trans k.2⟩
theorem Rel.refl {φ : Val} {s : S} {w : World} (R : Rel φ s w) : Stp φ s w φ s w := ⟨R, Ext.refl _ _ _⟩

def upd (φ : Val) (n : Nat) (x : Loc) : Val := fun l => if l = n then x else φ l
theorem upd_self (φ : Val) (n : Nat) (x : Loc) : upd φ n x n = x := by simp [upd]
theorem upd_lt (φ : Val) {n l : Nat} (x : Loc) (h : l < n) : upd φ n x l = φ l := by simp [upd, Nat.ne_of_lt h]

noncomputable def S.new (s : S) (o : O) : S := ⟨s.h.set (some o) (pth s.n), s.n + 1⟩
noncomputable def S.put (s : S) (l : Nat) (o : O) : S := ⟨s.h.set (some o) (pth l), s.n⟩
noncomputable def S.drop (s : S) (l : Nat) : S := ⟨s.h.set none (pth l), s.n⟩

theorem get_new_old {s : S} {o : O} {p : Pa} (h : p ≠ pth s.n) : (s.new o).h.get p = s.h.get p := Tr.get_set_ne _ _ _ _ (Ne.symm h)
theorem get_new {s : S} {o : O} : (s.new o).h.get (pth s.n) = some o := Tr.get_set_self _ _ _

/-- A place of its own for a block that no other place has. -/
theorem Rel.new {φ : Val} {s : S} {w w' : World} (R : Rel φ s w) (hn : s.n < most) (x : Loc) (o : O) (hb : o.bl (s.n + 1)) (hx : ∀ p o, s.h.get p = some o → (φ p.un).blk ≠ x.blk)
    (hw : ∀ b, b ≠ x.blk → b < w.heap.size → w'.heap[b]? = w.heap[b]?) (ho : okO (upd φ s.n x) s.n o w') (h1 : w'.os = w.os) (h2 : w'.tape = w.tape) (h3 : w'.output = w.output) (h4 : w.heap.size ≤ w'.heap.size) (h5 : w.heap.size ≤ x.blk) :
    Stp φ s w (upd φ s.n x) (s.new o) w' := by
  have hag : ∀ l, l < s.n → upd φ s.n x l = φ l := fun l hl => upd_lt φ x hl
  have hold : ∀ p o', (s.new o).h.get p = some o' → p ≠ pth s.n → s.h.get p = some o' := fun p o' hp hne => by rwa [get_new_old hne] at hp
  have hkeep : ∀ p T cs, s.h.get p = some (.c T true 0 cs) → (s.new o).h.get p = some (.c T true 0 cs) ∧ upd φ s.n x p.un = φ p.un ∧ w'.heap[(φ p.un).blk]? = w.heap[(φ p.un).blk]? := fun p T cs hp => by
    have hne : p ≠ pth s.n := fun e => by rw [e, R.fresh hn] at hp; cases hp
    exact ⟨(get_new_old hne).trans hp, hag _ (R.lt p _ hp).1, hw _ (hx p _ hp) (okO_lt (R.ok p _ hp))⟩
  refine ⟨⟨hn, fun p o' hp => ?_, fun p o' hp => ?_, fun p q o1 o2 hp hq he => ?_⟩, ⟨hag, Nat.le_succ _, h1, h2, h3, h4, hkeep, fun b hb' hd => ⟨hw b (by omega) hb', fun p o' hp => ?_⟩⟩⟩
  · by_cases hne : p = pth s.n
    · subst hne
      rw [get_new] at hp; cases hp
      rw [pth_un hn]; exact ho
    · have hp' := hold p o' hp hne
      obtain ⟨hl, hbl⟩ := R.lt p o' hp'
      refine okO_congr hag hl hbl (hw _ (hx p o' hp') (okO_lt (R.ok p o' hp'))) (R.ok p o' hp')
  · by_cases hne : p = pth s.n
    · subst hne
      rw [get_new] at hp; cases hp
      rw [pth_un hn]; exact ⟨Nat.lt_succ_self _, hb⟩
    · obtain ⟨hl, hbl⟩ := R.lt p o' (hold p o' hp hne)
      exact ⟨Nat.lt_succ_of_lt hl, O.bl_mono (Nat.le_succ _) hbl⟩
  · by_cases hpn : p = pth s.n
    · by_cases hqn : q = pth s.n
      · rw [hpn, hqn]
      · have hq' := hold q o2 hq hqn
        rw [hpn, pth_un hn, upd_self, hag _ (R.lt q o2 hq').1] at he
        exact absurd he.symm (hx q o2 hq')
    · have hp' := hold p o1 hp hpn
      by_cases hqn : q = pth s.n
      · rw [hqn, pth_un hn, upd_self, hag _ (R.lt p o1 hp').1] at he
        exact absurd he (hx p o1 hp')
      · have hq' := hold q o2 hq hqn
        rw [hag _ (R.lt p o1 hp').1, hag _ (R.lt q o2 hq').1] at he
        exact R.inj p q o1 o2 hp' hq' he
  · by_cases hne : p = pth s.n
    · subst hne
      rw [pth_un hn, upd_self]; omega
    · have hp' := hold p o' hp hne
      rw [hag _ (R.lt p o' hp').1]
      exact hd p o' hp'

/-- What lies at a place is changed. -/
theorem Rel.put {φ : Val} {s : S} {w w' : World} (R : Rel φ s w) {l : Nat} (hl : l < s.n) {o o' : O} (hg : s.h.get (pth l) = some o) (hro : ∀ T cs, o ≠ .c T true 0 cs) (hb : o'.bl s.n)
    (hw : ∀ b, b ≠ (φ l).blk → b < w.heap.size → w'.heap[b]? = w.heap[b]?) (ho : okO φ l o' w') (h1 : w'.os = w.os) (h2 : w'.tape = w.tape) (h3 : w'.output = w.output) (h4 : w.heap.size ≤ w'.heap.size) :
    Stp φ s w φ (s.put l o') w' := by
  have hlm : l < most := Nat.lt_of_lt_of_le hl R.few
  have hold : ∀ p o1, (s.put l o').h.get p = some o1 → p ≠ pth l → s.h.get p = some o1 := fun p o1 hp hne => by
    have : (s.put l o').h.get p = s.h.get p := Tr.get_set_ne _ _ _ _ (Ne.symm hne)
    rwa [this] at hp
  have hself : (s.put l o').h.get (pth l) = some o' := Tr.get_set_self _ _ _
  have hkeep : ∀ p T cs, s.h.get p = some (.c T true 0 cs) → (s.put l o').h.get p = some (.c T true 0 cs) ∧ φ p.un = φ p.un ∧ w'.heap[(φ p.un).blk]? = w.heap[(φ p.un).blk]? := fun p T cs hp => by
    have hne : p ≠ pth l := fun e => by rw [e, hg] at hp; exact hro T cs (Option.some.inj hp)
    exact ⟨(Tr.get_set_ne _ _ _ _ (Ne.symm hne)).trans hp, rfl, hw _ (fun e => hne (R.inj p (pth l) _ o hp hg (by rw [pth_un hlm]; exact e))) (okO_lt (R.ok p _ hp))⟩
  refine ⟨⟨R.few, fun p o1 hp => ?_, fun p o1 hp => ?_, fun p q o1 o2 hp hq he => ?_⟩, ⟨fun _ _ => rfl, Nat.le_refl _, h1, h2, h3, h4, hkeep, fun b hb' hd => ⟨hw b ?_ hb', fun p o1 hp => ?_⟩⟩⟩
  · by_cases hne : p = pth l
    · subst hne
      rw [hself] at hp; cases hp
      rw [pth_un hlm]; exact ho
    · have hp' := hold p o1 hp hne
      obtain ⟨hl', hbl⟩ := R.lt p o1 hp'
      refine okO_congr (n := s.n) (fun _ _ => rfl) hl' hbl (hw _ (fun e => hne ?_) (okO_lt (R.ok p o1 hp'))) (R.ok p o1 hp')
      exact R.inj p (pth l) o1 o hp' hg (by rw [pth_un hlm]; exact e)
  · by_cases hne : p = pth l
    · subst hne
      rw [hself] at hp; cases hp
      rw [pth_un hlm]; exact ⟨hl, hb⟩
    · exact R.lt p o1 (hold p o1 hp hne)
  · have key : ∀ p o1, (s.put l o').h.get p = some o1 → ∃ o2, s.h.get p = some o2 := fun p o1 hp => by
      by_cases hne : p = pth l
      · exact ⟨o, hne ▸ hg⟩
      · exact ⟨o1, hold p o1 hp hne⟩
    obtain ⟨x, hx⟩ := key p o1 hp
    obtain ⟨y, hy⟩ := key q o2 hq
    exact R.inj p q x y hx hy he
  · have := hd (pth l) o hg
    rw [pth_un hlm] at this
    exact Ne.symm this
  · by_cases hne : p = pth l
    · subst hne; exact hd (pth l) o hg
    · exact hd p o1 (hold p o1 hp hne)

/-- A place is given up. -/
theorem Rel.drop {φ : Val} {s : S} {w : World} (R : Rel φ s w) (l : Nat) (hro : ∀ T cs, s.h.get (pth l) ≠ some (.c T true 0 cs)) : Stp φ s w φ (s.drop l) w := by
  have hold : ∀ p o1, (s.drop l).h.get p = some o1 → s.h.get p = some o1 := fun p o1 hp => by
    by_cases hne : p = pth l
    · subst hne
      have : (s.drop l).h.get (pth l) = none := Tr.get_set_self _ _ _
      rw [this] at hp; cases hp
    · have : (s.drop l).h.get p = s.h.get p := Tr.get_set_ne _ _ _ _ (Ne.symm hne)
      rwa [this] at hp
  exact ⟨⟨R.few, fun p o hp => R.ok p o (hold p o hp), fun p o hp => R.lt p o (hold p o hp), fun p q o1 o2 hp hq => R.inj p q o1 o2 (hold p o1 hp) (hold q o2 hq)⟩,
    ⟨fun _ _ => rfl, Nat.le_refl _, rfl, rfl, rfl, Nat.le_refl _, fun p T cs hp => ⟨(Tr.get_set_ne _ _ _ _ (fun e => hro T cs (by rw [e]; exact hp))).trans hp, rfl, rfl⟩, fun _ _ hd => ⟨rfl, fun p o hp => hd p o (hold p o hp)⟩⟩⟩

/-- A block goes over from a place to a new one. -/
theorem Rel.rename {φ : Val} {s : S} {w : World} (R : Rel φ s w) (hn : s.n < most) {l : Nat} (hl : l < s.n) {o : O} (hg : s.h.get (pth l) = some o) (hro : ∀ T cs, o ≠ .c T true 0 cs) (x : Loc) (hx : x.blk = (φ l).blk) (o' : O) (hb : o'.bl (s.n + 1))
    (ho : okO (upd φ s.n x) s.n o' w) : Stp φ s w (upd φ s.n x) ((s.drop l).new o') w := by
  have hlm : l < most := Nat.lt_of_lt_of_le hl R.few
  have hag : ∀ l, l < s.n → upd φ s.n x l = φ l := fun l hl => upd_lt φ x hl
  have hold : ∀ p o1, ((s.drop l).new o').h.get p = some o1 → p ≠ pth s.n → s.h.get p = some o1 ∧ p ≠ pth l := fun p o1 hp hne => by
    rw [get_new_old (s := s.drop l) hne] at hp
    by_cases h : p = pth l
    · subst h
      have : (s.drop l).h.get (pth l) = none := Tr.get_set_self _ _ _
      rw [this] at hp; cases hp
    · have : (s.drop l).h.get p = s.h.get p := Tr.get_set_ne _ _ _ _ (Ne.symm h)
      rw [this] at hp; exact ⟨hp, h⟩
  have hself : ((s.drop l).new o').h.get (pth s.n) = some o' := get_new (s := s.drop l)
  have hblk : ∀ p o1, s.h.get p = some o1 → p ≠ pth l → (φ p.un).blk ≠ x.blk := fun p o1 hp hne e => hne (R.inj p (pth l) o1 o hp hg (by rw [pth_un hlm, ← hx]; exact e))
  have hkeep : ∀ p T cs, s.h.get p = some (.c T true 0 cs) → ((s.drop l).new o').h.get p = some (.c T true 0 cs) ∧ upd φ s.n x p.un = φ p.un ∧ w.heap[(φ p.un).blk]? = w.heap[(φ p.un).blk]? := fun p T cs hp => by
    have hne : p ≠ pth s.n := fun e => by rw [e, R.fresh hn] at hp; cases hp
    have hnl : p ≠ pth l := fun e => by rw [e, hg] at hp; exact hro T cs (Option.some.inj hp)
    exact ⟨(get_new_old (s := s.drop l) hne).trans ((Tr.get_set_ne _ _ _ _ (Ne.symm hnl)).trans hp), hag _ (R.lt p _ hp).1, rfl⟩
  refine ⟨⟨hn, fun p o1 hp => ?_, fun p o1 hp => ?_, fun p q o1 o2 hp hq he => ?_⟩, ⟨hag, Nat.le_succ _, rfl, rfl, rfl, Nat.le_refl _, hkeep, fun b hb' hd => ⟨rfl, fun p o1 hp => ?_⟩⟩⟩
  · by_cases hne : p = pth s.n
    · subst hne
      rw [hself] at hp; cases hp
      rw [pth_un hn]; exact ho
    · obtain ⟨hp', _⟩ := hold p o1 hp hne
      obtain ⟨hl', hbl⟩ := R.lt p o1 hp'
      exact okO_congr hag hl' hbl rfl (R.ok p o1 hp')
  · by_cases hne : p = pth s.n
    · subst hne
      rw [hself] at hp; cases hp
      rw [pth_un hn]; exact ⟨Nat.lt_succ_self _, hb⟩
    · obtain ⟨hl', hbl⟩ := R.lt p o1 (hold p o1 hp hne).1
      exact ⟨Nat.lt_succ_of_lt hl', O.bl_mono (Nat.le_succ _) hbl⟩
  · by_cases hpn : p = pth s.n
    · by_cases hqn : q = pth s.n
      · rw [hpn, hqn]
      · obtain ⟨hq', hql⟩ := hold q o2 hq hqn
        rw [hpn, pth_un hn, upd_self, hag _ (R.lt q o2 hq').1] at he
        exact absurd he.symm (hblk q o2 hq' hql)
    · obtain ⟨hp', hpl⟩ := hold p o1 hp hpn
      by_cases hqn : q = pth s.n
      · rw [hqn, pth_un hn, upd_self, hag _ (R.lt p o1 hp').1] at he
        exact absurd he (hblk p o1 hp' hpl)
      · obtain ⟨hq', _⟩ := hold q o2 hq hqn
        rw [hag _ (R.lt p o1 hp').1, hag _ (R.lt q o2 hq').1] at he
        exact R.inj p q o1 o2 hp' hq' he
  · by_cases hne : p = pth s.n
    · subst hne
      rw [pth_un hn, upd_self, hx]
      have := hd (pth l) o hg
      rwa [pth_un hlm] at this
    · obtain ⟨hp', _⟩ := hold p o1 hp hne
      rw [hag _ (R.lt p o1 hp').1]
      exact hd p o1 hp'
end Go.V
namespace Go.V
open Go

/-! ### Lists, brought to their form -/
noncomputable def tk (n : Nat) : List A → Option (List A) := Nat.rec (motive := fun _ => List A → Option (List A)) (fun _ => some [])
  (fun _ ih l => match l with | [] => none | a :: l => match ih l with | some r => some (a :: r) | none => none) n
noncomputable def dp (n : Nat) : List A → List A := Nat.rec (motive := fun _ => List A → List A) (fun l => l)
  (fun _ ih l => match l with | [] => [] | _ :: l => ih l) n
noncomputable def nt (n : Nat) : List A → Option A := Nat.rec (motive := fun _ => List A → Option A) (fun l => match l with | [] => none | a :: _ => some a)
  (fun _ ih l => match l with | [] => none | _ :: l => ih l) n
noncomputable def ovr (vs : List A) : List A → Option (List A) := List.rec (motive := fun _ => List A → Option (List A)) (fun cs => some cs)
  (fun v _ ih cs => match cs with | [] => none | _ :: cs => match ih cs with | some r => some (v :: r) | none => none) vs
noncomputable def spA (vs : List A) (o : Nat) : List A → Option (List A) := Nat.rec (motive := fun _ => List A → Option (List A)) (fun cs => ovr vs cs)
  (fun _ ih cs => match cs with | [] => none | c :: cs => match ih cs with | some r => some (c :: r) | none => none) o
/-- as, then bs, in form. -/
noncomputable def apA {R : Type} (as bs : List A) : (List A → R) → R := List.rec (motive := fun _ => (List A → R) → R) (fun k => k bs) (fun a _ ih k => ih fun r => k (a :: r)) as
/-- n pieces of z. -/
noncomputable def rpA (z : List A) (n : Nat) : List A := Nat.rec (motive := fun _ => List A) [] (fun _ ih => apA z ih fun r => r) n
noncomputable def lnA (l : List A) : Nat := List.rec (motive := fun _ => Nat) 0 (fun _ _ ih => Nat.succ ih) l

theorem tk_spec : ∀ (n : Nat) (l r : List A), tk n l = some r → n ≤ l.length ∧ r = l.take n
  | 0, l, r, h => by have : some ([] : List A) = some r := h; cases this; simp
  | n + 1, [], r, h => by have : (none : Option (List A)) = some r := h; cases this
  | n + 1, a :: l, r, h => by
    have h' : (match tk n l with | some r => some (a :: r) | none => none) = some r := h
    cases hk : tk n l with
    | none => rw [hk] at h'; cases h'
    | some q =>
      rw [hk] at h'; cases h'
      obtain ⟨h1, h2⟩ := tk_spec n l q hk
      exact ⟨by simp; omega, by simp [h2]⟩
theorem dp_eq : ∀ (n : Nat) (l : List A), dp n l = l.drop n
  | 0, l => by simp; rfl
  | n + 1, [] => rfl
  | n + 1, _ :: l => by rw [List.drop_succ_cons, ← dp_eq n l]; rfl
theorem nt_eq : ∀ (n : Nat) (l : List A), nt n l = l[n]?
  | 0, [] => rfl
  | 0, _ :: _ => rfl
  | n + 1, [] => rfl
  | n + 1, _ :: l => by rw [List.getElem?_cons_succ, ← nt_eq n l]; rfl
theorem ovr_spec : ∀ (vs cs r : List A), ovr vs cs = some r → vs.length ≤ cs.length ∧ r = vs ++ cs.drop vs.length
  | [], cs, r, h => by have : some cs = some r := h; cases this; simp
  | v :: vs, [], r, h => by have : (none : Option (List A)) = some r := h; cases this
  | v :: vs, c :: cs, r, h => by
    have h' : (match ovr vs cs with | some r => some (v :: r) | none => none) = some r := h
    cases hk : ovr vs cs with
    | none => rw [hk] at h'; cases h'
    | some q =>
      rw [hk] at h'; cases h'
      obtain ⟨h1, h2⟩ := ovr_spec vs cs q hk
      exact ⟨by simp; omega, by simp [h2]⟩
theorem spA_spec (vs : List A) : ∀ (o : Nat) (cs r : List A), spA vs o cs = some r → o + vs.length ≤ cs.length ∧ r = cs.take o ++ vs ++ cs.drop (o + vs.length)
  | 0, cs, r, h => by
    obtain ⟨h1, h2⟩ := ovr_spec vs cs r h
    simp [h2]; exact h1
  | o + 1, [], r, h => by have : (none : Option (List A)) = some r := h; cases this
  | o + 1, c :: cs, r, h => by
    have h' : (match spA vs o cs with | some r => some (c :: r) | none => none) = some r := h
    cases hk : spA vs o cs with
    | none => rw [hk] at h'; cases h'
    | some q =>
      rw [hk] at h'; cases h'
      obtain ⟨h1, h2⟩ := spA_spec vs o cs q hk
      refine ⟨by simp; omega, ?_⟩
      rw [h2, show o + 1 + vs.length = (o + vs.length) + 1 by omega]; simp
theorem apA_eq {R : Type} : ∀ (as bs : List A) (k : List A → R), apA as bs k = k (as ++ bs)
  | [], _, _ => rfl
  | a :: as, bs, k => apA_eq as bs fun r => k (a :: r)
theorem rpA_eq (z : List A) : ∀ n, rpA z n = (List.replicate n z).flatten
  | 0 => rfl
  | n + 1 => by
    have : rpA z (n + 1) = apA z (rpA z n) fun r => r := rfl
    rw [this, apA_eq, rpA_eq z n, List.replicate_succ, List.flatten_cons]
theorem lnA_eq : ∀ l : List A, lnA l = l.length
  | [] => rfl
  | _ :: l => by show Nat.succ (lnA l) = _; rw [lnA_eq l]; rfl

/-! ### Values -/
def ofV1 : Value → A
  | .bool b => .b b
  | .int k n => .i k n
  | .string s => .str (s.data.toList.map UInt8.toNat)
  | x => .v x
def ofV : Value → A
  | .agg cs => .g (cs.toList.map ofV1)
  | x => ofV1 x
theorem den_ofV1 (φ : Val) (x : Value) : den φ (ofV1 x) = x := by
  cases x <;> simp only [ofV1, den]
  rename_i s
  congr 1
  rw [List.map_map]
  have : (UInt8.ofNat ∘ UInt8.toNat) = id := by funext b; simp
  rw [this, List.map_id]
theorem den_ofV (φ : Val) (x : Value) : den φ (ofV x) = x := by
  cases x <;> simp only [ofV, den_ofV1]
  rename_i cs
  simp only [den, denL_map, List.map_map]
  have : (den φ ∘ ofV1) = id := by funext b; simp [den_ofV1]
  rw [this, List.map_id, Array.toArray_toList]
theorem below_ofV1 (n : Nat) (x : Value) : below n (ofV1 x) := by cases x <;> simp [ofV1, below]
theorem below_ofV (n : Nat) (x : Value) : below n (ofV x) := by
  cases x <;> simp only [ofV, below_ofV1]
  simp [below, belowL_iff, below_ofV1]

/-- The cells of a value. -/
def cA : A → List A
  | .g cs => cs
  | .v x => match x with
    | .agg cs => cs.toList.map .v
    | _ => [.v x]
  | .i k n => [.i k n]
  | .b t => [.b t]
  | .str l => [.str l]
  | .p l o => [.p l o]
  | .s l o n k c => [.s l o n k c]
  | .m l => [.m l]
  | .f g cs => [.f g cs]
  | .x t a => [.x t a]
  | .t vs => [.t vs]
theorem den_cA (φ : Val) (a : A) : (den φ a).cells = (denL φ (cA a)).toArray := by
  cases a with
  | v x =>
    cases x <;> simp [den, cA, Value.cells, denL]
    rename_i cs
    rw [denL_map, List.map_map]
    have : (den φ ∘ A.v) = id := by funext b; simp [den]
    rw [this]; simp
  | _ => simp [den, cA, Value.cells, denL]
theorem below_cA {n : Nat} {a : A} (h : below n a) : belowL n (cA a) := by
  cases a with
  | v x => cases x <;> simp [cA, belowL, below, belowL_iff]
  | g cs => exact h
  | _ => exact ⟨h, trivial⟩
def one : A → Bool
  | .g _ | .t _ => false
  | .v x => x.oneCell'
  | _ => true
theorem one_den (φ : Val) {a : A} (h : one a = true) : (den φ a).oneCell' = true := by
  cases a with
  | v x => exact h
  | g cs => cases h
  | t cs => cases h
  | _ => rfl
/-- n cells, each of them one. -/
noncomputable def fit (l : List A) : Nat → Bool := List.rec (motive := fun _ => Nat → Bool) (fun n => Nat.beq n 0) (fun a _ ih n => match n with | 0 => false | n + 1 => match one a with | true => ih n | false => false) l
theorem fit_spec : ∀ (l : List A) (n : Nat), fit l n = true → l.length = n ∧ ∀ a ∈ l, one a = true
  | [], n, h => by have : Nat.beq n 0 = true := h; simp at this; simp [this]
  | a :: l, 0, h => by have : false = true := h; cases this
  | a :: l, n + 1, h => by
    have h' : (match one a with | true => fit l n | false => false) = true := h
    cases ha : one a with
    | false => rw [ha] at h'; cases h'
    | true =>
      rw [ha] at h'
      obtain ⟨h1, h2⟩ := fit_spec l n h'
      refine ⟨by simp [h1], fun b hb => ?_⟩
      rcases List.mem_cons.1 hb with rfl | hb
      · exact ha
      · exact h2 b hb

/-! ### Types -/
def szB (P : Program) (t : TypeId) : Option Nat := match P.info? t with | some i => some i.size | none => none
def byB (P : Program) (t : TypeId) : Option Nat := match P.info? t with | some i => some i.bytes | none => none
def agB (P : Program) (t : TypeId) : Option Bool := match P.underlying t with
  | some d => match d with | .struct _ => some true | .array _ _ => some true | _ => some false
  | none => none
def zrB (P : Program) (t : TypeId) : Option A := match P.info? t with
  | some i => match i.zero with | some z => some (ofV z) | none => none
  | none => none
section
variable {P : Program} {w : World} {t : TypeId}
theorem run_sz {n : Nat} (h : szB P t = some n) : (sizeOf t).run P w = .ok n w := by
  unfold szB at h
  cases hi : P.info? t with
  | none => rw [hi] at h; cases h
  | some i => rw [hi] at h; cases h; simp [sizeOf, typeInfo, hi]
theorem run_ag {b : Bool} (h : agB P t = some b) : (isAgg t).run P w = .ok b w := by
  unfold agB at h
  cases hi : P.underlying t with
  | none => rw [hi] at h; cases h
  | some d => rw [hi] at h; simp only [isAgg, Sem.run_bind, run_underlying hi, Result.andThen_ok]; cases d <;> (cases h; rfl)
theorem run_zr {z : A} (h : zrB P t = some z) (φ : Val) : (zeroValue t).run P w = .ok (den φ z) w := by
  unfold zrB at h
  cases hi : P.info? t with
  | none => rw [hi] at h; cases h
  | some i =>
    rw [hi] at h
    cases hz : i.zero with
    | none => simp only [hz] at h; cases h
    | some z =>
      simp only [hz] at h; cases h
      simp [zeroValue, typeInfo, hi, hz, den_ofV]
end

/-! ### Operations without memory: by the model's own text -/
def pR {α : Type} (P : Program) : Sem α → Option α
  | .pure a => some a
  | .program k => pR P (k P)
  | _ => none
theorem pR_run {α : Type} {P : Program} : ∀ {s : Sem α} {a : α}, pR P s = some a → ∀ w, s.run P w = .ok a w
  | .pure b, a, h, w => by simp [pR] at h; subst h; rfl
  | .program k, a, h, w => by
    simp only [pR] at h
    exact pR_run (s := k P) h w
  | .load _ _ _, _, h, _ => by simp [pR] at h
  | .store _ _ _ _, _, h, _ => by simp [pR] at h
  | .new _ _, _, h, _ => by simp [pR] at h
  | .shape _ _, _, h, _ => by simp [pR] at h
  | .freeze _ _ _, _, h, _ => by simp [pR] at h
  | .frozen _ _, _, h, _ => by simp [pR] at h
  | .getObj _ _, _, h, _ => by simp [pR] at h
  | .setObj _ _ _, _, h, _ => by simp [pR] at h
  | .choose _ _, _, h, _ => by simp [pR] at h
  | .sys _ _, _, h, _ => by simp [pR] at h
  | .mark _ _, _, h, _ => by simp [pR] at h
  | .halt _, _, h, _ => by simp [pR] at h

/-- A value without places. -/
def toV : A → Option Value
  | .i k n => some (.int k n)
  | .b b => some (.bool b)
  | .v x => some x
  | _ => none
theorem toV_den (φ : Val) {a : A} {x : Value} (h : toV a = some x) : den φ a = x := by
  cases a <;> simp [toV] at h <;> subst h <;> rfl

/-! ### Whole numbers -/
noncomputable def fI {R : Type} (n : Int) (k : Int → R) : R := Int.rec (motive := fun _ => R) (fun m => fN m fun m' => k (.ofNat m')) (fun m => fN m fun m' => k (.negSucc m')) n
theorem fI_eq {R : Type} (n : Int) (k : Int → R) : fI n k = k n := match n with
  | .ofNat m => fN_eq m fun m' => k (.ofNat m')
  | .negSucc m => fN_eq m fun m' => k (.negSucc m')
def wrapF (k : IntKind) (n : Int) : Int :=
  match k, n with
  | .i64, .ofNat m => bif Nat.blt m 9223372036854775808 then .ofNat m else IntKind.i64.wrap (.ofNat m)
  | .u8, .ofNat m => .ofNat (Nat.mod m 256)
  | .u32, .ofNat m => .ofNat (Nat.mod m 4294967296)
  | k, n => k.wrap n
theorem wrap_u (k : IntKind) (m : Nat) (hs : k.signed = false) : k.wrap (m : Int) = ((m % 2 ^ k.bits : Nat) : Int) := by
  simp only [IntKind.wrap, hs, Bool.false_and, Bool.false_eq_true, if_false]
  rw [Int.natCast_emod, Int.natCast_pow]; rfl
theorem wrapF_eq (k : IntKind) (n : Int) : wrapF k n = k.wrap n := by
  cases n with
  | negSucc m => cases k <;> rfl
  | ofNat m =>
    cases k with
    | i64 =>
      show (bif Nat.blt m 9223372036854775808 then Int.ofNat m else _) = _
      cases hb : Nat.blt m 9223372036854775808 with
      | false => rfl
      | true =>
        simp only [cond_true]
        have : m < 9223372036854775808 := by simpa [Nat.blt_eq] using hb
        exact (IntWalk.i64_in _ (by constructor <;> (show _ ≤ _; have := Int.ofNat_eq_natCast m; omega))).symm
    | u8 => exact (wrap_u .u8 m rfl).symm
    | u32 => exact (wrap_u .u32 m rfl).symm
    | _ => rfl
end Go.V
namespace Go.V
open Go

abbrev Rd := Operand → A
/-- An operation gives a value in whatever world, and leaves it. -/
def Pu (P : Program) (φ : Val) (ρ : Rd) (o : Oper) (a : A) : Prop := ∀ w, (execOp (fun x => den φ (ρ x)) o).run P w = .ok (.value (den φ a)) w
noncomputable def fA {R : Type} (a : A) (k : A → R) : R := match a with
  | .i j n => fI n fun n => k (.i j n)
  | .b t => fB t fun t => k (.b t)
  | a => k a
theorem fA_eq {R : Type} (a : A) (k : A → R) : fA a k = k a := by
  cases a with
  | i j n => exact fI_eq n fun n => k (.i j n)
  | b t => exact fB_eq t fun t => k (.b t)
  | _ => rfl

section
variable {P : Program} {φ : Val} {ρ : Rd} {dst : Option Nat} {ty : TypeId} {pos : String} {af : Array Edge} {gu : Option (Nat × Bool)} {a : A} {n : Nat}

/-! Numbers, truth values, strings -/
noncomputable def intA (op : BinOp) (k : IntKind) (a b : Int) : Option A := match op with
  | .add => fI (wrapF k (a + b)) fun n => some (.i k n)
  | .sub => fI (wrapF k (a - b)) fun n => some (.i k n)
  | .mul => fI (wrapF k (a * b)) fun n => some (.i k n)
  | .eql => fB (a == b) fun t => some (.b t)
  | .neq => fB (a != b) fun t => some (.b t)
  | .lss => fB (decide (a < b)) fun t => some (.b t)
  | .leq => fB (decide (a ≤ b)) fun t => some (.b t)
  | .gtr => fB (decide (a > b)) fun t => some (.b t)
  | .geq => fB (decide (a ≥ b)) fun t => some (.b t)
  | _ => none
noncomputable def eqN (a : List Nat) : List Nat → Bool := List.rec (motive := fun _ => List Nat → Bool) (fun b => match b with | [] => true | _ :: _ => false)
  (fun x _ ih b => match b with | [] => false | y :: b => bif Nat.beq x y then ih b else false) a
theorem eqN_iff : ∀ (a b : List Nat), eqN a b = true ↔ a = b
  | [], [] => by simp [eqN]
  | [], _ :: _ => by simp [eqN]
  | _ :: _, [] => by simp [eqN]
  | x :: a, y :: b => by
    have h : eqN (x :: a) (y :: b) = bif Nat.beq x y then eqN a b else false := rfl
    rw [h]
    cases hx : Nat.beq x y with
    | false =>
      have : x ≠ y := fun e => by subst e; simp at hx
      simp [this]
    | true =>
      have : x = y := Nat.eq_of_beq_eq_true hx
      simp [this, eqN_iff a b]
/-- Bytes. -/
noncomputable def byt (l : List Nat) : Bool := List.rec (motive := fun _ => Bool) true (fun x _ ih => bif Nat.blt x 256 then ih else false) l
theorem byt_spec : ∀ {l : List Nat}, byt l = true → ∀ x ∈ l, x < 256
  | [], _, _, hx => by cases hx
  | x :: l, h, y, hy => by
    have h' : (bif Nat.blt x 256 then byt l else false) = true := h
    cases hb : Nat.blt x 256 with
    | false => rw [hb] at h'; cases h'
    | true =>
      rw [hb] at h'
      rcases List.mem_cons.1 hy with rfl | hy
      · simpa [Nat.blt_eq] using hb
      · exact byt_spec h' y hy
theorem map_ofNat_inj : ∀ {a b : List Nat}, (∀ x ∈ a, x < 256) → (∀ x ∈ b, x < 256) → a.map UInt8.ofNat = b.map UInt8.ofNat → a = b
  | [], [], _, _, _ => rfl
  | [], _ :: _, _, _, h => by simp at h
  | _ :: _, [], _, _, h => by simp at h
  | x :: a, y :: b, ha, hb, h => by
    simp only [List.map_cons, List.cons.injEq] at h
    have hx := ha x (by simp)
    have hy := hb y (by simp)
    have : x = y := by
      have := congrArg UInt8.toNat h.1
      simpa [UInt8.toNat_ofNat, Nat.mod_eq_of_lt hx, Nat.mod_eq_of_lt hy] using this
    rw [this, map_ofNat_inj (fun z hz => ha z (by simp [hz])) (fun z hz => hb z (by simp [hz])) h.2]
abbrev strV (l : List Nat) : ByteArray := ⟨(l.map UInt8.ofNat).toArray⟩
noncomputable def apN {R : Type} (as bs : List Nat) : (List Nat → R) → R := List.rec (motive := fun _ => (List Nat → R) → R) (fun k => k bs) (fun a _ ih k => ih fun r => k (a :: r)) as
theorem apN_eq {R : Type} : ∀ (as bs : List Nat) (k : List Nat → R), apN as bs k = k (as ++ bs)
  | [], _, _ => rfl
  | a :: as, bs, k => apN_eq as bs fun r => k (a :: r)
noncomputable def lnN (l : List Nat) : Nat := List.rec (motive := fun _ => Nat) 0 (fun _ _ ih => Nat.succ ih) l
theorem lnN_eq : ∀ l : List Nat, lnN l = l.length
  | [] => rfl
  | _ :: l => by show Nat.succ (lnN l) = _; rw [lnN_eq l]; rfl
noncomputable def strA (op : BinOp) (a b : List Nat) : Option A := match op with
  | .eql => bif byt a && byt b then fB (eqN a b) fun t => some (.b t) else none
  | .neq => bif byt a && byt b then fB (!eqN a b) fun t => some (.b t) else none
  | .add => bif Nat.ble (lnN a + lnN b) 4294967296 then apN a b fun r => some (.str r) else none
  | _ => none
theorem toList_strV (l : List Nat) : (strV l).toList = l.map UInt8.ofNat := by
  rw [ByteArray.toList_eq]
theorem strV_beq {a b : List Nat} (ha : byt a = true) (hb : byt b = true) : ((strV a).toList == (strV b).toList) = eqN a b := by
  rw [toList_strV, toList_strV, Bool.eq_iff_iff, beq_iff_eq, eqN_iff]
  exact ⟨map_ofNat_inj (byt_spec ha) (byt_spec hb), fun h => by rw [h]⟩
theorem strV_append (a b : List Nat) : strV a ++ strV b = strV (a ++ b) := by
  apply ByteArray.ext
  simp [ByteArray.data_append]

/-! Equality -/
noncomputable def partH (sz : Nat) (ag : Bool) (xs : List A) : Option A := match ag with
  | true => match tk sz xs with | some r => some (.g r) | none => none
  | false => nt 0 xs
noncomputable def eqArr (ih : A → A → Option Bool) (sz : Nat) (ag : Bool) (n : Nat) : List A → List A → Option Bool := Nat.rec (motive := fun _ => List A → List A → Option Bool) (fun _ _ => some true)
  (fun _ r xs ys => match partH sz ag xs, partH sz ag ys with
    | some a, some b => match ih a b, r (dp sz xs) (dp sz ys) with
      | some s, some t => some (s && t)
      | _, _ => none
    | _, _ => none) n
noncomputable def eqFs (P : Program) (ih : TypeId → A → A → Option Bool) (xs ys : List A) (fs : List Field) : Option Bool := List.rec (motive := fun _ => Option Bool) (some true)
  (fun f _ r => match decide (f.name ≠ "_") with
    | true => match szB P f.type, agB P f.type with
      | some sz, some ag => match partH sz ag (dp f.offset xs), partH sz ag (dp f.offset ys) with
        | some a, some b => match ih f.type a b with
          | some true => r
          | some false => some false
          | none => none
        | _, _ => none
      | _, _ => none
    | false => r) fs
noncomputable def eqTy (P : Program) (ih : TypeId → A → A → Option Bool) (t : TypeId) (td : TypeDesc) (x y : A) : Option Bool := match td with
  | .bool => match x, y with | .b a, .b b => some (a == b) | _, _ => none
  | .int _ => match x, y with | .i k a, .i k' b => (match decide (k = k') with | true => some (a == b) | false => none) | _, _ => none
  | .string => match x, y with | .str a, .str b => bif byt a && byt b then some (eqN a b) else none | _, _ => none
  | .array n e => match x, y with
    | .g xs, .g ys => match szB P e, agB P e with
      | some sz, some ag => eqArr (ih e) sz ag n xs ys
      | _, _ => none
    | _, _ => none
  | .struct fs => match x, y with
    | .g xs, .g ys => match P.stoodInHeld t with | false => eqFs P ih xs ys fs.toList | true => none
    | _, _ => none
  | .pointer e => match x, y with
    | .p _ _, .v (.pointer none) => some false
    | .v (.pointer none), .p _ _ => some false
    | .p l o, .p l' o' => match szB P e with
      | some (_ + 1) => bif Nat.beq l l' then some (Nat.beq o o') else none
      | _ => none
    | _, _ => none
  | .slice _ => match x, y with
    | .s _ _ _ _ _, .v (.slice none _ _) => some false
    | .v (.slice none _ _), .s _ _ _ _ _ => some false
    | _, _ => none
  | .map _ _ => match x, y with
    | .m _, .v (.map none) => some false
    | .v (.map none), .m _ => some false
    | _, _ => none
  | .func _ _ _ => match x, y with
    | .f _ _, .v .nilFunc => some false
    | .v .nilFunc, .f _ _ => some false
    | _, _ => none
  | .interface _ => match x, y with
    | .x _ _, .v .nilIface => some false
    | .v .nilIface, .x _ _ => some false
    | _, _ => none
  | _ => none
noncomputable def eqA (P : Program) (d : Nat) : TypeId → A → A → Option Bool := Nat.rec (motive := fun _ => TypeId → A → A → Option Bool) (fun _ _ _ => none)
  (fun _ ih t x y => match P.underlying t with
    | none => none
    | some td => eqTy P ih t td x y) d
theorem eqA_succ (P : Program) (d : Nat) (t : TypeId) (x y : A) : eqA P (d + 1) t x y = match P.underlying t with | none => none | some td => eqTy P (eqA P d) t td x y := rfl

theorem run_partH {t : TypeId} {sz : Nat} {ag : Bool} (hs : szB P t = some sz) (ha : agB P t = some ag) {cs : List A} {off : Nat} {a : A} (h : partH sz ag (cs.drop off) = some a) (w : World) :
    (part t (denL φ cs).toArray off).run P w = .ok (den φ a) w := by
  unfold partH at h
  cases ag with
  | true =>
    simp only at h
    cases hk : tk sz (cs.drop off) with
    | none => rw [hk] at h; cases h
    | some r =>
      rw [hk] at h; cases h
      obtain ⟨h1, h2⟩ := tk_spec _ _ _ hk
      simp only [part, Sem.run_bind, run_ag ha, run_sz hs, Result.andThen_ok, if_true]
      simp only [Sem.run_pure, den]
      congr 2
      simp [denL_map, h2, List.extract_eq_take_drop, Nat.add_sub_cancel_left]
  | false =>
    simp only at h
    rw [nt_eq, List.getElem?_drop, Nat.add_zero] at h
    simp only [part, Sem.run_bind, run_ag ha, Result.andThen_ok, Bool.false_eq_true, if_false]
    have : (denL φ cs).toArray[off]? = some (den φ a) := by simp [denL_map, h]
    simp [this]
theorem eqArr_len {ih : A → A → Option Bool} {sz : Nat} {ag : Bool} : ∀ (n : Nat) (xs ys : List A) (r : Bool), eqArr ih sz ag n xs ys = some r →
    ∃ f : Nat → Bool, r = (List.range n).all f ∧ ∀ i, i < n → ∃ a b, partH sz ag (xs.drop (i * sz)) = some a ∧ partH sz ag (ys.drop (i * sz)) = some b ∧ ih a b = some (f i)
  | 0, xs, ys, r, h => by
    have : some true = some r := h; cases this
    exact ⟨fun _ => true, by simp, fun i hi => absurd hi (Nat.not_lt_zero i)⟩
  | n + 1, xs, ys, r, h => by
    have h' : (match partH sz ag xs, partH sz ag ys with
      | some a, some b => match ih a b, eqArr ih sz ag n (dp sz xs) (dp sz ys) with
        | some s, some t => some (s && t)
        | _, _ => none
      | _, _ => none) = some r := h
    cases hx : partH sz ag xs with
    | none => simp [hx] at h'
    | some a =>
      cases hy : partH sz ag ys with
      | none => simp [hx, hy] at h'
      | some b =>
        cases hi : ih a b with
        | none => simp [hx, hy, hi] at h'
        | some s =>
          cases hr : eqArr ih sz ag n (dp sz xs) (dp sz ys) with
          | none => simp [hx, hy, hi, hr] at h'
          | some t =>
            simp [hx, hy, hi, hr] at h'
            obtain ⟨f, h1, h2⟩ := eqArr_len n _ _ t hr
            refine ⟨fun i => match i with | 0 => s | i + 1 => f i, ?_, fun i hi' => ?_⟩
            · rw [← h', h1, List.range_succ_eq_map]; simp [List.all_map, Function.comp_def]
            · cases i with
              | zero => exact ⟨a, b, by simpa using hx, by simpa using hy, hi⟩
              | succ i =>
                obtain ⟨c, d, h3, h4, h5⟩ := h2 i (by omega)
                rw [dp_eq] at h3 h4
                rw [List.drop_drop] at h3 h4
                exact ⟨c, d, by rw [show (i + 1) * sz = sz + i * sz by rw [Nat.add_mul, Nat.one_mul, Nat.add_comm]]; exact h3, by rw [show (i + 1) * sz = sz + i * sz by rw [Nat.add_mul, Nat.one_mul, Nat.add_comm]]; exact h4, h5⟩
end
end Go.V
namespace Go.V
open Go

section
variable {P : Program} {φ : Val} {ρ : Rd} {dst : Option Nat} {ty : TypeId} {pos : String} {af : Array Edge} {gu : Option (Nat × Bool)} {a : A} {n : Nat}

theorem run_eqFs {d : Nat} {ih : TypeId → A → A → Option Bool} (hih : ∀ t x y r w, ih t x y = some r → (Op.equalIn d t (den φ x) (den φ y)).run P w = .ok r w) (xs ys : List A) :
    ∀ (fs : List Field) (r : Bool) (w : World), eqFs P ih xs ys fs = some r → (Op.eqFields d (denL φ xs).toArray (denL φ ys).toArray fs).run P w = .ok r w
  | [], r, w, h => by have : some true = some r := h; cases this; rfl
  | f :: fs, r, w, h => by
    have h' : (match decide (f.name ≠ "_") with
      | true => match szB P f.type, agB P f.type with
        | some sz, some ag => match partH sz ag (dp f.offset xs), partH sz ag (dp f.offset ys) with
          | some a, some b => match ih f.type a b with
            | some true => eqFs P ih xs ys fs
            | some false => some false
            | none => none
          | _, _ => none
        | _, _ => none
      | false => eqFs P ih xs ys fs) = some r := h
    simp only [Op.eqFields]
    by_cases hn : f.name ≠ "_"
    · rw [if_pos hn]
      rw [decide_eq_true hn] at h'
      simp only at h'
      cases hs : szB P f.type with
      | none => simp [hs] at h'
      | some sz =>
        cases ha : agB P f.type with
        | none => simp [hs, ha] at h'
        | some ag =>
          cases hx : partH sz ag (dp f.offset xs) with
          | none => simp [hs, ha, hx] at h'
          | some a =>
            cases hy : partH sz ag (dp f.offset ys) with
            | none => simp [hs, ha, hx, hy] at h'
            | some b =>
              cases hi : ih f.type a b with
              | none => simp [hs, ha, hx, hy, hi] at h'
              | some t =>
                simp only [hs, ha, hx, hy, hi] at h'
                rw [dp_eq] at hx hy
                simp only [Sem.run_bind, run_partH hs ha hx, run_partH hs ha hy, Result.andThen_ok, hih _ _ _ _ _ hi]
                cases t with
                | false => cases h'; rfl
                | true => simpa using run_eqFs hih xs ys fs r w h'
    · rw [if_neg hn]
      rw [decide_eq_false hn] at h'
      exact run_eqFs hih xs ys fs r w h'

theorem run_eqA : ∀ (d : Nat) (t : TypeId) (x y : A) (r : Bool) (w : World), eqA P d t x y = some r → (Op.equalIn d t (den φ x) (den φ y)).run P w = .ok r w
  | 0, _, _, _, _, _, h => by have : (none : Option Bool) = some _ := h; cases this
  | d + 1, t, x, y, r, w, h => by
    have ih := run_eqA d
    cases hu : P.underlying t with
    | none => rw [eqA_succ, hu] at h; cases h
    | some td =>
      rw [eqA_succ, hu] at h
      simp only [eqTy] at h
      cases td with
      | bool =>
        simp only at h
        split at h
        · cases h; simp [Op.equalIn, run_underlying hu, den]
        · cases h
      | int k =>
        simp only at h
        split at h
        · rename_i k a k' b
          by_cases hk : k = k'
          · rw [decide_eq_true hk] at h; cases h
            simp [Op.equalIn, run_underlying hu, den, hk]
          · rw [decide_eq_false hk] at h; cases h
        · cases h
      | string =>
        simp only at h
        split at h
        · rename_i a b
          cases hb : (byt a && byt b) with
          | false => rw [hb] at h; cases h
          | true =>
            rw [hb] at h
            simp only [cond_true, Option.some.injEq] at h
            simp only [Bool.and_eq_true] at hb
            subst h
            simp only [Op.equalIn, Sem.run_bind, run_underlying hu, Result.andThen_ok, den, Sem.run_pure]
            rw [beq_toListBytes]
            show Result.ok ((strV a).toList == (strV b).toList) w = _
            rw [strV_beq hb.1 hb.2]
        · cases h
      | array n e =>
        simp only at h
        split at h
        · rename_i xs ys
          cases hs : szB P e with
          | none => simp [hs] at h
          | some sz =>
            cases ha : agB P e with
            | none => simp [hs, ha] at h
            | some ag =>
              simp only [hs, ha] at h
              obtain ⟨f, h1, h2⟩ := eqArr_len n xs ys r h
              rw [h1]
              simp only [den]
              refine G.run_equalIn_array d hu (fun w => run_sz hs) _ _ f (fun i w hi => ?_) w
              obtain ⟨a, b, h3, h4, h5⟩ := h2 i hi
              exact ⟨_, _, run_partH hs ha h3 w, run_partH hs ha h4 w, ih _ _ _ _ w h5⟩
        · cases h
      | struct fs =>
        simp only at h
        split at h
        · rename_i xs ys
          cases hst : P.stoodInHeld t with
          | true => simp [hst] at h
          | false =>
            simp only [hst] at h
            have hf : P.fieldsOf t = fs := by simp [Program.fieldsOf, hu]
            simp only [den]
            rw [run_equalIn_struct w d t _ _ (by rw [hu, hf]) hst, hf]
            exact run_eqFs (fun t x y r w h => ih t x y r w h) xs ys _ r w h
        · cases h
      | pointer e =>
        simp only at h
        split at h
        · cases h; simp [Op.equalIn, run_underlying hu, den]
        · cases h; simp [Op.equalIn, run_underlying hu, den]
        · rename_i l o l' o'
          cases hs : szB P e with
          | none => simp [hs] at h
          | some sz =>
            cases sz with
            | zero => simp [hs] at h
            | succ sz =>
              simp only [hs] at h
              cases hl : Nat.beq l l' with
              | false => simp [hl] at h
              | true =>
                simp only [hl, cond_true, Option.some.injEq] at h
                have hll := Nat.eq_of_beq_eq_true hl
                subst hll
                simp only [Op.equalIn, Sem.run_bind, run_underlying hu, Result.andThen_ok, den, run_sz hs]
                simp only [ne_eq, Nat.add_one_ne_zero, not_false_eq_true, if_true, sameAddr, beq_self_eq_true]
                rw [← h]
                show Result.ok _ w = Result.ok _ w
                congr 1
                rw [Bool.eq_iff_iff]
                simp
        · cases h
      | slice e =>
        simp only at h
        split at h
        · cases h; simp [Op.equalIn, run_underlying hu, den]
        · cases h; simp [Op.equalIn, run_underlying hu, den]
        · cases h
      | map k e =>
        simp only at h
        split at h
        · cases h; simp [Op.equalIn, run_underlying hu, den]
        · cases h; simp [Op.equalIn, run_underlying hu, den]
        · cases h
      | func p q r =>
        simp only at h
        split at h
        · cases h; simp [Op.equalIn, run_underlying hu, den]
        · cases h; simp [Op.equalIn, run_underlying hu, den]
        · cases h
      | interface ms =>
        simp only at h
        split at h
        · cases h; simp [Op.equalIn, run_underlying hu, den]
        · cases h; simp [Op.equalIn, run_underlying hu, den]
        · cases h
      | _ => simp at h
end
end Go.V
namespace Go.V
open Go

/-! ### Operations on two values -/
noncomputable def cloB (P : Program) (op : BinOp) (t : TypeId) (x y : Operand) (a b : A) : Option A :=
  match toV a with
  | some u => match toV b with
    | some v => match pR P (do eqGuard op t x y u v; binOp op t u v) with
      | some r => fA (ofV r) some
      | none => none
    | none => none
  | none => none
noncomputable def eqB (P : Program) (op : BinOp) (t : TypeId) (a b : A) : Option A := match op with
  | .eql => match eqA P 10000 t a b with | some r => fB r fun r => some (.b r) | none => none
  | .neq => match eqA P 10000 t a b with | some r => fB (!r) fun r => some (.b r) | none => none
  | _ => none
noncomputable def binA (P : Program) (op : BinOp) (t : TypeId) (x y : Operand) (a b : A) : Option A :=
  match a, b with
  | .i k m, .i k' n => match decide (k = k') with
    | true => match intA op k m n with
      | some r => some r
      | none => cloB P op t x y (.i k m) (.i k' n)
    | false => cloB P op t x y (.i k m) (.i k' n)
  | .str m, .str n => strA op m n
  | .g xs, .g ys => match P.eqGuardType P.depth t with
    | false => eqB P op t (.g xs) (.g ys)
    | true => none
  | .v x', b => match b with
    | .p l o => eqB P op t (.v x') (.p l o)
    | .s l o n k c => eqB P op t (.v x') (.s l o n k c)
    | .m l => eqB P op t (.v x') (.m l)
    | .f g cs => eqB P op t (.v x') (.f g cs)
    | .x u c => eqB P op t (.v x') (.x u c)
    | b => cloB P op t x y (.v x') b
  | .p l o, b => eqB P op t (.p l o) b
  | .s l o n k c, b => eqB P op t (.s l o n k c) b
  | .m l, b => eqB P op t (.m l) b
  | .f g cs, b => eqB P op t (.f g cs) b
  | .x u c, b => eqB P op t (.x u c) b
  | a, b => cloB P op t x y a b

section
variable {P : Program} {φ : Val} {a : A} {n : Nat}
/-- The run of an operation on two values. -/
abbrev rB (P : Program) (op : BinOp) (t : TypeId) (x y : Operand) (u v : Value) (w : World) : Result Value := (do eqGuard op t x y u v; binOp op t u v : Sem Value).run P w

theorem cloB_run {op : BinOp} {t : TypeId} {x y : Operand} {a b r : A} (h : cloB P op t x y a b = some r) (w : World) : rB P op t x y (den φ a) (den φ b) w = .ok (den φ r) w := by
  unfold cloB at h
  split at h
  · rename_i u hu
    split at h
    · rename_i v hv
      split at h
      · rename_i z hz
        rw [fA_eq] at h
        cases h
        rw [toV_den φ hu, toV_den φ hv, den_ofV]
        exact pR_run hz w
      · cases h
    · cases h
  · cases h
theorem cloB_below {op : BinOp} {t : TypeId} {x y : Operand} {a b r : A} (h : cloB P op t x y a b = some r) (n : Nat) : below n r := by
  unfold cloB at h
  split at h
  · split at h
    · split at h
      · rw [fA_eq] at h; cases h; exact below_ofV _ _
      · cases h
    · cases h
  · cases h
theorem eqB_b {op : BinOp} {t : TypeId} {a b r : A} (h : eqB P op t a b = some r) : ∃ q, eqA P 10000 t a b = some q ∧ ((op = .eql ∧ r = .b q) ∨ (op = .neq ∧ r = .b (!q))) := by
  unfold eqB at h
  split at h
  · split at h
    · rename_i q hq
      rw [fB_eq] at h; cases h
      exact ⟨q, hq, .inl ⟨rfl, rfl⟩⟩
    · cases h
  · split at h
    · rename_i q hq
      rw [fB_eq] at h; cases h
      exact ⟨q, hq, .inr ⟨rfl, rfl⟩⟩
    · cases h
  · cases h
theorem eqB_below {op : BinOp} {t : TypeId} {a b r : A} (h : eqB P op t a b = some r) (n : Nat) : below n r := by
  obtain ⟨q, _, ⟨_, rfl⟩ | ⟨_, rfl⟩⟩ := eqB_b h <;> trivial
/-- Both values go by the plain equality. -/
def plainEq (u v : Value) : Prop := ∀ (t : TypeId), binOp .eql t u v = (do pure (.bool (← Op.equal t u v))) ∧ binOp .neq t u v = (do pure (.bool (!(← Op.equal t u v))))
theorem eqB_run {op : BinOp} {t : TypeId} {x y : Operand} {a b r : A} (h : eqB P op t a b = some r) (w : World) (hg : (eqGuard op t x y (den φ a) (den φ b)).run P w = .ok () w) (hp : plainEq (den φ a) (den φ b)) :
    rB P op t x y (den φ a) (den φ b) w = .ok (den φ r) w := by
  obtain ⟨q, hq, ⟨rfl, rfl⟩ | ⟨rfl, rfl⟩⟩ := eqB_b h
  · have h1 := run_eqA (φ := φ) 10000 t a b q w hq
    simp only [rB, Sem.run_bind, hg, Result.andThen_ok, (hp t).1]
    show ((Op.equalIn 10000 t (den φ a) (den φ b)).run P w).andThen _ = _
    rw [h1]; rfl
  · have h1 := run_eqA (φ := φ) 10000 t a b q w hq
    simp only [rB, Sem.run_bind, hg, Result.andThen_ok, (hp t).2]
    show ((Op.equalIn 10000 t (den φ a) (den φ b)).run P w).andThen _ = _
    rw [h1]; rfl

/-- A value that goes by the plain equality, whatever the other one is. -/
def refd : Value → Bool
  | .pointer _ | .slice _ _ _ | .map _ | .func _ _ _ | .iface _ _ => true
  | _ => false
theorem plainEq_left {u v : Value} (h : refd u = true) : plainEq u v := fun t => by
  cases u <;> first | exact absurd h Bool.false_ne_true | (cases v <;> exact ⟨rfl, rfl⟩)
theorem plainEq_right {u v : Value} (h : refd v = true) : plainEq u v := fun t => by
  cases v <;> first | exact absurd h Bool.false_ne_true | (cases u <;> exact ⟨rfl, rfl⟩)
theorem guard_left {op : BinOp} {t : TypeId} {x y : Operand} {u v : Value} (h : refd u = true) (w : World) : (eqGuard op t x y u v).run P w = .ok () w := by
  cases u <;> first | exact absurd h Bool.false_ne_true | (cases op <;> (first | rfl | (cases v <;> rfl)))
theorem guard_right {op : BinOp} {t : TypeId} {x y : Operand} {u v : Value} (h : refd v = true) (w : World) : (eqGuard op t x y u v).run P w = .ok () w := by
  cases v <;> first | exact absurd h Bool.false_ne_true | (cases op <;> (first | rfl | (cases u <;> rfl)))
theorem eqB_left {op : BinOp} {t : TypeId} {x y : Operand} {a b r : A} (h : eqB P op t a b = some r) (ha : refd (den φ a) = true) (w : World) : rB P op t x y (den φ a) (den φ b) w = .ok (den φ r) w :=
  eqB_run h w (guard_left ha w) (plainEq_left ha)
theorem eqB_right {op : BinOp} {t : TypeId} {x y : Operand} {a b r : A} (h : eqB P op t a b = some r) (hb : refd (den φ b) = true) (w : World) : rB P op t x y (den φ a) (den φ b) w = .ok (den φ r) w :=
  eqB_run h w (guard_right hb w) (plainEq_right hb)
theorem bif_some {α : Type} {c : Bool} {a r : α} (h : (bif c then some a else none) = some r) : c = true ∧ r = a := by
  cases c with
  | false => cases h
  | true => cases h; exact ⟨rfl, rfl⟩
theorem intA_run {op : BinOp} {t : TypeId} {x y : Operand} {k : IntKind} {m n : Int} {r : A} (h : intA op k m n = some r) (w : World) : rB P op t x y (.int k m) (.int k n) w = .ok (den φ r) w := by
  unfold intA at h
  cases op <;> simp only [fI_eq, fB_eq, wrapF_eq, Option.some.injEq] at h <;> first | (subst h; simp [rB, eqGuard, binOp, Op.intArith, Op.intCmp, den]) | cases h
theorem strA_run {op : BinOp} {t : TypeId} {x y : Operand} {m n : List Nat} {r : A} (h : strA op m n = some r) (w : World) : rB P op t x y (.string (strV m)) (.string (strV n)) w = .ok (den φ r) w := by
  unfold strA at h
  cases op <;> simp only at h <;> try cases h
  case add =>
    cases hb : Nat.ble (lnN m + lnN n) 4294967296 with
    | false => rw [hb] at h; cases h
    | true =>
      rw [hb] at h
      simp only [cond_true, apN_eq, Option.some.injEq] at h
      subst h
      have hle : m.length + n.length ≤ 4294967296 := by simpa [lnN_eq] using hb
      have hsz : ∀ l : List Nat, (strV l).size = l.length := fun l => by simp [strV, ByteArray.size]
      have h1 := run_string_add_sum (P := P) w (strV m) (strV n) (by rw [hsz, hsz]; omega)
      simp only [rB, Sem.run_bind, eqGuard_add, Sem.run_pure, Result.andThen_ok, binOp_string_add, h1, den]
      rw [strV_append]
  case eql =>
    cases hb : (byt m && byt n) with
    | false => rw [hb] at h; cases h
    | true =>
      rw [hb] at h
      simp only [cond_true, fB_eq, Option.some.injEq] at h
      simp only [Bool.and_eq_true] at hb
      subst h
      simp only [rB, Sem.run_bind, eqGuard_at_string, Sem.run_pure, Result.andThen_ok, binOp_string_eql, strV_beq hb.1 hb.2, den]
  case neq =>
    cases hb : (byt m && byt n) with
    | false => rw [hb] at h; cases h
    | true =>
      rw [hb] at h
      simp only [cond_true, fB_eq, Option.some.injEq] at h
      simp only [Bool.and_eq_true] at hb
      subst h
      simp only [rB, Sem.run_bind, eqGuard_at_string, Sem.run_pure, Result.andThen_ok, binOp_string_neq, strV_beq hb.1 hb.2, den]

theorem intA_below {op : BinOp} {k : IntKind} {m n : Int} {r : A} (h : intA op k m n = some r) (j : Nat) : below j r := by
  unfold intA at h
  cases op <;> simp only [fI_eq, fB_eq, Option.some.injEq] at h <;> first | (subst h; trivial) | cases h
theorem strA_below {op : BinOp} {m n : List Nat} {r : A} (h : strA op m n = some r) (j : Nat) : below j r := by
  unfold strA at h
  cases op <;> simp only [fB_eq, apN_eq] at h <;> try cases h
  all_goals
    obtain ⟨_, rfl⟩ := bif_some h
    trivial

theorem binA_run {op : BinOp} {t : TypeId} {x y : Operand} {a b r : A} (h : binA P op t x y a b = some r) (w : World) : rB P op t x y (den φ a) (den φ b) w = .ok (den φ r) w := by
  unfold binA at h
  split at h
  · rename_i k m k' n
    split at h
    · rename_i hk
      have hk' := of_decide_eq_true hk
      subst hk'
      split at h
      · rename_i q hq; cases h; exact intA_run hq w
      · exact cloB_run h w
    · exact cloB_run h w
  · exact strA_run h w
  · rename_i xs ys
    split at h
    · rename_i hg
      exact eqB_run h w (run_eqGuard_agg w op t x y _ _ hg) (fun t => ⟨rfl, rfl⟩)
    · cases h
  · split at h
    · exact eqB_right h rfl w
    · exact eqB_right h rfl w
    · exact eqB_right h rfl w
    · exact eqB_right h rfl w
    · exact eqB_right h rfl w
    · exact cloB_run h w
  · exact eqB_left h rfl w
  · exact eqB_left h rfl w
  · exact eqB_left h rfl w
  · exact eqB_left h rfl w
  · exact eqB_left h rfl w
  · exact cloB_run h w
theorem binA_below {op : BinOp} {t : TypeId} {x y : Operand} {a b r : A} (h : binA P op t x y a b = some r) (j : Nat) : below j r := by
  unfold binA at h
  split at h
  · split at h
    · split at h
      · rename_i q hq; cases h; exact intA_below hq j
      · exact cloB_below h j
    · exact cloB_below h j
  · exact strA_below h j
  · split at h
    · exact eqB_below h j
    · cases h
  · split at h <;> first | exact eqB_below h j | exact cloB_below h j
  · exact eqB_below h j
  · exact eqB_below h j
  · exact eqB_below h j
  · exact eqB_below h j
  · exact eqB_below h j
  · exact cloB_below h j
end
end Go.V
namespace Go.V
open Go

/-! ### Cells in memory -/
theorem okO_cell {φ : Val} {l : Nat} {T : TypeId} {ro : Bool} {g : Nat} {cs : List A} {w : World} (h : okO φ l (.c T ro g cs) w) {i : Nat} {a : A} (hi : cs[i]? = some a) :
    w.cell? ⟨(φ l).blk, (φ l).base + i, none⟩ = some (den φ a) := by
  obtain ⟨pre, post, f, h1, h2, _⟩ := h
  have hlt := (List.getElem?_eq_some_iff.1 hi).1
  simp only [World.cell?, h1, Option.isSome_none, Bool.false_eq_true, if_false, List.getElem?_toArray]
  rw [List.append_assoc, List.getElem?_append_right (by omega), ← h2, Nat.add_sub_cancel_left, List.getElem?_append_left (by rw [denL_length]; exact hlt), denL_map, List.getElem?_map, hi]; rfl
theorem run_cells {P : Program} {φ : Val} {l : Nat} {T : TypeId} {ro : Bool} {g : Nat} {cs : List A} {w : World} (h : okO φ l (.c T ro g cs) w) {o n : Nat} {r : List A} (hr : tk n (dp o cs) = some r) :
    (loadCells ⟨(φ l).blk, (φ l).base + o, none⟩ n).run P w = .ok (denL φ r).toArray w := by
  obtain ⟨h1, h2⟩ := tk_spec _ _ _ hr
  rw [dp_eq] at h1 h2
  have hl : n = (denL φ r).length := by rw [denL_length, h2, List.length_take, Nat.min_eq_left h1]
  rw [hl]
  refine run_loadCells_list w _ _ fun j v hj => ?_
  rw [denL_map, List.getElem?_map, h2, List.getElem?_take] at hj
  rw [Addr.add_mid]
  split at hj
  · rw [List.getElem?_drop] at hj
    cases hc : cs[o + j]? with
    | none => rw [hc] at hj; cases hj
    | some a =>
      rw [hc] at hj; cases hj
      rw [Nat.add_assoc]
      exact okO_cell h hc
  · cases hj

/-- What lies at a place. -/
noncomputable def ob (s : S) (l : Nat) : Option O := s.h.get (pth l)

noncomputable def ldA (P : Program) (t : TypeId) (s : S) (a : A) : Option A := match a with
  | .p l o => match ob s l with
    | some (.c _ _ _ cs) => match agB P t with
      | some true => match szB P t with
        | some n => match tk n (dp o cs) with | some r => some (.g r) | none => none
        | none => none
      | some false => nt o cs
      | none => none
    | _ => none
  | _ => none

section
variable {P : Program} {φ : Val} {s : S} {w : World} {a r : A}
theorem Rel.has (R : Rel φ s w) {l : Nat} {o : O} (hl : l < s.n) (h : ob s l = some o) : okO φ l o w := R.at hl h
theorem Rel.bl (R : Rel φ s w) {l : Nat} {o : O} (hl : l < s.n) (h : ob s l = some o) : o.bl s.n := (R.lt _ _ h).2
theorem belowL_take {n : Nat} {cs : List A} (h : belowL n cs) (k : Nat) : belowL n (cs.take k) := belowL_iff.2 fun a ha => belowL_iff.1 h a (List.mem_of_mem_take ha)
theorem belowL_drop {n : Nat} {cs : List A} (h : belowL n cs) (k : Nat) : belowL n (cs.drop k) := belowL_iff.2 fun a ha => belowL_iff.1 h a (List.mem_of_mem_drop ha)
theorem belowL_tk {n k : Nat} {cs r : List A} (h : belowL n cs) (hr : tk k cs = some r) : belowL n r := by rw [(tk_spec _ _ _ hr).2]; exact belowL_take h k
theorem below_nt {n k : Nat} {cs : List A} {r : A} (h : belowL n cs) (hr : nt k cs = some r) : below n r := by rw [nt_eq] at hr; exact belowL_iff.1 h r (List.mem_of_getElem? hr)
theorem belowL_dp {n k : Nat} {cs : List A} (h : belowL n cs) : belowL n (dp k cs) := by rw [dp_eq]; exact belowL_drop h k
theorem belowL_append {n : Nat} {a b : List A} (ha : belowL n a) (hb : belowL n b) : belowL n (a ++ b) := belowL_iff.2 fun x hx => by
  rcases List.mem_append.1 hx with h | h
  · exact belowL_iff.1 ha x h
  · exact belowL_iff.1 hb x h

theorem ldA_run {t : TypeId} (h : ldA P t s a = some r) (R : Rel φ s w) (ha : below s.n a) : (Instr.loadAt t (den φ a)).run P w = .ok (den φ r) w ∧ below s.n r := by
  unfold ldA at h
  split at h
  · rename_i l o
    split at h
    · rename_i T ro g cs hob
      have hok := R.has ha hob
      have hbl : belowL s.n cs := R.bl ha hob
      split at h
      · rename_i hag
        split at h
        · rename_i n hs
          split at h
          · rename_i q hq
            cases h
            refine ⟨?_, belowL_tk (belowL_dp hbl) hq⟩
            simp only [Instr.loadAt, Instr.sureAddr, den, Sem.run_bind, Sem.run_pure, Result.andThen_ok, loadVar, run_ag hag, if_true, run_sz hs, run_cells hok hq]
          · cases h
        · cases h
      · rename_i hag
        refine ⟨?_, below_nt hbl h⟩
        rw [nt_eq] at h
        simp only [Instr.loadAt, Instr.sureAddr, den, Sem.run_bind, Sem.run_pure, Result.andThen_ok, loadVar, run_ag hag, Bool.false_eq_true, if_false]
        simp [load, Sem.run, okO_cell hok h]
      · cases h
    · cases h
  · cases h
end

/-! ### Places -/
noncomputable def fldB (P : Program) (t : TypeId) (f : Nat) : Option Nat := match P.underlying t with
  | some (.struct fs) => match fs[f]? with
    | some fd => match szB P fd.type with
      | some (_ + 1) => some fd.offset
      | _ => none
    | none => none
  | _ => none
noncomputable def fldA (P : Program) (t : TypeId) (f : Nat) (a : A) : Option A := match a with
  | .p l o => match fldB P t f with
    | some k => fN (o + k) fun o => some (.p l o)
    | none => none
  | _ => none
noncomputable def natA (a : A) : Option Nat := match a with
  | .i _ (.ofNat n) => some n
  | _ => none
noncomputable def ixaA (P : Program) (t : TypeId) (x i : A) : Option A := match natA i with
  | some i => match P.underlying t with
    | some d => match d with
      | .array n e => match x with
        | .p l o => match szB P e with
          | some sz => bif Nat.blt i n then fN (o + i * sz) fun o => some (.p l o) else none
          | none => none
        | _ => none
      | .slice e => match x with
        | .s l o n _ _ => match szB P e with
          | some sz => bif Nat.blt i n then fN (o + i * sz) fun o => some (.p l o) else none
          | none => none
        | _ => none
      | _ => none
    | none => none
  | none => none
section
variable {P : Program} {φ : Val} {s : S} {w : World} {a x r : A} {t : TypeId}
theorem add_den (φ : Val) (l o k : Nat) : (⟨(φ l).blk, (φ l).base + o, none⟩ : Addr).add k = ⟨(φ l).blk, (φ l).base + (o + k), none⟩ := by rw [Addr.add_mid, Nat.add_assoc]
theorem fldA_run {f : Nat} (h : fldA P t f a = some r) : (Instr.fieldAt t (den φ a) f).run P w = .ok (den φ r) w ∧ ∀ n, below n a → below n r := by
  unfold fldA at h
  split at h
  · rename_i l o
    split at h
    · rename_i k hk
      rw [fN_eq] at h; cases h
      refine ⟨?_, fun n hb => hb⟩
      unfold fldB at hk
      split at hk
      · rename_i fs hu
        split at hk
        · rename_i fd hf
          split at hk
          · rename_i sz hs
            cases hk
            simp only [Instr.fieldAt, Sem.run_bind, run_underlying hu, Result.andThen_ok, hf, den, Instr.sureAddr, Sem.run_pure, fieldPlace, run_sz hs]
            simp only [Nat.add_one_ne_zero, if_false, Sem.run_pure, Result.andThen_ok, add_den]
          · cases hk
        · cases hk
      · cases hk
    · cases h
  · cases h
theorem natA_den {i : A} {n : Nat} (h : natA i = some n) : ∃ k, i = .i k (n : Int) := by
  unfold natA at h
  split at h
  · cases h; exact ⟨_, rfl⟩
  · cases h
theorem bif_some' {α : Type} {c : Bool} {a : Option α} {r : α} (h : (bif c then a else none) = some r) : c = true ∧ a = some r := by
  cases c with
  | false => cases h
  | true => exact ⟨rfl, h⟩
theorem ixaA_run {i : A} (h : ixaA P t x i = some r) : (Instr.indexAt t (den φ x) (den φ i)).run P w = .ok (den φ r) w ∧ ∀ n, below n x → below n r := by
  unfold ixaA at h
  split at h
  · rename_i i hi
    obtain ⟨k, rfl⟩ := natA_den hi
    split at h
    · rename_i d hu
      split at h
      · rename_i n e
        split at h
        · rename_i l o
          split at h
          · rename_i sz hs
            obtain ⟨h1, h2⟩ := bif_some' h
            rw [fN_eq] at h2; cases h2
            refine ⟨?_, fun n hb => hb⟩
            have hlt : i < n := by simpa [Nat.blt_eq] using h1
            have hc : (0 : Int) ≤ (i : Int) ∧ (i : Int) < (n : Int) := by omega
            simp only [Instr.indexAt, den, asIntOf, Sem.run_bind, Sem.run_pure, Result.andThen_ok, run_underlying hu, Instr.sureAddr, hc, and_self, if_true, run_sz hs, Int.toNat_natCast, add_den]
          · cases h
        · cases h
      · rename_i e
        split at h
        · rename_i l o n kk c
          split at h
          · rename_i sz hs
            obtain ⟨h1, h2⟩ := bif_some' h
            rw [fN_eq] at h2; cases h2
            refine ⟨?_, fun n hb => hb⟩
            have hlt : i < n := by simpa [Nat.blt_eq] using h1
            have hc : (0 : Int) ≤ (i : Int) ∧ (i : Int) < (n : Int) := by omega
            simp only [Instr.indexAt, den, asIntOf, Sem.run_bind, Sem.run_pure, Result.andThen_ok, run_underlying hu, hc, and_self, if_true, run_sz hs, Int.toNat_natCast, add_den]
          · cases h
        · cases h
      · cases h
    · cases h
  · cases h
end
end Go.V
namespace Go.V
open Go

noncomputable def ntN (n : Nat) : List Nat → Option Nat := Nat.rec (motive := fun _ => List Nat → Option Nat) (fun l => match l with | [] => none | a :: _ => some a)
  (fun _ ih l => match l with | [] => none | _ :: l => ih l) n
noncomputable def dpN (n : Nat) : List Nat → List Nat := Nat.rec (motive := fun _ => List Nat → List Nat) (fun l => l)
  (fun _ ih l => match l with | [] => [] | _ :: l => ih l) n
noncomputable def tkN (n : Nat) : List Nat → Option (List Nat) := Nat.rec (motive := fun _ => List Nat → Option (List Nat)) (fun _ => some [])
  (fun _ ih l => match l with | [] => none | a :: l => match ih l with | some r => some (a :: r) | none => none) n
theorem ntN_eq : ∀ (n : Nat) (l : List Nat), ntN n l = l[n]?
  | 0, [] => rfl
  | 0, _ :: _ => rfl
  | n + 1, [] => rfl
  | n + 1, _ :: l => by rw [List.getElem?_cons_succ, ← ntN_eq n l]; rfl
theorem dpN_eq : ∀ (n : Nat) (l : List Nat), dpN n l = l.drop n
  | 0, l => by simp; rfl
  | n + 1, [] => rfl
  | n + 1, _ :: l => by rw [List.drop_succ_cons, ← dpN_eq n l]; rfl
theorem tkN_spec : ∀ (n : Nat) (l r : List Nat), tkN n l = some r → n ≤ l.length ∧ r = l.take n
  | 0, l, r, h => by have : some ([] : List Nat) = some r := h; cases this; simp
  | n + 1, [], r, h => by have : (none : Option (List Nat)) = some r := h; cases this
  | n + 1, a :: l, r, h => by
    have h' : (match tkN n l with | some r => some (a :: r) | none => none) = some r := h
    cases hk : tkN n l with
    | none => rw [hk] at h'; cases h'
    | some q =>
      rw [hk] at h'; cases h'
      obtain ⟨h1, h2⟩ := tkN_spec n l q hk
      exact ⟨by simp; omega, by simp [h2]⟩

/-! ### Parts of values -/
noncomputable def idxA (P : Program) (t : TypeId) (x i : A) : Option A := match natA i with
  | some i => match P.underlying t with
    | some d => match d with
      | .string => match x with
        | .str l => match ntN i l with
          | some b => fN (Nat.mod b 256) fun b => some (.i .u8 (.ofNat b))
          | none => none
        | _ => none
      | .array n e => match x with
        | .g xs => match szB P e with
          | some sz => match agB P e with
            | some ag => bif Nat.blt i n then partH sz ag (dp (i * sz) xs) else none
            | none => none
          | none => none
        | _ => none
      | _ => none
    | none => none
  | none => none
noncomputable def fieA (P : Program) (t : TypeId) (f : Nat) (x : A) : Option A := match P.underlying t with
  | some (.struct fs) => match fs[f]? with
    | some fd => match szB P fd.type with
      | some sz => match agB P fd.type with
        | some ag => match x with
          | .g xs => partH sz ag (dp fd.offset xs)
          | _ => none
        | none => none
      | none => none
    | none => none
  | _ => none
section
variable {P : Program} {φ : Val} {s : S} {w : World} {a x r : A} {t : TypeId}
theorem below_partH {n sz : Nat} {ag : Bool} {xs : List A} (hb : belowL n xs) (h : partH sz ag xs = some r) : below n r := by
  unfold partH at h
  split at h
  · split at h
    · rename_i q hq; cases h; exact belowL_tk hb hq
    · cases h
  · exact below_nt hb h
theorem idxA_run {i : A} (h : idxA P t x i = some r) : (Instr.index t (den φ x) (den φ i)).run P w = .ok (den φ r) w ∧ ∀ n, below n x → below n r := by
  unfold idxA at h
  split at h
  · rename_i i hi
    obtain ⟨k, rfl⟩ := natA_den hi
    split at h
    · rename_i d hu
      split at h
      · split at h
        · rename_i l
          split at h
          · rename_i b hb
            rw [fN_eq] at h; cases h
            refine ⟨?_, fun _ _ => trivial⟩
            rw [ntN_eq] at hb
            have hg : (strV l)[i]? = some (UInt8.ofNat b) := by
              have h1 : (strV l)[i]? = (strV l).data[i]? := rfl
              rw [h1]; simp [hb]
            simp only [Instr.index, den, asIntOf, Sem.run_bind, Sem.run_pure, Result.andThen_ok, run_underlying hu]
            have h0 : (0 : Int) ≤ (i : Int) := by omega
            simp only [h0, if_true, Int.toNat_natCast, hg, Sem.run_pure]
            congr 2
          · cases h
        · cases h
      · rename_i n e
        split at h
        · rename_i xs
          split at h
          · rename_i sz hs
            split at h
            · rename_i ag hag
              obtain ⟨h1, h2⟩ := bif_some' h
              have hlt : i < n := by simpa [Nat.blt_eq] using h1
              have hc : (0 : Int) ≤ (i : Int) ∧ (i : Int) < (n : Int) := by omega
              refine ⟨?_, fun m hb => below_partH (belowL_dp hb) h2⟩
              rw [dp_eq] at h2
              simp only [Instr.index, den, asIntOf, Sem.run_bind, Sem.run_pure, Result.andThen_ok, run_underlying hu, hc, and_self, if_true, run_sz hs, Int.toNat_natCast, run_partH hs hag h2]
            · cases h
          · cases h
        · cases h
      · cases h
    · cases h
  · cases h
theorem fieA_run {f : Nat} (h : fieA P t f x = some r) : (Instr.field t (den φ x) f).run P w = .ok (den φ r) w ∧ ∀ n, below n x → below n r := by
  unfold fieA at h
  split at h
  · rename_i fs hu
    split at h
    · rename_i fd hf
      split at h
      · rename_i sz hs
        split at h
        · rename_i ag hag
          split at h
          · rename_i xs
            refine ⟨?_, fun m hb => below_partH (belowL_dp hb) h⟩
            rw [dp_eq] at h
            simp only [Instr.field, Sem.run_bind, run_underlying hu, Result.andThen_ok, hf, den, asAgg, Sem.run_pure, run_partH hs hag h]
          · cases h
        · cases h
      · cases h
    · cases h
  · cases h
end

/-! ### Slices of slices -/
noncomputable def optN (ρ : Rd) (x : Option Operand) : Option (Option Nat) := match x with
  | none => some none
  | some x => match natA (ρ x) with
    | some n => some (some n)
    | none => none
/-- The slice lies in what is known of its block: its length fits its capacity. -/
noncomputable def fitS (s : S) (l o n c : Nat) : Bool := match ob s l with
  | some (.c _ _ g cs) => bif Nat.blt 0 g then bif Nat.beq o (c * g) then Nat.ble ((c + n) * g) (lnA cs) else false else false
  | _ => false
theorem fitS_spec {φ : Val} {s : S} {w : World} {l o n c : Nat} (R : Rel φ s w) (hl : l < s.n) (h : fitS s l o n c = true) : c + n ≤ (φ l).cap := by
  unfold fitS at h
  split at h
  · rename_i T ro g cs hob
    cases h1 : Nat.blt 0 g with
    | false => rw [h1] at h; cases h
    | true =>
      rw [h1] at h
      cases h2 : Nat.beq o (c * g) with
      | false => rw [h2] at h; cases h
      | true =>
        rw [h2] at h
        simp only [cond_true, Nat.ble_eq, lnA_eq] at h
        have hg : 0 < g := by simpa [Nat.blt_eq] using h1
        obtain ⟨_, _, _, _, _, _, _, h5⟩ := R.has hl hob
        have := Nat.le_trans h (h5 hg).1
        exact Nat.le_of_mul_le_mul_right this hg
  · cases h
def hiB (hi : Option Nat) (f : Nat → Bool) : Bool := match hi with | none => true | some h => f h
noncomputable def slS (P : Program) (s : S) (e : TypeId) (l o n : Nat) (k : Bool) (c : Nat) (lo hi mx : Option Nat) : Option A := match szB P e with
  | none => none
  | some sz => match mx with
    | some m => match hi with
      | none => none
      | some h => match lo with
        | none => none
        | some b => bif Nat.ble h m && Nat.ble b h && (match k with | true => Nat.ble m c | false => Nat.ble m n && fitS s l o n c) then
            fN (h - b) fun n' => fN (m - b) fun c' => bif Nat.beq m b then some (.s l o n' true c') else fN (o + b * sz) fun o' => some (.s l o' n' true c')
          else none
    | none =>
      let b := lo.getD 0
      let h := hi.getD n
      bif Nat.ble b h then
        match k with
        | true => bif hiB hi (fun h => Nat.ble h c) then
            fN (h - b) fun n' => fN (c - b) fun c' => bif Nat.beq c b then some (.s l o n' true c') else fN (o + b * sz) fun o' => some (.s l o' n' true c')
          else none
        | false => bif hiB hi (fun h => Nat.beq h 0 || Nat.ble h n && fitS s l o n c) then
            bif Nat.beq b 0 then fN h fun n' => some (.s l o n' false c)
            else bif Nat.blt b n && fitS s l o n c then fN (h - b) fun n' => fN (c + b) fun c' => fN (o + b * sz) fun o' => some (.s l o' n' false c') else none
          else none
      else none
def oI (x : Option Nat) (k : Nat → IntKind) : Option Value := x.map fun n => .int (k n) (n : Int)
/-- The bounds that are given. -/
def isB (v : Option Value) (x : Option Nat) : Prop := match v, x with
  | none, none => True
  | some (.int _ i), some n => i = (n : Int)
  | _, _ => False
theorem run_sliceBound' {P : Program} {w : World} {v : Value} {n y : Nat} {code : BoundsCode} (hv : isB (some v) (some n)) (h : n ≤ y) : (Instr.sliceBound v y code).run P w = .ok n w := by
  cases v <;> simp only [isB] at hv
  subst hv
  have : (0 : Int) ≤ (n : Int) ∧ (n : Int) ≤ (y : Int) := by omega
  simp [Instr.sliceBound, asIntOf, this]
def hiOk (hi : Option Nat) (c : Nat) : Prop := match hi with | none => True | some h => h ≤ c
theorem run_bounds2 {P : Program} {w : World} {isS : Bool} {len cap : Nat} {lv hv : Option Value} {lo hi : Option Nat} (h1 : isB lv lo) (h2 : isB hv hi) (hh : hiOk hi cap) (hl : lo.getD 0 ≤ hi.getD len) :
    (Instr.sliceBounds isS len cap lv hv none).run P w = .ok (lo.getD 0, hi.getD len, cap) w := by
  cases lo with
  | none =>
    cases lv with
    | some v => simp [isB] at h1
    | none =>
      cases hi with
      | none =>
        cases hv with
        | some v => simp [isB] at h2
        | none => simp [Instr.sliceBounds]
      | some h =>
        cases hv with
        | none => simp [isB] at h2
        | some v => simp [Instr.sliceBounds, run_sliceBound' h2 hh]
  | some b =>
    cases lv with
    | none => simp [isB] at h1
    | some u =>
      cases hi with
      | none =>
        cases hv with
        | some v => simp [isB] at h2
        | none => simp at hl; simp [Instr.sliceBounds, run_sliceBound' h1 hl]
      | some h =>
        cases hv with
        | none => simp [isB] at h2
        | some v => simp at hl; simp [Instr.sliceBounds, run_sliceBound' h2 hh, run_sliceBound' h1 hl]
theorem run_bounds3 {P : Program} {w : World} {isS : Bool} {len cap b h m : Nat} {lv hv mv : Value} (h1 : isB (some lv) (some b)) (h2 : isB (some hv) (some h)) (h3 : isB (some mv) (some m)) (hm : m ≤ cap) (hh : h ≤ m) (hl : b ≤ h) :
    (Instr.sliceBounds isS len cap (some lv) (some hv) (some mv)).run P w = .ok (b, h, m) w := by
  simp [Instr.sliceBounds, run_sliceBound' h3 hm, run_sliceBound' h2 hh, run_sliceBound' h1 hl]
end Go.V
namespace Go.V
open Go

section
variable {P : Program} {φ : Val} {s : S} {w : World} {a x r : A} {t : TypeId}

theorem run_slice_slice {e : TypeId} {sz : Nat} (hu : P.underlying t = some (.slice e)) (hs : szB P e = some sz) {b o n cap b0 h0 m0 : Nat} {lv hv mv : Option Value}
    (hr : (Instr.sliceBounds true n cap lv hv mv).run P w = .ok (b0, h0, m0) w) :
    (Instr.sliceAt t (.slice (some ⟨b, o, none⟩) n cap) lv hv mv).run P w = .ok (.slice (some (if m0 = b0 then ⟨b, o, none⟩ else ⟨b, o + b0 * sz, none⟩)) (h0 - b0) (m0 - b0)) w := by
  simp only [Instr.sliceAt, Sem.run_bind, run_underlying hu, Result.andThen_ok, Instr.slice, hr, run_sz hs, Sem.run_pure, Option.map_some, Addr.add_mid]
  split <;> rfl

theorem slS_run {e : TypeId} {l o n c : Nat} {k : Bool} {lo hi mx : Option Nat} {lv hv mv : Option Value} (h : slS P s e l o n k c lo hi mx = some r) (R : Rel φ s w) (hl : l < s.n) (hu : P.underlying t = some (.slice e))
    (h1 : isB lv lo) (h2 : isB hv hi) (h3 : isB mv mx) :
    (Instr.sliceAt t (den φ (.s l o n k c)) lv hv mv).run P w = .ok (den φ r) w ∧ below s.n r := by
  unfold slS at h
  split at h
  · cases h
  · rename_i sz hs
    split at h
    · rename_i m
      cases mv with
      | none => simp [isB] at h3
      | some mv =>
      split at h
      · cases h
      · rename_i hh
        cases hv with
        | none => simp [isB] at h2
        | some hv =>
        split at h
        · cases h
        · rename_i b
          cases lv with
          | none => simp [isB] at h1
          | some lv =>
          obtain ⟨hc, h⟩ := bif_some' h
          simp only [Bool.and_eq_true, Nat.ble_eq] at hc
          obtain ⟨⟨hc1, hc2⟩, hc3⟩ := hc
          simp only [fN_eq] at h
          have hcap : m ≤ capD (φ l) k c := by
            cases k with
            | true => simpa [capD] using hc3
            | false =>
              simp only [Bool.and_eq_true, Nat.ble_eq] at hc3
              have := fitS_spec R hl hc3.2
              show m ≤ (φ l).cap - c
              omega
          have hr := run_slice_slice (w := w) (b := (φ l).blk) (o := (φ l).base + o) hu hs (run_bounds3 (P := P) (w := w) (isS := true) (len := n) h1 h2 h3 hcap hc1 hc2)
          simp only [den]
          rw [hr]
          cases hmb : Nat.beq m b with
          | true =>
            rw [hmb] at h; cases h
            have := Nat.eq_of_beq_eq_true hmb
            refine ⟨?_, hl⟩
            simp only [this, if_true, den, capD]
          | false =>
            rw [hmb] at h; cases h
            have hne : m ≠ b := fun e => by subst e; simp at hmb
            refine ⟨?_, hl⟩
            simp only [if_neg hne, den, capD, Nat.add_assoc]
    · cases mv with
      | some mv => simp [isB] at h3
      | none =>
      simp only at h
      obtain ⟨hb, h⟩ := bif_some' h
      simp only [Nat.ble_eq] at hb
      split at h
      · obtain ⟨hc, h⟩ := bif_some' h
        simp only [fN_eq] at h
        have hcap : hiOk hi (c) := by
          cases hi with
          | none => trivial
          | some h => exact Nat.le_of_ble_eq_true hc
        have hr := run_slice_slice (w := w) (b := (φ l).blk) (o := (φ l).base + o) hu hs (run_bounds2 (P := P) (w := w) (isS := true) (len := n) (cap := c) h1 h2 hcap hb)
        simp only [den, capD]
        rw [hr]
        cases hmb : Nat.beq c (lo.getD 0) with
        | true =>
          rw [hmb] at h; cases h
          have := Nat.eq_of_beq_eq_true hmb
          refine ⟨?_, hl⟩
          simp only [this, if_true, den, capD]
        | false =>
          rw [hmb] at h; cases h
          have hne : c ≠ lo.getD 0 := fun e => by rw [← e] at hmb; simp at hmb
          refine ⟨?_, hl⟩
          simp only [if_neg hne, den, capD, Nat.add_assoc]
      · obtain ⟨hc, h⟩ := bif_some' h
        have hcap : hiOk hi ((φ l).cap - c) := by
          cases hi with
          | none => trivial
          | some h =>
            simp only [hiB, Bool.or_eq_true, Bool.and_eq_true, Nat.ble_eq, Nat.beq_eq] at hc
            rcases hc with hc | hc
            · simp only [hiOk]; omega
            · have := fitS_spec R hl hc.2
              simp only [hiOk]; omega
        have hr := run_slice_slice (w := w) (b := (φ l).blk) (o := (φ l).base + o) hu hs (run_bounds2 (P := P) (w := w) (isS := true) (len := n) (cap := (φ l).cap - c) h1 h2 hcap hb)
        simp only [den, capD]
        rw [hr]
        cases hb0 : Nat.beq (lo.getD 0) 0 with
        | true =>
          rw [hb0] at h
          simp only [cond_true, fN_eq, Option.some.injEq] at h
          subst h
          have h0 := Nat.eq_of_beq_eq_true hb0
          refine ⟨?_, hl⟩
          simp only [h0, den, capD, Nat.zero_mul, Nat.add_zero, ite_self, Nat.sub_zero]
        | false =>
          rw [hb0] at h
          simp only [cond_false] at h
          obtain ⟨hc2, h⟩ := bif_some' h
          simp only [fN_eq, Option.some.injEq] at h
          subst h
          simp only [Bool.and_eq_true] at hc2
          have hlt : lo.getD 0 < n := by simpa [Nat.blt_eq] using hc2.1
          have hfit := fitS_spec R hl hc2.2
          have hne : ¬ ((φ l).cap - c = lo.getD 0) := by omega
          refine ⟨?_, hl⟩
          simp only [if_neg hne, den, capD, Nat.add_assoc, Nat.sub_sub]
end

/-! ### A slice of an array, of a string -/
noncomputable def slP (P : Program) (n : Nat) (e : TypeId) (l o : Nat) (lo hi mx : Option Nat) : Option A := match szB P e with
  | none => none
  | some sz => match mx with
    | some _ => none
    | none =>
      let b := lo.getD 0
      let h := hi.getD n
      bif Nat.ble b h && Nat.ble h n then fN (h - b) fun n' => fN (n - b) fun c' => bif Nat.beq n b then some (.s l o n' true c') else fN (o + b * sz) fun o' => some (.s l o' n' true c')
      else none
noncomputable def slStr (l : List Nat) (lo hi mx : Option Nat) : Option A := match mx with
  | some _ => none
  | none =>
    let b := lo.getD 0
    let h := hi.getD (lnN l)
    bif Nat.ble b h && Nat.ble h (lnN l) then match tkN (h - b) (dpN b l) with
      | some r => some (.str r)
      | none => none
    else none
noncomputable def slcA (P : Program) (s : S) (t : TypeId) (x : A) (lo hi mx : Option Nat) : Option A := match P.underlying t with
  | some d => match d with
    | .slice e => match x with
      | .s l o n k c => slS P s e l o n k c lo hi mx
      | _ => none
    | .array n e => match x with
      | .p l o => slP P n e l o lo hi mx
      | _ => none
    | .string => match x with
      | .str l => slStr l lo hi mx
      | _ => none
    | _ => none
  | none => none
section
variable {P : Program} {φ : Val} {s : S} {w : World} {a x r : A} {t : TypeId}
theorem slcA_run {lo hi mx : Option Nat} {lv hv mv : Option Value} (h : slcA P s t x lo hi mx = some r) (R : Rel φ s w) (hx : below s.n x) (h1 : isB lv lo) (h2 : isB hv hi) (h3 : isB mv mx) :
    (Instr.sliceAt t (den φ x) lv hv mv).run P w = .ok (den φ r) w ∧ below s.n r := by
  unfold slcA at h
  split at h
  · rename_i d hu
    split at h
    · rename_i e
      split at h
      · exact slS_run h R hx hu h1 h2 h3
      · cases h
    · rename_i n e
      split at h
      · rename_i l o
        unfold slP at h
        split at h
        · cases h
        · rename_i sz hs
          split at h
          · cases h
          · cases mv with
            | some mv => simp [isB] at h3
            | none =>
            simp only at h
            obtain ⟨hc, h⟩ := bif_some' h
            simp only [Bool.and_eq_true, Nat.ble_eq] at hc
            simp only [fN_eq] at h
            have hcap : hiOk hi (n) := by
              cases hi with
              | none => trivial
              | some h => exact hc.2
            have hb := run_bounds2 (P := P) (w := w) (isS := false) (len := n) (cap := n) h1 h2 hcap hc.1
            have hr : (Instr.sliceAt t (den φ (.p l o)) lv hv none).run P w = .ok (.slice (some (if n = lo.getD 0 then ⟨(φ l).blk, (φ l).base + o, none⟩ else ⟨(φ l).blk, (φ l).base + o + lo.getD 0 * sz, none⟩)) (hi.getD n - lo.getD 0) (n - lo.getD 0)) w := by
              simp only [Instr.sliceAt, Sem.run_bind, run_underlying hu, Result.andThen_ok, den, Instr.sureAddr, Sem.run_pure, hb, run_sz hs, Addr.add_mid]
            rw [hr]
            cases hmb : Nat.beq n (lo.getD 0) with
            | true =>
              rw [hmb] at h; cases h
              have := Nat.eq_of_beq_eq_true hmb
              refine ⟨?_, hx⟩
              rw [if_pos this]; rfl
            | false =>
              rw [hmb] at h; cases h
              have hne : ¬ n = lo.getD 0 := fun e => by rw [← e] at hmb; simp at hmb
              refine ⟨?_, hx⟩
              rw [if_neg hne]; simp only [den, capD, Nat.add_assoc]
      · cases h
    · split at h
      · rename_i l
        unfold slStr at h
        split at h
        · cases h
        · cases mv with
          | some mv => simp [isB] at h3
          | none =>
          simp only [lnN_eq] at h
          obtain ⟨hc, h⟩ := bif_some' h
          split at h
          · rename_i q hq
            cases h
            obtain ⟨h4, h5⟩ := tkN_spec _ _ _ hq
            rw [dpN_eq] at h4 h5
            simp only [Bool.and_eq_true, Nat.ble_eq] at hc
            have hsz : (strV l).size = l.length := by simp [strV, ByteArray.size]
            rw [← hsz] at hc h4 h5
            have hcap : hiOk hi ((strV l).size) := by
              cases hi with
              | none => trivial
              | some h => exact hc.2
            have hb := run_bounds2 (P := P) (w := w) (isS := false) (len := (strV l).size) (cap := (strV l).size) h1 h2 hcap hc.1
            refine ⟨?_, trivial⟩
            have hx : (Instr.sliceAt t (den φ (.str l)) lv hv none).run P w = .ok (.string ((strV l).extract (lo.getD 0) (hi.getD (strV l).size))) w := by
              simp only [Instr.sliceAt, Sem.run_bind, run_underlying hu, Result.andThen_ok, den, Instr.slice, Option.isSome_none, Bool.false_eq_true, if_false, hb, Sem.run_pure]
            rw [hx]
            congr 2
            apply ByteArray.ext
            rw [ByteArray.data_extract, h5]
            apply Array.ext'
            simp [List.extract_eq_take_drop, List.map_take, List.map_drop]
          · cases h
      · cases h
    · cases h
  · cases h
end
end Go.V
namespace Go.V
open Go

/-! ### Conversions -/
def bysS (a : A) (ih : Option (List Nat)) : Option (List Nat) := match a with
  | .i .u8 (.ofNat b) => match ih with | some r => some (b :: r) | none => none
  | _ => none
noncomputable def bysA (l : List A) : Option (List Nat) := List.rec (motive := fun _ => Option (List Nat)) (some []) (fun a _ ih => bysS a ih) l
theorem bysA_spec (φ : Val) : ∀ (l : List A) (r : List Nat), bysA l = some r → denL φ l = (r.map Int.ofNat).map (Value.int .u8)
  | [], r, h => by have : some ([] : List Nat) = some r := h; cases this; rfl
  | a :: l, r, h => by
    have h' : bysS a (bysA l) = some r := h
    unfold bysS at h'
    split at h'
    · rename_i b
      split at h'
      · rename_i q hq
        cases h'
        simp only [denL, bysA_spec φ l q hq, den]; rfl
      · cases h'
    · cases h'
theorem foldl_push : ∀ (r : List Nat) (s : ByteArray), ((r.map Int.ofNat).foldl (fun r n => r.push (UInt8.ofNat n.toNat)) s) = ⟨s.data ++ (r.map UInt8.ofNat).toArray⟩
  | [], s => by cases s; simp
  | b :: r, s => by
    simp only [List.map_cons, List.foldl_cons, foldl_push r]
    congr 1
    apply Array.ext'
    simp [ByteArray.push]
noncomputable def cloC (P : Program) (src dst : TypeId) (a : A) : Option A := match toV a with
  | some u => match pR P (convert src dst u) with
    | some r => fA (ofV r) some
    | none => none
  | none => none
noncomputable def cvA (P : Program) (s : S) (src dst : TypeId) (x : A) : Option A := match P.underlying src with
  | none => none
  | some sd => match P.underlying dst with
    | none => none
    | some dd => match x with
      | .i k n => match dd with
        | .int k' => fI (wrapF k' n) fun n => some (.i k' n)
        | _ => cloC P src dst (.i k n)
      | .str l => match dd with
        | .string => some (.str l)
        | _ => none
      | .s l o n _ _ => match dd with
        | .string => match sd with
          | .slice e => match P.underlying e with
            | some (.int .u8) => match ob s l with
              | some (.c _ _ _ cs) => match tk n (dp o cs) with
                | some r => match bysA r with
                  | some q => some (.str q)
                  | none => none
                | none => none
              | _ => none
            | _ => none
          | _ => none
        | _ => none
      | .p l o => match ob s l with
        | some (.c T _ 0 cs) => bif Nat.blt o (lnA cs) then match sd with
            | .pointer t => match dd with
              | .unsafePointer => match szB P t with
                | some (_ + 1) => some (.p l o)
                | _ => none
              | _ => none
            | .unsafePointer => match dd with
              | .pointer u => match szB P u with
                | some (_ + 1) => bif liesAt P P.depth T (lnA cs / P.cellsOf T) o u 1 then some (.p l o) else none
                | _ => none
              | _ => none
            | _ => none
          else none
        | _ => none
      | a => cloC P src dst a
section
variable {P : Program} {φ : Val} {s : S} {w : World} {a x r : A} {t : TypeId}
theorem cloC_run {src dst : TypeId} (h : cloC P src dst a = some r) (φ : Val) (w : World) : (convert src dst (den φ a)).run P w = .ok (den φ r) w ∧ ∀ n, below n r := by
  unfold cloC at h
  split at h
  · rename_i u hu
    split at h
    · rename_i z hz
      rw [fA_eq] at h; cases h
      rw [toV_den φ hu, den_ofV]
      exact ⟨pR_run hz w, fun n => below_ofV n _⟩
    · cases h
  · cases h
theorem okO_shape {l : Nat} {T : TypeId} {ro : Bool} {cs : List A} (h : okO φ l (.c T ro 0 cs) w) : w.heap[(φ l).blk]? = some (.cells (denL φ cs).toArray T (match w.heap[(φ l).blk]? with | some (.cells _ _ f) => f | _ => (0, 0))) ∧ (φ l).base = 0 := by
  obtain ⟨pre, post, f, h1, h2, h3, h4, h5⟩ := h
  obtain ⟨rfl, rfl⟩ := h4 rfl
  simp only [List.nil_append, List.append_nil] at h1
  exact ⟨by rw [h1], by simpa using h2.symm⟩
theorem shape_of {l : Nat} {T : TypeId} {ro : Bool} {g : Nat} {cs : List A} (h : okO φ l (.c T ro g cs) w) : ∃ n, w.shape? (φ l).blk = some (T, n) ∧ (φ l).base + cs.length ≤ n ∧ (g = 0 → n = cs.length ∧ (φ l).base = 0) := by
  obtain ⟨pre, post, f, h1, h2, h3, h4, h5⟩ := h
  refine ⟨pre.length + cs.length + post.length, ?_, by omega, fun hg => ?_⟩
  · simp [World.shape?, h1, denL_length]; omega
  · obtain ⟨rfl, rfl⟩ := h4 hg
    exact ⟨by simp, by simpa using h2.symm⟩
theorem run_seenAt {l : Nat} {T : TypeId} {ro : Bool} {g : Nat} {cs : List A} (h : okO φ l (.c T ro g cs) w) (o : Nat) : (Conv.seenAt ⟨(φ l).blk, o, none⟩).run P w = .ok ⟨(φ l).blk, o, none⟩ w := by
  obtain ⟨n, h1, _⟩ := shape_of h
  have hv : (viewAt (φ l).blk).run P w = .ok none w := by simp [viewAt, shape, Sem.run, h1]
  simp [Conv.seenAt, hv]
theorem cvA_run {src dst : TypeId} (h : cvA P s src dst x = some r) (R : Rel φ s w) (hx : below s.n x) : (convert src dst (den φ x)).run P w = .ok (den φ r) w ∧ below s.n r := by
  unfold cvA at h
  split at h
  · cases h
  · rename_i sd hsd
    split at h
    · cases h
    · rename_i dd hdd
      split at h
      · rename_i k n
        split at h
        · rename_i k'
          rw [fI_eq, wrapF_eq] at h; cases h
          exact ⟨by simp [convert, run_underlying hsd, run_underlying hdd, den, Conv.intToInt], trivial⟩
        · obtain ⟨h1, h2⟩ := cloC_run h φ w; exact ⟨h1, h2 _⟩
      · rename_i l
        split at h
        · cases h
          refine ⟨?_, trivial⟩
          simp only [convert, Sem.run_bind, run_underlying hsd, run_underlying hdd, Result.andThen_ok, den]
          cases sd <;> rfl
        · cases h
      · rename_i l o n k c
        split at h
        · split at h
          · rename_i e
            split at h
            · rename_i he
              split at h
              · rename_i T ro g cs hob
                split at h
                · rename_i q hq
                  split at h
                  · rename_i z hz
                    cases h
                    refine ⟨?_, trivial⟩
                    have hok := R.has hx hob
                    have hc := run_cells (P := P) hok hq
                    rw [bysA_spec φ q z hz] at hc
                    have hr := run_bytesToString w ⟨(φ l).blk, (φ l).base + o, none⟩ n (capD (φ l) k c) _ hc
                    simp only [convert, Sem.run_bind, run_underlying hsd, run_underlying hdd, Result.andThen_ok, den, run_underlying he]
                    rw [hr, foldl_push]
                    simp [ByteArray.empty, ByteArray.emptyWithCapacity]
                    rfl
                  · cases h
                · cases h
              · cases h
            · cases h
          · cases h
        · cases h
      · rename_i l o
        split at h
        · rename_i T ro cs hob
          obtain ⟨hlt, h⟩ := bif_some' h
          have hok := R.has hx hob
          obtain ⟨N, hN, _, hg⟩ := shape_of hok
          obtain ⟨rfl, hb0⟩ := hg rfl
          have hlt' : o < cs.length := by simpa [Nat.blt_eq, lnA_eq] using hlt
          split at h
          · rename_i t'
            split at h
            · split at h
              · rename_i sz hs
                cases h
                refine ⟨?_, hx⟩
                have hci : (cellsIn (φ l).blk).run P w = .ok (some cs.length) w := by simp [cellsIn, shape, Sem.run, hN]
                have hno : decide (cs.length ≤ o) = false := by simp; omega
                simp only [convert, Sem.run_bind, run_underlying hsd, run_underlying hdd, Result.andThen_ok, den, Conv.unsafePointer, run_seenAt hok, hci, run_sz hs]
                simp [hb0, hno, Sem.run]
              · cases h
            · cases h
          · split at h
            · split at h
              · rename_i sz hs
                obtain ⟨hli, h⟩ := bif_some' h
                cases h
                refine ⟨?_, hx⟩
                rw [lnA_eq] at hli
                have hva : ∀ u, liesAt P P.depth T (cs.length / P.cellsOf T) o u 1 = true → (variablesAt ⟨(φ l).blk, (φ l).base + o, none⟩ u 1).run P w = .ok true w := fun u hu => by
                  simp [variablesAt, shape, Sem.run, hN, hb0, hu]
                simp only [convert, Sem.run_bind, run_underlying hsd, run_underlying hdd, Result.andThen_ok, den, Conv.unsafePointer, run_seenAt hok, run_sz hs]
                simp [hva _ hli, Sem.run]
              · cases h
            · cases h
          · cases h
        · cases h
      · obtain ⟨h1, h2⟩ := cloC_run h φ w; exact ⟨h1, h2 _⟩
end
end Go.V
namespace Go.V
open Go

/-- A value, brought to its form. -/
noncomputable def frc {R : Type} (a : A) (k : A → R) : R := match a with
  | .i j n => k (.i j n)
  | .b t => k (.b t)
  | .str l => k (.str l)
  | .p l o => k (.p l o)
  | .s l o n j c => k (.s l o n j c)
  | .m l => k (.m l)
  | .f g cs => k (.f g cs)
  | .x t a => k (.x t a)
  | .g cs => k (.g cs)
  | .t vs => k (.t vs)
  | .v x => k (.v x)
theorem frc_eq {R : Type} (a : A) (k : A → R) : frc a k = k a := by cases a <;> rfl
noncomputable def mpK {R : Type} (ρ : Rd) (l : List Operand) : (List A → R) → R := List.rec (motive := fun _ => (List A → R) → R) (fun k => k []) (fun x _ ih k => frc (ρ x) fun a => ih fun r => k (a :: r)) l
theorem mpK_eq {R : Type} (ρ : Rd) : ∀ (l : List Operand) (k : List A → R), mpK ρ l k = k (l.map ρ)
  | [], _ => rfl
  | x :: l, k => by
    have : mpK ρ (x :: l) k = frc (ρ x) fun a => mpK ρ l fun r => k (a :: r) := rfl
    rw [this, frc_eq, mpK_eq ρ l]; rfl
noncomputable def unA (P : Program) (op : UnOp) (a : A) : Option A := match toV a with
  | some u => match pR P (Op.unary op u) with
    | some r => fA (ofV r) some
    | none => none
  | none => none
noncomputable def taA (P : Program) (a : A) (xt asr : TypeId) (ok : Bool) : Option A := match a with
  | .x t b => match P.underlying asr with
    | some d => match d with
      | .interface _ => none
      | _ => match Nat.beq t asr with
        | true => match ok with | true => some (.t [b, .b true]) | false => some b
        | false => match ok with
          | true => match zrB P asr with | some z => some (.t [z, .b false]) | none => none
          | false => none
    | none => none
  | a => match toV a with
    | some u => match pR P (Instr.typeAssert u xt asr ok) with
      | some r => match r with
        | .tuple vs => some (.t (vs.toList.map ofV))
        | r => some (ofV r)
      | none => none
    | none => none
noncomputable def clsA (l : List A) : Option (List Value) := List.rec (motive := fun _ => Option (List Value)) (some []) (fun a _ ih => match toV a with
  | some u => match ih with | some r => some (u :: r) | none => none
  | none => none) l
noncomputable def mpA (ρ : Rd) (l : List Operand) : List A := List.rec (motive := fun _ => List A) [] (fun x _ ih => ρ x :: ih) l
noncomputable def lenA (P : Program) (s : S) (t : TypeId) (x : A) : Option A := match P.underlying t with
  | some d => match d with
    | .string => match x with | .str l => fN (lnN l) fun n => some (.i .i64 (.ofNat n)) | _ => none
    | .slice _ => match x with | .s _ _ n _ _ => some (.i .i64 (.ofNat n)) | .v (.slice _ n _) => some (.i .i64 (.ofNat n)) | _ => none
    | .array n _ => some (.i .i64 (.ofNat n))
    | .pointer e => match P.underlying e with
      | some (.array n _) => some (.i .i64 (.ofNat n))
      | _ => none
    | .map _ _ => match x with
      | .m l => match ob s l with
        | some (.mp es _) => fN es.length fun n => some (.i .i64 (.ofNat n))
        | _ => none
      | .v (.map none) => some (.i .i64 (.ofNat 0))
      | _ => none
    | _ => none
  | none => none
noncomputable def capA (P : Program) (t : TypeId) (x : A) : Option A := match P.underlying t with
  | some d => match d with
    | .slice _ => match x with
      | .s _ _ _ true c => some (.i .i64 (.ofNat c))
      | .v (.slice _ _ c) => some (.i .i64 (.ofNat c))
      | _ => none
    | .array n _ => some (.i .i64 (.ofNat n))
    | _ => none
  | none => none
noncomputable def min2A (mx : Bool) (a b : A) : Option A := match a, b with
  | .i k m, .i _ n => match mx with
    | true => fB (decide (n > m)) fun t => match t with | true => some (.i k n) | false => some (.i k m)
    | false => fB (decide (n < m)) fun t => match t with | true => some (.i k n) | false => some (.i k m)
  | _, _ => none
noncomputable def usdA (s : S) (x : A) : Option A := match x with
  | .v (.slice none _ _) => some (.v (.pointer none))
  | .s l o _ true c => match c with | 0 => none | _ + 1 => some (.p l o)
  | .s l o n false c => bif Nat.blt 0 n && fitS s l o n c then some (.p l o) else none
  | _ => none
noncomputable def bltA (P : Program) (s : S) (b : Builtin) (ts : List TypeId) (xs : List A) : Option A := match xs with
  | [x] => match ts with
    | t :: _ => match b with
      | .len => lenA P s t x
      | .cap => capA P t x
      | .unsafeSliceData => usdA s x
      | _ => none
    | [] => none
  | [x, y] => match b with
    | .min => min2A false x y
    | .max => min2A true x y
    | _ => none
  | _ => none
/-- An operation that changes nothing. -/
noncomputable def rdO (P : Program) (s : S) (ρ : Rd) (o : Oper) : Option A := match o.op with
  | .move x => frc (ρ x) some
  | .assign x => frc (ρ x) some
  | .pick c a b => match ρ c with | .b t => (match t with | true => frc (ρ a) some | false => frc (ρ b) some) | _ => none
  | .extract x i => match ρ x with | .t vs => nt i vs | _ => none
  | .nilCheck x => match ρ x with | .p l o => some (.p l o) | .f g cs => some (.f g cs) | _ => none
  | .load t x => ldA P t s (ρ x)
  | .fieldAddr t x f => fldA P t f (ρ x)
  | .indexAddr t x i => ixaA P t (ρ x) (ρ i)
  | .index t x i => idxA P t (ρ x) (ρ i)
  | .field t x f => fieA P t f (ρ x)
  | .binOp op t x y _ => binA P op t x y (ρ x) (ρ y)
  | .unOp op _ x => unA P op (ρ x)
  | .convert src dst x => cvA P s src dst (ρ x)
  | .slice t x lo hi mx => match optN ρ lo with
    | some lo => match optN ρ hi with
      | some hi => match optN ρ mx with
        | some mx => slcA P s t (ρ x) lo hi mx
        | none => none
      | none => none
    | none => none
  | .makeInterface t x => match P.underlying t with | some (.interface _) => none | some _ => frc (ρ x) fun a => some (.x t a) | none => none
  | .typeAssert x xt asr ok => taA P (ρ x) xt asr ok
  | .makeFunc fn first cap => match fn with
    | .func g => match first.toList with | [] => mpK ρ cap.toList fun cs => some (.f g cs) | _ :: _ => none
    | _ => none
  | .call c => match c.callee with
    | .builtin b => mpK ρ c.args.toList fun xs => bltA P s b c.argTypes.toList xs
    | _ => none
  | _ => none

section
variable {P : Program} {φ : Val} {s : S} {w : World} {a x r : A} {t : TypeId} {ρ : Rd}
theorem mpA_eq (ρ : Rd) : ∀ l, mpA ρ l = l.map ρ
  | [] => rfl
  | x :: l => by show ρ x :: mpA ρ l = _; rw [mpA_eq ρ l]; rfl
theorem unA_run {op : UnOp} (h : unA P op a = some r) (φ : Val) (w : World) : (Op.unary op (den φ a)).run P w = .ok (den φ r) w ∧ ∀ n, below n r := by
  unfold unA at h
  split at h
  · rename_i u hu
    split at h
    · rename_i z hz
      rw [fA_eq] at h; cases h
      rw [toV_den φ hu, den_ofV]
      exact ⟨pR_run hz w, fun n => below_ofV n _⟩
    · cases h
  · cases h
theorem den_map_ofV (φ : Val) (l : List Value) : denL φ (l.map ofV) = l := by
  rw [denL_map, List.map_map]
  have : (den φ ∘ ofV) = id := by funext b; simp [den_ofV]
  rw [this, List.map_id]
theorem below_zr {z : A} (h : zrB P t = some z) (n : Nat) : below n z := by
  unfold zrB at h
  split at h
  · split at h
    · cases h; exact below_ofV _ _
    · cases h
  · cases h
theorem taA_run {xt asr : TypeId} {ok : Bool} (h : taA P a xt asr ok = some r) (φ : Val) (w : World) : (Instr.typeAssert (den φ a) xt asr ok).run P w = .ok (den φ r) w ∧ ∀ n, below n a → below n r := by
  unfold taA at h
  split at h
  · rename_i t b
    split at h
    · rename_i d hu
      split at h
      · cases h
      · rename_i hni
        have hrun : ∀ (R : Result Value), (if t = asr then (Result.ok (if ok then .tuple #[den φ b, .bool true] else den φ b) w) else R) = R ∨ t = asr := fun R => by
          by_cases ht : t = asr
          · exact .inr ht
          · exact .inl (if_neg ht)
        split at h
        · rename_i ht
          have ht' := Nat.eq_of_beq_eq_true ht
          subst ht'
          split at h
          · cases h
            refine ⟨?_, fun n hb => ⟨hb, trivial, trivial⟩⟩
            cases d <;> first | (exact absurd rfl (hni _)) | simp [Instr.typeAssert, run_underlying hu, den, denL]
          · cases h
            refine ⟨?_, fun n hb => hb⟩
            cases d <;> first | (exact absurd rfl (hni _)) | simp [Instr.typeAssert, run_underlying hu, den, denL]
        · rename_i ht
          have hne : t ≠ asr := fun e => by subst e; simp at ht
          split at h
          · split at h
            · rename_i z hz
              cases h
              refine ⟨?_, fun n hb => ⟨below_zr hz n, trivial, trivial⟩⟩
              cases d <;> first | (exact absurd rfl (hni _)) | simp [Instr.typeAssert, run_underlying hu, den, denL, hne, run_zr hz φ]
            · cases h
          · cases h
    · cases h
  · split at h
    · rename_i u hu
      split at h
      · rename_i z hz
        rw [toV_den φ hu]
        have hr := pR_run hz w
        split at h
        · cases h
          refine ⟨?_, fun n _ => ?_⟩
          · simp only [den, den_map_ofV]; exact hr
          · simp only [below, belowL_iff, List.mem_map]; rintro _ ⟨v, _, rfl⟩; exact below_ofV _ _
        · cases h
          rw [den_ofV]
          exact ⟨hr, fun n _ => below_ofV _ _⟩
      · cases h
    · cases h
theorem run_getMap {l : Nat} {es : List (A × A × Nat)} {ck : Nat} (h : okO φ l (.mp es ck) w) : (getObj (φ l).blk).run P w = .ok (.map (es.map (denE φ)).toArray ck) w := by
  have h' : w.heap[(φ l).blk]? = some (.map (es.map (denE φ)).toArray ck) := h
  simp [getObj, Sem.run, h']
theorem lenA_run {ts : Array TypeId} (ht : ts[0]? = some t) (h : lenA P s t x = some r) (R : Rel φ s w) (hx : below s.n x) (ty : TypeId) : (Builtin.len_ ts ty #[den φ x]).run P w = .ok (den φ r) w ∧ below s.n r := by
  unfold lenA at h
  split at h
  · rename_i d hu
    split at h
    · split at h
      · rename_i l
        rw [fN_eq, lnN_eq] at h; cases h
        have hsz : (strV l).size = l.length := by simp [strV, ByteArray.size]
        exact ⟨by simp [Builtin.len_, ht, run_underlying hu, den, goInt, hsz], trivial⟩
      · cases h
    · split at h
      · cases h; exact ⟨by simp [Builtin.len_, ht, run_underlying hu, den, goInt], trivial⟩
      · cases h; exact ⟨by simp [Builtin.len_, ht, run_underlying hu, den, goInt], trivial⟩
      · cases h
    · cases h; exact ⟨by simp [Builtin.len_, ht, run_underlying hu, den, goInt], trivial⟩
    · split at h
      · rename_i he
        cases h; exact ⟨by simp [Builtin.len_, ht, run_underlying hu, run_underlying he, den, goInt], trivial⟩
      · cases h
    · split at h
      · rename_i l
        split at h
        · rename_i es ck hob
          rw [fN_eq] at h; cases h
          have hok := R.has hx hob
          exact ⟨by simp [Builtin.len_, ht, run_underlying hu, den, goInt, run_getMap hok], trivial⟩
        · cases h
      · cases h; exact ⟨by simp [Builtin.len_, ht, run_underlying hu, den, goInt], trivial⟩
      · cases h
    · cases h
  · cases h
theorem capA_run {ts : Array TypeId} (ht : ts[0]? = some t) (h : capA P t x = some r) (ty : TypeId) : (Builtin.cap_ ts ty #[den φ x]).run P w = .ok (den φ r) w ∧ ∀ n, below n r := by
  unfold capA at h
  split at h
  · rename_i d hu
    split at h
    · split at h
      · cases h; exact ⟨by simp [Builtin.cap_, ht, run_underlying hu, den, capD, goInt], fun _ => trivial⟩
      · cases h; exact ⟨by simp [Builtin.cap_, ht, run_underlying hu, den, goInt], fun _ => trivial⟩
      · cases h
    · cases h; exact ⟨by simp [Builtin.cap_, ht, run_underlying hu, den, goInt], fun _ => trivial⟩
    · cases h
  · cases h
end
end Go.V
namespace Go.V
open Go

section
variable {P : Program} {φ : Val} {s : S} {w : World} {a b x r : A} {t : TypeId} {ρ : Rd}
theorem min_run (h : min2A false a b = some r) (ts : Array TypeId) (ty : TypeId) (w : World) : (Builtin.min_ ts ty #[den φ a, den φ b]).run P w = .ok (den φ r) w ∧ ∀ n, below n r := by
  unfold min2A at h
  split at h
  · rename_i k m k' n
    simp only [fB_eq] at h
    have hr : (Builtin.min_ ts ty #[den φ (.i k m), den φ (.i k' n)]).run P w = .ok (.int k (if n < m then n else m)) w := by
      simp [Builtin.min_, Builtin.min2, den]
    rw [hr]
    split at h
    · rename_i hd; cases h; exact ⟨by rw [if_pos (of_decide_eq_true hd)]; rfl, fun _ => trivial⟩
    · rename_i hd; cases h; exact ⟨by rw [if_neg (of_decide_eq_false hd)]; rfl, fun _ => trivial⟩
  · cases h
theorem max_run (h : min2A true a b = some r) (ts : Array TypeId) (ty : TypeId) (w : World) : (Builtin.max_ ts ty #[den φ a, den φ b]).run P w = .ok (den φ r) w ∧ ∀ n, below n r := by
  unfold min2A at h
  split at h
  · rename_i k m k' n
    simp only [fB_eq] at h
    have hr : (Builtin.max_ ts ty #[den φ (.i k m), den φ (.i k' n)]).run P w = .ok (.int k (if n > m then n else m)) w := by
      simp [Builtin.max_, Builtin.max2, den]
    rw [hr]
    split at h
    · rename_i hd; cases h; exact ⟨by rw [if_pos (of_decide_eq_true hd)]; rfl, fun _ => trivial⟩
    · rename_i hd; cases h; exact ⟨by rw [if_neg (of_decide_eq_false hd)]; rfl, fun _ => trivial⟩
  · cases h
theorem usd_some {P : Program} {w : World} (ts : Array TypeId) (ty : TypeId) (a : Addr) (n c : Nat) (h : c ≠ 0) : (Builtin.unsafeSliceData_ ts ty #[.slice (some a) n c]).run P w = .ok (.pointer (some a)) w := by
  have he : Builtin.unsafeSliceData_ ts ty #[.slice (some a) n c] = (if c ≠ 0 then pure (.pointer (some a)) else do
    if (← viewAt a.block).isSome then pure (.pointer (some a)) else pure (.pointer (some ⟨← newObj (.view a (← elemOf ty)), 0, none⟩)) : Sem Value) := rfl
  rw [he, if_pos h]; rfl
theorem usd_run (h : usdA s x = some r) (R : Rel φ s w) (hx : below s.n x) (ts : Array TypeId) (ty : TypeId) : (Builtin.unsafeSliceData_ ts ty #[den φ x]).run P w = .ok (den φ r) w ∧ below s.n r := by
  unfold usdA at h
  split at h
  · cases h; exact ⟨rfl, trivial⟩
  · split at h
    · cases h
    · cases h
      exact ⟨usd_some ts ty _ _ _ (Nat.succ_ne_zero _), hx⟩
  · rename_i l o n c
    obtain ⟨hc, h⟩ := bif_some' h
    cases h
    simp only [Bool.and_eq_true] at hc
    have h0 : 0 < n := by simpa [Nat.blt_eq] using hc.1
    have hf := fitS_spec R hx hc.2
    have hne : (φ l).cap - c ≠ 0 := by omega
    exact ⟨usd_some ts ty _ _ _ hne, hx⟩
  · cases h
theorem bltA_run {bi : Builtin} {ts : Array TypeId} {xs : List A} (h : bltA P s bi ts.toList xs = some r) (R : Rel φ s w) (hx : belowL s.n xs) (ty : TypeId) (cs : Array Bool) :
    (builtin bi ts ty cs (denL φ xs).toArray).run P w = .ok (.value (den φ r)) w ∧ below s.n r := by
  unfold bltA at h
  split at h
  · rename_i x
    split at h
    · rename_i t tr hts
      have ht : ts[0]? = some t := by rw [← Array.getElem?_toList, hts]; rfl
      split at h
      · obtain ⟨h1, h2⟩ := lenA_run ht h R hx.1 ty
        exact ⟨by simp [builtin, denL, h1], h2⟩
      · obtain ⟨h1, h2⟩ := capA_run (φ := φ) (w := w) ht h ty
        exact ⟨by simp [builtin, denL, h1], h2 _⟩
      · obtain ⟨h1, h2⟩ := usd_run (P := P) h R hx.1 ts ty
        exact ⟨by simp [builtin, denL, h1], h2⟩
      · cases h
    · cases h
  · rename_i x y
    split at h
    · obtain ⟨h1, h2⟩ := min_run (P := P) (φ := φ) h ts ty w
      exact ⟨by simp [builtin, denL, h1], h2 _⟩
    · obtain ⟨h1, h2⟩ := max_run (P := P) (φ := φ) h ts ty w
      exact ⟨by simp [builtin, denL, h1], h2 _⟩
    · cases h
  · cases h
theorem optN_isB {x : Option Operand} {v : Option Nat} (h : optN ρ x = some v) (φ : Val) : isB (x.map fun x => den φ (ρ x)) v := by
  unfold optN at h
  split at h
  · cases h; trivial
  · rename_i y
    split at h
    · rename_i n hn
      cases h
      obtain ⟨k, hk⟩ := natA_den hn
      simp [isB, hk, den]
    · cases h

theorem rdO_run {o : Oper} (h : rdO P s ρ o = some r) (R : Rel φ s w) (hρ : ∀ x, below s.n (ρ x)) :
    (execOp (fun x => den φ (ρ x)) o).run P w = .ok (.value (den φ r)) w ∧ below s.n r := by
  obtain ⟨dst, op, ty, pos, af, gu⟩ := o
  unfold rdO at h
  cases op <;> simp only at h
  case move x => rw [frc_eq] at h; cases h; exact ⟨rfl, hρ _⟩
  case assign x => rw [frc_eq] at h; cases h; exact ⟨rfl, hρ _⟩
  case pick c a b =>
    split at h
    · rename_i t ht
      split at h
      · rw [frc_eq] at h; cases h; exact ⟨by simp [execOp, ht, den, asBool], hρ _⟩
      · rw [frc_eq] at h; cases h; exact ⟨by simp [execOp, ht, den, asBool], hρ _⟩
    · cases h
  case load t x =>
    obtain ⟨h1, h2⟩ := ldA_run h R (hρ _)
    exact ⟨by simp [execOp, h1], h2⟩
  case nilCheck x =>
    split at h
    · rename_i l o hx; cases h
      exact ⟨by simp [execOp, hx, den], by rw [← hx]; exact hρ _⟩
    · rename_i g cs hx; cases h
      exact ⟨by simp [execOp, hx, den], by rw [← hx]; exact hρ _⟩
    · cases h
  case binOp op t x y t' =>
    have h1 := binA_run (φ := φ) h w
    refine ⟨?_, binA_below h _⟩
    have he : execOp (fun x => den φ (ρ x)) ⟨dst, .binOp op t x y t', ty, pos, af, gu⟩ = (do pure (.value (← (do eqGuard op t x y (den φ (ρ x)) (den φ (ρ y)); binOp op t (den φ (ρ x)) (den φ (ρ y)))))) := rfl
    rw [he, Sem.run_bind]
    show (rB P op t x y (den φ (ρ x)) (den φ (ρ y)) w).andThen _ = _
    rw [h1]; rfl
  case unOp op t x =>
    obtain ⟨h1, h2⟩ := unA_run h φ w
    exact ⟨by simp [execOp, h1], h2 _⟩
  case convert src dst x =>
    obtain ⟨h1, h2⟩ := cvA_run h R (hρ _)
    exact ⟨by simp [execOp, h1], h2⟩
  case makeInterface t x =>
    split at h
    · cases h
    · rename_i d hd hu
      rw [frc_eq] at h
      cases h
      refine ⟨?_, hρ _⟩
      cases d <;> first | (exact absurd rfl (hd _)) | simp [execOp, Instr.makeInterface, run_underlying hu, den]
    · cases h
  case makeFunc fn first cap =>
    split at h
    · rename_i g
      split at h
      · rename_i hf
        rw [mpK_eq] at h
        cases h
        have hf' : first = #[] := by cases first; simp_all
        subst hf'
        refine ⟨?_, ?_⟩
        · simp only [execOp, Instr.makeFunc, den, denL_map]
          simp
          apply Array.ext'
          simp
        · simp only [below, belowL_iff, List.mem_map]; rintro _ ⟨x, _, rfl⟩; exact hρ _
      · cases h
    · cases h
  case slice t x lo hi mx =>
    split at h
    · rename_i lo' hlo
      split at h
      · rename_i hi' hhi
        split at h
        · rename_i mx' hmx
          obtain ⟨h1, h2⟩ := slcA_run h R (hρ _) (optN_isB hlo φ) (optN_isB hhi φ) (optN_isB hmx φ)
          exact ⟨by simp [execOp, h1], h2⟩
        · cases h
      · cases h
    · cases h
  case fieldAddr t x f =>
    obtain ⟨h1, h2⟩ := fldA_run (φ := φ) (w := w) h
    exact ⟨by simp [execOp, h1], h2 _ (hρ _)⟩
  case field t x f =>
    obtain ⟨h1, h2⟩ := fieA_run (φ := φ) (w := w) h
    exact ⟨by simp [execOp, h1], h2 _ (hρ _)⟩
  case indexAddr t x i =>
    obtain ⟨h1, h2⟩ := ixaA_run (φ := φ) (w := w) h
    exact ⟨by simp [execOp, h1], h2 _ (hρ _)⟩
  case index t x i =>
    obtain ⟨h1, h2⟩ := idxA_run (φ := φ) (w := w) h
    exact ⟨by simp [execOp, h1], h2 _ (hρ _)⟩
  case typeAssert x xt asr ok =>
    obtain ⟨h1, h2⟩ := taA_run h φ w
    exact ⟨by simp [execOp, h1], h2 _ (hρ _)⟩
  case extract x i =>
    split at h
    · rename_i vs hv
      have hb := hρ x
      rw [hv] at hb
      refine ⟨?_, below_nt hb h⟩
      rw [nt_eq] at h
      have : (denL φ vs).toArray[i]? = some (den φ r) := by simp [denL_map, h]
      simp [execOp, hv, den, Instr.extract, this]
    · cases h
  case call c =>
    obtain ⟨cal, args, ats⟩ := c
    split at h
    · rename_i bi hc
      simp only at hc; subst hc
      rw [mpK_eq, ← mpA_eq] at h
      have hb : belowL s.n (mpA ρ args.toList) := by rw [mpA_eq, belowL_iff]; intro a ha; obtain ⟨x, _, rfl⟩ := List.mem_map.1 ha; exact hρ _
      obtain ⟨h1, h2⟩ := bltA_run h R hb ty (args.map fun | .const _ => true | _ => false)
      refine ⟨?_, h2⟩
      have hargs : args.map (fun x => den φ (ρ x)) = (denL φ (mpA ρ args.toList)).toArray := by
        apply Array.ext'; simp [denL_map, mpA_eq]
      have he : execOp (fun x => den φ (ρ x)) ⟨dst, .call ⟨.builtin bi, args, ats⟩, ty, pos, af, gu⟩ = builtin bi ats ty (args.map fun | .const _ => true | _ => false) (args.map (fun x => den φ (ρ x))) := rfl
      rw [he, hargs]; exact h1
    · cases h
  all_goals cases h
end
end Go.V
