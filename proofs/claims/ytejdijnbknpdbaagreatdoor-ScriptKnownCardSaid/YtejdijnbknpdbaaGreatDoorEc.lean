/- A small evaluator of the translated program, third part: what it answers is what the program does, in every world that it is started in. No condition. -/
import Derived.Test.YtejdijnbknpdbaaGreatDoorEb
import Derived.LoopN
import Derived.Lib.BytesEntry
import Derived.Lib.MakeNoZero
import Derived.Below
namespace Go.V
open Go

/-! ### The evaluator -/
/-- How a function is called that is not walked into. -/
abbrev CallF := FuncId → List A → S → Option (A × S)
/-- Where the known package variables lie. -/
abbrev GlF := Nat → Option Nat
structure Fr where
  E : Tr A
  D : List (FuncId × List A)
  s : S
inductive X where
  | nm | ex (id : Nat) | rt
noncomputable def rho (gl : GlF) (E : Tr A) (x : Operand) : A := match x with
  | .tmp t => bif Nat.blt t most then (match Tr.get (pth t) E with | some v => v | none => .v undef) else .v undef
  | .const v => ofV v
  | .global g => match gl g with
    | some l => .p l 0
    | none => .v (.pointer (some ⟨g, 0, none⟩))
  | .func f => .f f []
/-- A value goes into its slot. -/
noncomputable def putE {α : Type} (n : Nat) (E : Tr A) (dst : Option Tmp) (v : A) (k : Tr A → Option α) : Option α := match dst with
  | none => k E
  | some d => bif Nat.blt d n then Tr.setK (some v) (pth d) E k else none
/-- The function and the values of a call of a value. -/
noncomputable def clA (gl : GlF) (E : Tr A) (c : Call) : Option (FuncId × List A) := match c.callee with
  | .value f => match rho gl E f with
    | .f g cs => mpK (rho gl E) c.args.toList fun xs => apA xs cs fun ys => some (g, ys)
    | _ => none
  | _ => none
noncomputable def stepOp (P : Program) (gl : GlF) (call : CallF) (n : Nat) (o : Oper) (E : Tr A) (D : List (FuncId × List A)) (s : S) : Option Fr := match rd2 P s (rho gl E) o with
  | some r => putE n E o.dst r fun E => some ⟨E, D, s⟩
  | none => match chO P s (rho gl E) o with
    | some (r, s) => putE n E o.dst r fun E => some ⟨E, D, s⟩
    | none => match o.op with
      | .call c => match clA gl E c with
        | some (g, as) => match call g as s with
          | some (r, s) => putE n E o.dst r fun E => some ⟨E, D, s⟩
          | none => none
        | none => none
      | .defer c => match clA gl E c with
        | some (g, as) => putE n E o.dst (.v undef) fun E => some ⟨E, (g, as) :: D, s⟩
        | none => none
      | _ => none
/-- Is an operation wanted? -/
noncomputable def wants (gl : GlF) (ops : Array Oper) (E : Tr A) (o : Oper) : Option Bool := match o.guard with
  | none => some true
  | some (j, want) => match ops[j]? with
    | some q => match q.dst with
      | some d => match rho gl E (.tmp d) with
        | .b t => match t with
          | true => some want
          | false => some (!want)
        | .v x => match x with | .tuple _ => some false | _ => none
        | _ => none
      | none => none
    | none => none
noncomputable def stepG (P : Program) (gl : GlF) (call : CallF) (n : Nat) (ops : Array Oper) (o : Oper) (E : Tr A) (D : List (FuncId × List A)) (s : S) : Option Fr := match wants gl ops E o with
  | some true => stepOp P gl call n o E D s
  | some false => putE n E o.dst (.v undef) fun E => some ⟨E, D, s⟩
  | none => none
noncomputable def evOps (P : Program) (gl : GlF) (call : CallF) (n : Nat) (ops : Array Oper) (l : List Oper) : Fr → Option Fr := List.rec (motive := fun _ => Fr → Option Fr) (fun fr => some fr)
  (fun o _ ih fr => match fr with | ⟨E, D, s⟩ => match stepG P gl call n ops o E D s with | some fr => ih fr | none => none) l

/-! Regions whose order is drawn -/
def isRd (o : Op) : Bool := match o with
  | .move _ | .assign _ | .pick .. | .extract .. | .nilCheck _ | .fieldAddr .. | .indexAddr .. | .index .. | .field .. | .binOp .. | .unOp .. | .makeInterface .. | .makeFunc .. | .build .. | .load .. | .convert .. | .slice .. | .typeAssert .. => true
  | .call c => match c.callee with
    | .builtin b => match b with | .len => true | .cap => true | .min => true | .max => true | .unsafeSliceData => true | _ => false
    | _ => false
  | _ => false
def isPure (o : Op) : Bool := match o with
  | .move _ | .assign _ | .pick .. | .extract .. | .nilCheck _ | .fieldAddr .. | .indexAddr .. | .index .. | .field .. | .binOp .. | .unOp .. | .makeInterface .. | .makeFunc .. | .build .. | .typeAssert .. => true
  | _ => false
/-- The first that may come up and is a reading. -/
noncomputable def fstRd (ops : Array Oper) (r : List Nat) : Option Nat := List.rec (motive := fun _ => Option Nat) none (fun i _ ih => match ops[i]? with
  | some o => match isRd o.op with
    | true => match o.dst with | some _ => some i | none => ih
    | false => ih
  | none => ih) r
structure Ob where
  i : Nat
  o : Oper
  E : Tr A
  v : A
/-- Two values are surely one. -/
noncomputable def same1 (a b : A) : Bool := match a, b with
  | .i k m, .i k' n => decide (k = k') && (m == n)
  | .b s, .b t => s == t
  | .str l, .str m => eqN l m
  | .p l o, .p l' o' => Nat.beq l l' && Nat.beq o o'
  | .s l o n k c, .s l' o' n' k' c' => Nat.beq l l' && Nat.beq o o' && Nat.beq n n' && (k == k') && Nat.beq c c'
  | .m l, .m l' => Nat.beq l l'
  | .v (.pointer none), .v (.pointer none) => true
  | .v (.slice none 0 0), .v (.slice none 0 0) => true
  | .v (.map none), .v (.map none) => true
  | .v .nilFunc, .v .nilFunc => true
  | .v .nilIface, .v .nilIface => true
  | .v (.float k m), .v (.float k' n) => decide (k = k') && Nat.beq m n
  | _, _ => false
noncomputable def sameL (l : List A) : List A → Bool := List.rec (motive := fun _ => List A → Bool) (fun m => match m with | [] => true | _ :: _ => false)
  (fun a _ ih m => match m with | [] => false | b :: m => match same1 a b with | true => ih m | false => false) l
noncomputable def sameA (a b : A) : Bool := match a with
  | .g l => match b with | .g m => sameL l m | _ => false
  | a => same1 a b
/-- The readings still hold behind number j. -/
noncomputable def obsOk (P : Program) (gl : GlF) (ops : Array Oper) (j : Nat) (s : S) (l : List Ob) : Bool := List.rec (motive := fun _ => Bool) true
  (fun x _ ih => match beh .any ops x.i j with
    | true => ih
    | false => match isPure x.o.op with
      | true => ih
      | false => match rd2 P s (rho gl x.E) x.o with
        | some v => match sameA v x.v with | true => ih | false => false
        | none => false) l
noncomputable def obsRest (ops : Array Oper) (j : Nat) (l : List Ob) : List Ob := List.rec (motive := fun _ => List Ob) []
  (fun x _ ih => match beh .any ops x.i j with | true => ih | false => x :: ih) l
noncomputable def evDraw (P : Program) (gl : GlF) (call : CallF) (n : Nat) (ops : Array Oper) (fuel : Nat) : Array Bool → List Ob → Fr → Option Fr := Nat.rec (motive := fun _ => Array Bool → List Ob → Fr → Option Fr)
  (fun ls _ fr => match Region.ready .any ops ls with | [] => some fr | _ :: _ => none)
  (fun _ ih ls ob fr => match fr with | ⟨E, D, s⟩ => match Region.ready .any ops ls with
    | [] => some ⟨E, D, s⟩
    | i :: r => match fstRd ops (i :: r) with
      | some i => match ops[i]? with
        | some o => match Region.free .any ops ls i with
          | false => none
          | true => match wants gl ops E o with
            | some true => match rd2 P s (rho gl E) o with
              | some v => putE n E o.dst v fun E' => ih (ls.setIfInBounds i true) (⟨i, o, E, v⟩ :: ob) ⟨E', D, s⟩
              | none => none
            | some false => putE n E o.dst (.v undef) fun E => ih (ls.setIfInBounds i true) ob ⟨E, D, s⟩
            | none => none
        | none => none
      | none => match r with
        | [] => match ops[i]? with
          | some o => match stepG P gl call n ops o E D s with
            | some fr => match fr with | ⟨E, D, s⟩ => match obsOk P gl ops i s ob with
              | true => ih (ls.setIfInBounds i true) (obsRest ops i ob) ⟨E, D, s⟩
              | false => none
            | none => none
          | none => none
        | _ :: _ => none) fuel
noncomputable def evReg (P : Program) (gl : GlF) (call : CallF) (n : Nat) (ops : Array Oper) (draw : Bool) (fr : Fr) : Option Fr := match draw with
  | false => evOps P gl call n ops ops.toList fr
  | true => match Region.noSelect ops with
    | true => evDraw P gl call n ops ops.size (Array.replicate ops.size false) [] fr
    | false => none
noncomputable def evLoop (body : Fr → Option (X × Fr)) (fuel : Nat) : Fr → Option (X × Fr) := Nat.rec (motive := fun _ => Fr → Option (X × Fr)) (fun _ => none)
  (fun _ ih fr => match body fr with
    | some (x, fr) => match x with
      | .nm => ih fr
      | x => some (x, fr)
    | none => none) fuel
noncomputable def evC (P : Program) (gl : GlF) (call : CallF) (n : Nat) (c : Code) : Fr → Option (X × Fr) := Code.rec (motive := fun _ => Fr → Option (X × Fr))
  (fun fr => some (.nm, fr))
  (fun _ ops draw fr => match evReg P gl call n ops draw fr with | some fr => some (.nm, fr) | none => none)
  (fun _ _ ia ib fr => match ia fr with
    | some (x, fr) => match x with
      | .nm => ib fr
      | x => some (x, fr)
    | none => none)
  (fun c _ _ ia ib fr => match rho gl fr.E c with
    | .b t => match t with | true => ia fr | false => ib fr
    | _ => none)
  (fun id _ ib fr => match ib fr with
    | some (x, fr) => match x with
      | .ex i => bif Nat.beq i id then some (.nm, fr) else some (.ex i, fr)
      | x => some (x, fr)
    | none => none)
  (fun _ ib fr => evLoop ib 1000000 fr)
  (fun _ _ _ _ _ _ _ => none)
  (fun id fr => some (.ex id, fr))
  (fun _ _ _ => none)
  (fun _ fr => some (.nm, fr))
  (fun _ _ => none)
  (fun fr => some (.rt, fr))
  (fun _ _ => none) c
/-- The slots at a call's beginning. -/
noncomputable def iniE {α : Type} (as : List A) : Nat → Tr A → (Tr A → α) → α := List.rec (motive := fun _ => Nat → Tr A → (Tr A → α) → α) (fun _ E k => k E)
  (fun a _ ih i E k => Tr.setK (some a) (pth i) E fun E => ih (i + 1) E k) as
/-- What a call hands back. -/
noncomputable def resA (P : Program) (gl : GlF) (s : S) (E : Tr A) (l : List ResultVar) : Option (List A) := List.rec (motive := fun _ => Option (List A)) (some [])
  (fun x _ ih => match x with
    | .tmp t => match ih with | some r => frc (rho gl E (.tmp t)) fun a => some (a :: r) | none => none
    | .cell a t => match ldA P t s (rho gl E (.tmp a)) with
      | some v => match ih with | some r => some (v :: r) | none => none
      | none => none) l
noncomputable def tupA (l : List A) : A := match l with
  | [] => .t []
  | v :: r => match r with | [] => v | _ :: _ => .t (v :: r)
noncomputable def tupK {α : Type} (l : List A) (k : A → α) : α := match l with
  | [] => k (.t [])
  | v :: r => match r with | [] => k v | x :: r => k (.t (v :: x :: r))
/-- The deferred calls are all known to do nothing. -/
noncomputable def nops (nop : FuncId → Bool) (l : List (FuncId × List A)) : Bool := List.rec (motive := fun _ => Bool) true (fun x _ ih => match nop x.1 with | true => ih | false => false) l
noncomputable def evF (P : Program) (gl : GlF) (bi : FuncId → Option (List A → S → Option (A × S))) (nop : FuncId → Bool) (fuel : Nat) : CallF := Nat.rec (motive := fun _ => CallF) (fun _ _ _ => none)
  (fun _ ih f as s => match bi f with
    | some b => b as s
    | none => match P.funcs[f]? with
      | some fn => match fn.body with
        | some c => bif Nat.ble (lnA as) fn.ntmps && Nat.ble fn.ntmps 100000 && !(fn.name == "runtime.NumGoroutine") then
            iniE as 0 .e fun E => match evC P gl ih fn.ntmps c ⟨E, [], s⟩ with
              | some (x, fr) => match x with
                | .ex _ => none
                | _ => match fr with | ⟨E, D, s⟩ => match nops nop D with
                  | true => match resA P gl s E fn.results.toList with
                    | some r => tupK r fun r => some (r, s)
                    | none => none
                  | false => none
              | none => none
            else none
        | none => none
      | none => none) fuel
end Go.V
namespace Go.V
open Go

/-! ### Functions without a text -/
noncomputable def bytS (s : S) (x : A) : Option (List Nat) := match x with
  | .str l => some l
  | .s l o n _ _ => match ob s l with
    | some (.c _ _ _ cs) => match tk n (dp o cs) with
      | some q => bysA q
      | none => none
    | _ => none
  | .v (.slice none 0 _) => some []
  | _ => none
noncomputable def cntN (c : Nat) (l : List Nat) : Nat := List.rec (motive := fun _ => Nat) 0 (fun b _ ih => bif Nat.beq b c then Nat.succ ih else ih) l
noncomputable def idxN (c : Nat) (l : List Nat) : Nat → Option Nat := List.rec (motive := fun _ => Nat → Option Nat) (fun _ => none) (fun b _ ih i => bif Nat.beq b c then some i else ih (Nat.succ i)) l
noncomputable def xCount (as : List A) (s : S) : Option (A × S) := match as with
  | [x, .i .u8 (.ofNat c)] => match bytS s x with
    | some l => bif byt l && Nat.blt c 256 then fN (cntN c l) fun n => some (.i .i64 (.ofNat n), s) else none
    | none => none
  | _ => none
noncomputable def xIndexByte (as : List A) (s : S) : Option (A × S) := match as with
  | [x, .i .u8 (.ofNat c)] => match bytS s x with
    | some l => bif byt l && Nat.blt c 256 then match idxN c l 0 with
        | some i => fN i fun i => some (.i .i64 (.ofNat i), s)
        | none => some (.i .i64 (.negSucc 0), s)
      else none
    | none => none
  | _ => none
noncomputable def xFrombits (as : List A) (s : S) : Option (A × S) := match as with
  | [.i .u64 (.ofNat n)] => some (.v (.float .f64 n), s)
  | _ => none
noncomputable def xBits (as : List A) (s : S) : Option (A × S) := match as with
  | [.v (.float .f64 n)] => some (.i .u64 (.ofNat n), s)
  | _ => none
noncomputable def xSame (as : List A) (s : S) : Option (A × S) := match as with
  | [x] => some (x, s)
  | _ => none
noncomputable def xNoZero (e : TypeId) (as : List A) (s : S) : Option (A × S) := match as with
  | [.i .i64 (.ofNat n)] => bif Nat.ble n 16777216 then newC (.c e false 1 []) s fun q s => some (.s q 0 n false 0, s) else none
  | _ => none
noncomputable def xClone (as : List A) (s : S) : Option (A × S) := match as with
  | [.x t (.m l)] => match ob s l with
    | some (.mp es ck) => newC (.mp es ck) s fun q s => some (.x t (.m q), s)
    | _ => none
  | _ => none
end Go.V
namespace Go.V
open Go

structure GLok (gl : GlF) (φ : Val) (m : Nat) : Prop where
  ok : ∀ g l, gl g = some l → l < m ∧ (φ l).blk = g ∧ (φ l).base = 0
/-- The slots. -/
structure VE (φ : Val) (m n : Nat) (E : Tr A) (a : Act) : Prop where
  size : a.tmps.size = n
  few : n ≤ most
  val : ∀ t, a.tmps.getD t undef = den φ (rho (fun _ => none) E (.tmp t))
  bel : ∀ t, below m (rho (fun _ => none) E (.tmp t))
/-- The calls that are put off. -/
def VD (φ : Val) (m : Nat) : List (FuncId × List A) → List Deferred → Prop
  | [], ds => ds = []
  | x :: D, ds => ∃ cap args rest, ds = { target := .fn (.func x.1) cap, args := args } :: rest ∧ args ++ cap = (denL φ x.2).toArray ∧ belowL m x.2 ∧ VD φ m D rest
structure St (gl : GlF) (n : Nat) (φ : Val) (fr : Fr) (a : Act) (w : World) : Prop where
  R : Rel φ fr.s w
  G : GLok gl φ fr.s.n
  V : VE φ fr.s.n n fr.E a
  D : VD φ fr.s.n fr.D a.defers

section
variable {P : Program} {gl : GlF} {φ φ' : Val} {s s' : S} {w w' : World} {n m : Nat} {E : Tr A} {D : List (FuncId × List A)} {a : Act}
theorem GLok.ext (h : GLok gl φ s.n) (x : Ext φ s w φ' s' w') : GLok gl φ' s'.n := ⟨fun g l hg => by
  obtain ⟨h1, h2, h3⟩ := h.ok g l hg
  rw [x.agree l h1]
  exact ⟨Nat.lt_of_lt_of_le h1 x.le, h2, h3⟩⟩
theorem VE.ext (h : VE φ s.n n E a) (x : Ext φ s w φ' s' w') : VE φ' s'.n n E a :=
  ⟨h.size, h.few, fun t => (h.val t).trans (den_congr x.agree _ (h.bel t)).symm, fun t => below_mono x.le _ (h.bel t)⟩
theorem VD.ext (x : Ext φ s w φ' s' w') : ∀ {D : List (FuncId × List A)} {ds : List Deferred}, VD φ s.n D ds → VD φ' s'.n D ds
  | [], _, h => h
  | _ :: _, _, ⟨cap, args, rest, h1, h2, h3, h4⟩ => ⟨cap, args, rest, h1, by rw [h2, denL_congr x.agree _ h3], belowL_mono x.le _ h3, VD.ext x h4⟩
theorem rho_tmp (gl gl' : GlF) (E : Tr A) (t : Nat) : rho gl E (.tmp t) = rho gl' E (.tmp t) := rfl
theorem rho_den (G : GLok gl φ m) (V : VE φ m n E a) (x : Operand) : a.eval x = den φ (rho gl E x) := by
  cases x with
  | tmp t => exact V.val t
  | const v => exact (den_ofV φ v).symm
  | func f => simp [Act.eval, rho, den, denL]
  | global g =>
    simp only [Act.eval, rho]
    cases hg : gl g with
    | none => rfl
    | some l =>
      obtain ⟨_, h2, h3⟩ := G.ok g l hg
      simp [den, h2, h3]
theorem rho_below (G : GLok gl φ m) (V : VE φ m n E a) (x : Operand) : below m (rho gl E x) := by
  cases x with
  | tmp t => exact V.bel t
  | const v => exact below_ofV _ v
  | func f => simp [rho, below, belowL]
  | global g =>
    simp only [rho]
    cases hg : gl g with
    | none => trivial
    | some l => exact (G.ok g l hg).1
theorem eval_eq (G : GLok gl φ m) (V : VE φ m n E a) : a.eval = fun x => den φ (rho gl E x) := funext (rho_den G V)

theorem tmp_get {E : Tr A} {t : Nat} (h : t < most) : rho (fun _ => none) E (.tmp t) = (match Tr.get (pth t) E with | some v => v | none => .v undef) := by
  have : Nat.blt t most = true := by simpa [Nat.blt_eq] using h
  simp only [rho, this, cond_true] <;> (cases Tr.get (pth t) E <;> rfl)
theorem tmp_out {E : Tr A} {t : Nat} (h : ¬ t < most) : rho (fun _ => none) E (.tmp t) = .v undef := by
  have : Nat.blt t most = false := by
    cases hb : Nat.blt t most with
    | false => rfl
    | true => exact absurd (by simpa [Nat.blt_eq] using hb) h
  simp only [rho, this, cond_false]
theorem pth_inj {i j : Nat} (hi : i < most) (hj : j < most) (h : pth i = pth j) : i = j := pa_inj hi hj h
/-- A slot is filled. -/
theorem VE.set (V : VE φ m n E a) {d : Nat} (hd : d < n) {v : A} (hv : below m v) : VE φ m n (E.set (some v) (pth d)) (a.put (some d) (den φ v)) := by
  have hdm : d < most := Nat.lt_of_lt_of_le hd V.few
  refine ⟨by simp [Act.put, V.size], V.few, fun t => ?_, fun t => ?_⟩
  · by_cases ht : t < most
    · rw [tmp_get ht]
      by_cases he : d = t
      · subst he
        rw [Tr.get_set_self]
        simp [Act.put, V.size, hd]
      · rw [Tr.get_set_ne _ _ _ _ (fun e => he (pth_inj hdm ht e)), ← tmp_get ht, ← V.val t]
        simp [Act.put, Array.getElem?_setIfInBounds_ne he]
    · have he : d ≠ t := fun e => ht (e ▸ hdm)
      rw [tmp_out ht, ← tmp_out (E := E) ht, ← V.val t]
      simp [Act.put, Array.getElem?_setIfInBounds_ne he]
  · by_cases ht : t < most
    · rw [tmp_get ht]
      by_cases he : d = t
      · subst he
        rw [Tr.get_set_self]; exact hv
      · rw [Tr.get_set_ne _ _ _ _ (fun e => he (pth_inj hdm ht e)), ← tmp_get ht]; exact V.bel t
    · rw [tmp_out ht]; trivial
theorem putE_eq {α : Type} {dst : Option Tmp} {v : A} {k : Tr A → Option α} {r : α} (h : putE n E dst v k = some r) : ∃ E', k E' = some r ∧ ∀ {φ m a}, VE φ m n E a → below m v → VE φ m n E' (a.put dst (den φ v)) := by
  cases dst with
  | none => exact ⟨E, h, fun V _ => V⟩
  | some d =>
    unfold putE at h
    obtain ⟨h1, h2⟩ := bif_some' h
    rw [Tr.setK_eq] at h2
    exact ⟨_, h2, fun V hv => V.set (by simpa [Nat.blt_eq] using h1) hv⟩

/-! ### Calls -/
/-- What a call that is known does. -/
def CallW (P : Program) (f : FuncId) (args : Array Value) (w : World) (R : Value → World → Prop) : Prop :=
  (∃ v w', R v w' ∧ (callFunc f args).run P w = .ok (.value v) w') ∨
  ((callFunc f args).run P w = .ok (.enter f args) w ∧ Calls P f args w fun e w' => ∃ v, e = .returned v ∧ R v w')
def CallOK (P : Program) (gl : GlF) (call : CallF) : Prop := ∀ f as s r s' φ w, call f as s = some (r, s') → Rel φ s w → GLok gl φ s.n → belowL s.n as →
  CallW P f (denL φ as).toArray w fun v w' => ∃ φ', Stp φ s w φ' s' w' ∧ below s'.n r ∧ v = den φ' r

theorem clA_spec {c : Call} {g : FuncId} {as : List A} (h : clA gl E c = some (g, as)) (G : GLok gl φ m) (V : VE φ m n E a) :
    belowL m as ∧ ∃ cap args, args ++ cap = (denL φ as).toArray ∧ ∀ ty w, (resolve (fun x => den φ (rho gl E x)) c ty).run P w = .ok { target := .fn (.func g) cap, args := args } w := by
  unfold clA at h
  obtain ⟨cal, args, ats⟩ := c
  cases cal with
  | invoke _ _ => cases h
  | builtin _ => cases h
  | value f =>
  simp only at h
  split at h
  · rename_i g' cs hf
    rw [mpK_eq, apA_eq] at h
    cases h
    have hb := rho_below G V f
    rw [hf] at hb
    refine ⟨?_, (denL φ cs).toArray, args.map fun x => den φ (rho gl E x), ?_, fun ty w => ?_⟩
    · rw [belowL_iff]
      intro z hz
      rcases List.mem_append.1 hz with hz | hz
      · obtain ⟨q, _, rfl⟩ := List.mem_map.1 hz; exact rho_below G V q
      · exact belowL_iff.1 (show belowL m cs from hb) z hz
    · apply Array.ext'; simp [denL_map, Function.comp_def]
    · simp only [resolve, hf, den, Deferred.ofValue, Sem.run, List.append_assoc]
      simp
  · cases h
theorem St.stp {E' : Tr A} {a' : Act} (S : St gl n φ ⟨E, D, s⟩ a w) (h : Stp φ s w φ' s' w') (V : VE φ' s'.n n E' a') (hd : a'.defers = a.defers) : St gl n φ' ⟨E', D, s'⟩ a' w' :=
  ⟨h.1, S.G.ext h.2, V, by rw [hd]; exact S.D.ext h.2⟩
theorem put_defers (a : Act) (dst : Option Tmp) (v : Value) : (a.put dst v).defers = a.defers := by cases dst <;> rfl

/-- Where a walk goes. -/
def Goes (gl : GlF) (n : Nat) (φ : Val) (s : S) (w : World) (fr' : Fr) (a' : Act) (w' : World) : Prop := ∃ φ', Ext φ s w φ' fr'.s w' ∧ St gl n φ' fr' a' w'

theorem stepOp_ok {call : CallF} (hc : CallOK P gl call) {o : Oper} {fr' : Fr} (h : stepOp P gl call n o E D s = some fr') (S : St gl n φ ⟨E, D, s⟩ a w) {K : Act → World → Prop} {Q : Exit → Act → World → Prop}
    (hK : ∀ a' w', Goes gl n φ s w fr' a' w' → K a' w') : o.wp P a w K Q := by
  unfold Oper.wp
  have he := eval_eq S.G S.V
  have hb := rho_below S.G S.V
  unfold stepOp at h
  split at h
  · rename_i r hr
    obtain ⟨h1, h2⟩ := rd2_run hr S.R hb
    obtain ⟨E', hk, hV⟩ := putE_eq h
    cases hk
    rw [he, h1]
    exact hK _ _ ⟨φ, Ext.refl _ _ _, S.stp S.R.refl (hV S.V h2) (put_defers ..)⟩
  · split at h
    · rename_i r s1 hr
      obtain ⟨φ', w', h1, h2, h3⟩ := chO_run hr S.R hb
      obtain ⟨E', hk, hV⟩ := putE_eq h
      cases hk
      have hV' := hV (S.V.ext h1.2) h2
      rw [he]
      rcases h3 with h3 | ⟨h3, h4⟩
      · rw [h3]; exact hK _ _ ⟨φ', h1.2, S.stp h1 hV' (put_defers ..)⟩
      · rw [h3]; rw [h4] at hV'; exact hK _ _ ⟨φ', h1.2, S.stp h1 hV' (put_defers ..)⟩
    · split at h
      · rename_i c ho
        split at h
        · rename_i g as hcl
          split at h
          · rename_i r s1 hr
            obtain ⟨E', hk, hV⟩ := putE_eq h
            cases hk
            obtain ⟨hbl, cap, args, hca, hres⟩ := clA_spec (P := P) hcl S.G S.V
            have hrun : (execOp (fun x => den φ (rho gl E x)) o).run P w = (callFunc g (denL φ as).toArray).run P w := by
              unfold execOp
              simp only [ho, Sem.run_bind, hres, Result.andThen_ok, invoke, hca]
            rw [he, hrun]
            rcases hc g as s r s1 φ w hr S.R S.G hbl with ⟨v, w', ⟨φ', h1, h2, rfl⟩, h3⟩ | ⟨h3, h4⟩
            · rw [h3]; exact hK _ _ ⟨φ', h1.2, S.stp h1 (hV (S.V.ext h1.2) h2) (put_defers ..)⟩
            · rw [h3]
              refine Calls.mono h4 fun e w' ⟨v, hv, φ', h1, h2, h5⟩ => ?_
              subst hv; subst h5
              exact hK _ _ ⟨φ', h1.2, S.stp h1 (hV (S.V.ext h1.2) h2) (put_defers ..)⟩
          · cases h
        · cases h
      · rename_i c ho
        split at h
        · rename_i g as hcl
          obtain ⟨E', hk, hV⟩ := putE_eq h
          cases hk
          obtain ⟨hbl, cap, args, hca, hres⟩ := clA_spec (P := P) hcl S.G S.V
          have hrun : (execOp (fun x => den φ (rho gl E x)) o).run P w = .ok (.defer { target := .fn (.func g) cap, args := args }) w := by
            unfold execOp
            simp only [ho, Sem.run_bind, hres, Result.andThen_ok, Sem.run]
            rfl
          rw [he, hrun]
          refine hK _ _ ⟨φ, Ext.refl _ _ _, S.R, S.G, ?_, ?_⟩
          · have V0 : VE φ s.n n E { a with defers := { target := .fn (.func g) cap, args := args } :: a.defers } := ⟨S.V.size, S.V.few, S.V.val, S.V.bel⟩
            exact hV V0 trivial
          · rw [put_defers]
            exact ⟨cap, args, a.defers, rfl, hca, hbl, S.D⟩
        · cases h
      · cases h

theorem wants_ok {ops : Array Oper} {o : Oper} {b : Bool} (h : wants gl ops E o = some b) (V : VE φ m n E a) : Region.wanted o (yielded ops a.tmps) = b := by
  unfold wants at h
  unfold Region.wanted
  split at h
  · rename_i hg; rw [hg]; cases h; rfl
  · rename_i j want hg
    rw [hg]
    split at h
    · rename_i q hq
      split at h
      · rename_i d hd
        have hv := V.val d
        have hy : yielded ops a.tmps j = match a.tmps[d]? with | some (.bool b) => some b | _ => none := by
          unfold yielded
          simp only [hq, hd, Option.bind_some]
          cases a.tmps[d]? with
          | none => rfl
          | some y => cases y <;> rfl
        have hr : rho gl E (.tmp d) = rho (fun _ => none) E (.tmp d) := rfl
        rw [hr] at h
        rw [Array.getD_eq_getD_getElem?] at hv
        show (yielded ops a.tmps j == some want) = b
        rw [hy]
        have key : ∀ x, rho (fun _ => none) E (.tmp d) = x → (∀ t, x ≠ .b t) → (∀ c, den φ x ≠ .bool c) → b = false → ((match a.tmps[d]? with | some (.bool b) => some b | _ => none) == some want) = b := by
          intro x hx _ hn hb
          subst hb
          rw [hx] at hv
          cases ht : a.tmps[d]? with
          | none => simp
          | some y =>
            rw [ht] at hv
            simp only [Option.getD_some] at hv
            subst hv
            split
            · rename_i b' hb'
              simp only [Option.some.injEq] at hb'
              exact absurd hb' (hn b')
            · rfl
        split at h
        · rename_i t ht
          rw [ht] at hv
          cases hd' : a.tmps[d]? with
          | none => rw [hd'] at hv; simp [den, undef] at hv
          | some y =>
            rw [hd'] at hv
            simp only [Option.getD_some, den] at hv
            subst hv
            cases t
            · simp only [Option.some.injEq] at h
              subst h
              cases want <;> rfl
            · simp only [Option.some.injEq] at h
              subst h
              cases want <;> rfl
        · rename_i x hx
          split at h
          · cases h
            exact key _ hx (by simp) (by simp [den]) rfl
          · cases h
        · cases h
      · cases h
    · cases h

theorem stepG_ok {call : CallF} (hc : CallOK P gl call) {ops : Array Oper} {o : Oper} {fr' : Fr} (h : stepG P gl call n ops o E D s = some fr') (S : St gl n φ ⟨E, D, s⟩ a w) {K : Act → World → Prop} {Q : Exit → Act → World → Prop}
    (hK : ∀ a' w', Goes gl n φ s w fr' a' w' → K a' w') :
    if Region.wanted o (yielded ops a.tmps) then o.wp P a w K Q ∨ (o.asks P a w ∧ LetsOut Q) else K (a.put o.dst undef) w := by
  unfold stepG at h
  split at h
  · rename_i hw
    rw [wants_ok hw S.V, if_pos rfl]
    exact .inl (stepOp_ok hc h S hK)
  · rename_i hw
    rw [wants_ok hw S.V, if_neg (by simp)]
    obtain ⟨E', hk, hV⟩ := putE_eq h
    cases hk
    exact hK _ _ ⟨φ, Ext.refl _ _ _, S.stp S.R.refl (hV S.V trivial) (put_defers ..)⟩
  · cases h

theorem evOps_ok {call : CallF} (hc : CallOK P gl call) {ops : Array Oper} {Q : Exit → Act → World → Prop} : ∀ {l : List Oper} {fr fr' : Fr} {φ : Val} {a : Act} {w : World}, evOps P gl call n ops l fr = some fr' → St gl n φ fr a w →
    (∀ a' w', Goes gl n φ fr.s w fr' a' w' → Q .normal a' w') → wpList P ops Q l a w
  | [], fr, fr', φ, a, w, h, S, hQ => by
    cases h
    exact hQ _ _ ⟨φ, Ext.refl _ _ _, S⟩
  | o :: l, ⟨E, D, s⟩, fr', φ, a, w, h, S, hQ => by
    have h' : (match stepG P gl call n ops o E D s with | some fr => evOps P gl call n ops l fr | none => none) = some fr' := h
    split at h'
    · rename_i fr1 h1
      unfold wpList
      exact stepG_ok hc h1 S fun a' w' ⟨φ', x, S'⟩ => evOps_ok hc h' S' fun a'' w'' ⟨φ'', x', S''⟩ => hQ _ _ ⟨φ'', x.trans x', S''⟩
    · cases h'
end
end Go.V
namespace Go.V
open Go

section
variable {P : Program} {gl : GlF} {φ φ' : Val} {s s' : S} {w w' : World} {n m : Nat} {E : Tr A} {D : List (FuncId × List A)} {a : Act} {md : Region.Mode} {ops : Array Oper} {Q : Exit → Act → World → Prop}
/-- Obligations that hold everywhere may be had for nothing. -/
theorem wpI.weak2 : ∀ {n : Nat} {Ob Ob' : Obl} {ls : Array Bool} {a : Act} {w : World}, (∀ x ∈ Ob', x ∈ Ob ∨ ∀ w, x.2 w) → wpI P md ops Q n Ob ls a w → wpI P md ops Q n Ob' ls a w
  | 0, _, _, _, _, _, _, h => h
  | n + 1, Ob, Ob', ls, a, w, hs, ⟨h0, h1⟩ => ⟨h0, fun j hj => wpOp_mono (fun _ _ hh => ⟨fun x hx => (hs x hx).elim (hh.1 x) fun h => .inr (h _), hh.2.weak2 fun x hx => by
      rw [List.mem_filter] at hx
      rcases hs x hx.1 with h | h
      · exact .inl (List.mem_filter.2 ⟨h, hx.2⟩)
      · exact .inr h⟩) (h1 j hj)⟩

theorem same1_den {a b : A} (h : same1 a b = true) (φ : Val) : den φ a = den φ b := by
  unfold same1 at h
  split at h
  · rw [Bool.and_eq_true, decide_eq_true_eq, beq_iff_eq] at h
    rw [h.1, h.2]
  · rw [beq_iff_eq] at h; rw [h]
  · rw [(eqN_iff _ _).1 h]
  · rw [Bool.and_eq_true] at h
    rw [Nat.eq_of_beq_eq_true h.1, Nat.eq_of_beq_eq_true h.2]
  · simp only [Bool.and_eq_true] at h
    obtain ⟨⟨⟨⟨h1, h2⟩, h3⟩, h4⟩, h5⟩ := h
    rw [Nat.eq_of_beq_eq_true h1, Nat.eq_of_beq_eq_true h2, Nat.eq_of_beq_eq_true h3, eq_of_beq h4, Nat.eq_of_beq_eq_true h5]
  · rw [Nat.eq_of_beq_eq_true h]
  · rfl
  · rfl
  · rfl
  · rfl
  · rfl
  · rw [Bool.and_eq_true, decide_eq_true_eq] at h
    rw [h.1, Nat.eq_of_beq_eq_true h.2]
  · cases h
theorem sameL_den (φ : Val) : ∀ {l m : List A}, sameL l m = true → denL φ l = denL φ m
  | [], [], _ => rfl
  | [], _ :: _, h => by cases h
  | _ :: _, [], h => by cases h
  | a :: l, b :: m, h => by
    have h' : (match same1 a b with | true => sameL l m | false => false) = true := h
    split at h'
    · rename_i h1
      simp only [denL]
      rw [same1_den h1, sameL_den φ h']
    · cases h'
theorem sameA_den {a b : A} (h : sameA a b = true) (φ : Val) : den φ a = den φ b := by
  unfold sameA at h
  split at h
  · split at h
    · simp only [den]; rw [sameL_den φ h]
    · cases h
  · exact same1_den h φ

theorem Rel.empty (R : Rel φ s w) (u : World) : Rel φ ⟨.e, s.n⟩ u :=
  ⟨R.few, fun p o h => absurd ((Tr.get_e p).symm.trans h) (by simp), fun p o h => absurd ((Tr.get_e p).symm.trans h) (by simp), fun p q o o' h => absurd ((Tr.get_e p).symm.trans h) (by simp)⟩
theorem rd2_pure {ρ : Rd} {o : Oper} (h : isPure o.op = true) (s s' : S) : rd2 P s ρ o = rd2 P s' ρ o := by
  obtain ⟨dst, op, ty, pos, af, gu⟩ := o
  cases op <;> first | rfl | cases h

/-- What is owed for the readings that have been taken. -/
def ObR (P : Program) (gl : GlF) (φ : Val) (m : Nat) : List Ob → Obl → Prop
  | [], l => l = []
  | x :: ob, l => ∃ S l', l = (x.i, S) :: l' ∧ ((isPure x.o.op = true ∧ S = fun _ => True) ∨ (isPure x.o.op = false ∧ (∀ y, below m (rho gl x.E y)) ∧ below m x.v ∧ S = fun u => (execOp (fun y => den φ (rho gl x.E y)) x.o).run P u = .ok (.value (den φ x.v)) u)) ∧ ObR P gl φ m ob l'
theorem ObR.ext (x : Ext φ s w φ' s' w') : ∀ {ob : List Ob} {l : Obl}, ObR P gl φ s.n ob l → ObR P gl φ' s'.n ob l
  | [], _, h => h
  | y :: ob, _, ⟨S, l', h1, h2, h3⟩ => by
    refine ⟨S, l', h1, h2.imp id fun ⟨h0, h4, h5, h6⟩ => ⟨h0, fun z => below_mono x.le _ (h4 z), below_mono x.le _ h5, ?_⟩, h3.ext x⟩
    have e1 : (fun z => den φ' (rho gl y.E z)) = fun z => den φ (rho gl y.E z) := funext fun z => den_congr x.agree _ (h4 z)
    rw [h6, e1, den_congr x.agree _ h5]
theorem obsRest_ok {j : Nat} : ∀ {ob : List Ob} {l : Obl}, ObR P gl φ m ob l → ObR P gl φ m (obsRest ops j ob) (l.filter fun x => !beh .any ops x.1 j)
  | [], _, h => by rw [show _ = [] from h]; rfl
  | y :: ob, _, ⟨S, l', h1, h2, h3⟩ => by
    subst h1
    have he : obsRest ops j (y :: ob) = match beh .any ops y.i j with | true => obsRest ops j ob | false => y :: obsRest ops j ob := rfl
    rw [he, List.filter_cons]
    cases hb : beh .any ops y.i j with
    | true =>
      simp only [Bool.not_true, Bool.false_eq_true, if_false]
      exact obsRest_ok h3
    | false =>
      simp only [Bool.not_false, if_true]
      exact ⟨S, _, rfl, h2, obsRest_ok h3⟩
theorem obsOk_ok {j : Nat} (R : Rel φ s w) : ∀ {ob : List Ob} {l : Obl}, obsOk P gl ops j s ob = true → ObR P gl φ s.n ob l → ∀ x ∈ l, beh .any ops x.1 j = true ∨ x.2 w
  | [], _, _, h, x, hx => by rw [show _ = [] from h] at hx; cases hx
  | y :: ob, _, hk, ⟨S, l', h1, h2, h3⟩, x, hx => by
    subst h1
    have he : obsOk P gl ops j s (y :: ob) = match beh .any ops y.i j with
      | true => obsOk P gl ops j s ob
      | false => match isPure y.o.op with
        | true => obsOk P gl ops j s ob
        | false => match rd2 P s (rho gl y.E) y.o with
          | some v => match sameA v y.v with | true => obsOk P gl ops j s ob | false => false
          | none => false := rfl
    rw [he] at hk
    have key : obsOk P gl ops j s ob = true ∧ (beh .any ops y.i j = true ∨ S w) := by
      split at hk
      · rename_i hb; exact ⟨hk, .inl hb⟩
      · split at hk
        · rename_i hp
          refine ⟨hk, .inr ?_⟩
          rcases h2 with ⟨_, h2⟩ | ⟨h4, _⟩
          · rw [h2]; trivial
          · rw [h4] at hp; cases hp
        · rename_i hp
          split at hk
          · rename_i v hv
            split at hk
            · rename_i hs
              refine ⟨hk, .inr ?_⟩
              rcases h2 with ⟨h2, _⟩ | ⟨_, h4, h5, h6⟩
              · rw [h2] at hp; cases hp
              · rw [h6]
                have := (rd2_run hv R h4).1
                rw [sameA_den hs φ] at this
                exact this
            · cases hk
          · cases hk
    rcases List.mem_cons.1 hx with rfl | hx
    · exact key.2
    · exact obsOk_ok R key.1 h3 x hx

theorem fstRd_ok {i : Nat} : ∀ {r : List Nat}, fstRd ops r = some i → i ∈ r ∧ ∃ o, ops[i]? = some o ∧ isRd o.op = true
  | [], h => by cases h
  | j :: r, h => by
    have he : fstRd ops (j :: r) = match ops[j]? with
      | some o => match isRd o.op with
        | true => match o.dst with | some _ => some j | none => fstRd ops r
        | false => fstRd ops r
      | none => fstRd ops r := rfl
    rw [he] at h
    have key : fstRd ops r = some i → i ∈ j :: r ∧ ∃ o, ops[i]? = some o ∧ isRd o.op = true := fun h => by
      obtain ⟨h1, h2⟩ := fstRd_ok h
      exact ⟨List.mem_cons_of_mem _ h1, h2⟩
    split at h
    · rename_i o ho
      split at h
      · rename_i hr
        split at h
        · cases h; exact ⟨List.mem_cons_self .., o, ho, hr⟩
        · exact key h
      · exact key h
    · exact key h

theorem evDraw_ok {call : CallF} (hc : CallOK P gl call) (hs : Region.noSelect ops = true) (hQ : ∀ c a w, ¬ Q (.panic c) a w) :
    ∀ {fuel : Nat} {ls : Array Bool} {ob : List Ob} {l : Obl} {fr fr' : Fr} {φ : Val} {a : Act} {w : World}, evDraw P gl call n ops fuel ls ob fr = some fr' → St gl n φ fr a w → ObR P gl φ fr.s.n ob l → (∀ x ∈ l, x.2 w) →
    (∀ a' w', Goes gl n φ fr.s w fr' a' w' → Q .normal a' w') → wpI P .any ops Q fuel l ls a w
  | 0, ls, ob, l, fr, fr', φ, a, w, h, S, hob, hl, hK => by
    have h' : (match Region.ready .any ops ls with | [] => some fr | _ :: _ => none) = some fr' := h
    split at h'
    · rename_i hr
      cases h'
      exact ⟨hr, hK _ _ ⟨φ, Ext.refl _ _ _, S⟩⟩
    · cases h'
  | fuel + 1, ls, ob, l, ⟨E, D, s⟩, fr', φ, a, w, h, S, hob, hl, hK => by
    have h' : (match Region.ready .any ops ls with
      | [] => some ⟨E, D, s⟩
      | i :: r => match fstRd ops (i :: r) with
        | some i => match ops[i]? with
          | some o => match Region.free .any ops ls i with
            | false => none
            | true => match wants gl ops E o with
              | some true => match rd2 P s (rho gl E) o with
                | some v => putE n E o.dst v fun E' => evDraw P gl call n ops fuel (ls.setIfInBounds i true) (⟨i, o, E, v⟩ :: ob) ⟨E', D, s⟩
                | none => none
              | some false => putE n E o.dst (.v undef) fun E => evDraw P gl call n ops fuel (ls.setIfInBounds i true) ob ⟨E, D, s⟩
              | none => none
          | none => none
        | none => match r with
          | [] => match ops[i]? with
            | some o => match stepG P gl call n ops o E D s with
              | some fr => match fr with | ⟨E, D, s⟩ => match obsOk P gl ops i s ob with
                | true => evDraw P gl call n ops fuel (ls.setIfInBounds i true) (obsRest ops i ob) ⟨E, D, s⟩
                | false => none
              | none => none
            | none => none
          | _ :: _ => none) = some fr' := h
    split at h'
    · rename_i hr
      cases h'
      exact wpI.done hr (hK _ _ ⟨φ, Ext.refl _ _ _, S⟩)
    · rename_i i0 r hr
      split at h'
      · rename_i i hfst
        obtain ⟨hmem, o, ho, hrd⟩ := fstRd_ok hfst
        rw [← hr] at hmem
        rw [ho] at h'
        simp only at h'
        split at h'
        · cases h'
        · rename_i hfree
          have hQ' : ∀ v, ∀ c a w, Q (.panic c) (a.put o.dst v) w → Q (.panic c) a w := fun v c a w hq => absurd hq (hQ _ _ _)
          split at h'
          · rename_i hw
            have hw' := wants_ok hw S.V
            split at h'
            · rename_i v hv
              obtain ⟨E', hk, hV⟩ := putE_eq h'
              have he := eval_eq S.G S.V
              have hb := rho_below S.G S.V
              obtain ⟨h1, h2⟩ := rd2_run hv S.R hb
              have S1 : St gl n φ ⟨E', D, s⟩ (a.put o.dst (den φ v)) w := S.stp S.R.refl (hV S.V h2) (put_defers ..)
              cases hp : isPure o.op with
              | true =>
                refine wpI.take (S := fun _ => True) (v := den φ v) ho hs hfree hmem (hQ' _) (.inl ⟨hw', fun u _ => ?_⟩) trivial hl (evDraw_ok hc hs hQ (l := (i, fun _ => True) :: l) hk S1 ⟨_, l, rfl, .inl ⟨hp, rfl⟩, hob⟩ (fun x hx => ?_) hK)
                · rw [rd2_pure hp s ⟨.e, s.n⟩] at hv
                  rw [he]
                  exact (rd2_run hv (S.R.empty u) hb).1
                · rcases List.mem_cons.1 hx with rfl | hx
                  · trivial
                  · exact hl x hx
              | false =>
                refine wpI.take (S := fun u => (execOp (fun y => den φ (rho gl E y)) o).run P u = .ok (.value (den φ v)) u) (v := den φ v) ho hs hfree hmem (hQ' _) (.inl ⟨hw', fun u hu => ?_⟩) h1 hl
                  (evDraw_ok hc hs hQ (l := (i, fun u => (execOp (fun y => den φ (rho gl E y)) o).run P u = .ok (.value (den φ v)) u) :: l) hk S1 ⟨_, l, rfl, .inr ⟨hp, hb, h2, rfl⟩, hob⟩ (fun x hx => ?_) hK)
                · rw [he]; exact hu
                · rcases List.mem_cons.1 hx with rfl | hx
                  · exact h1
                  · exact hl x hx
            · cases h'
          · rename_i hw
            have hw' := wants_ok hw S.V
            obtain ⟨E', hk, hV⟩ := putE_eq h'
            have S1 : St gl n φ ⟨E', D, s⟩ (a.put o.dst undef) w := S.stp S.R.refl (hV S.V trivial) (put_defers ..)
            exact wpI.take (S := fun _ => True) (v := undef) ho hs hfree hmem (hQ' _) (.inr ⟨hw', rfl⟩) trivial hl
              (wpI.weak2 (Ob := l) (fun x hx => by
                rcases List.mem_cons.1 hx with rfl | hx
                · exact .inr fun _ => trivial
                · exact .inl hx) (evDraw_ok hc hs hQ (l := l) hk S1 hob hl hK))
          · cases h'
      · split at h'
        · split at h'
          · rename_i o ho
            split at h'
            · rename_i fr1 h1
              obtain ⟨E1, D1, s1⟩ := fr1
              simp only at h'
              split at h'
              · rename_i hok
                refine wpI.one hr ?_
                unfold wpOp
                rw [ho]
                refine stepG_ok hc h1 S fun a' w' ⟨φ', x, S'⟩ => ?_
                have hob' := hob.ext x
                have hall := obsOk_ok S'.R hok hob'
                refine ⟨hall, evDraw_ok hc hs hQ h' S' (obsRest_ok hob') (fun y hy => ?_) fun a'' w'' ⟨φ'', x', S''⟩ => hK _ _ ⟨φ'', x.trans x', S''⟩⟩
                rw [List.mem_filter] at hy
                exact (hall y hy.1).resolve_left (by simpa using hy.2)
              · cases h'
            · cases h'
          · cases h'
        · cases h'

theorem Rel.drawn (R : Rel φ s w) (k : Nat) : Stp φ s w φ s { w with drawn := k } :=
  ⟨⟨R.few, fun p o h => by have := R.ok p o h; cases o <;> exact this, R.lt, R.inj⟩, ⟨fun _ _ => rfl, Nat.le_refl _, rfl, rfl, rfl, Nat.le_refl _, fun _ _ _ h => ⟨h, rfl, rfl⟩, fun _ _ h => ⟨rfl, h⟩⟩⟩

/-- What is known where a walk ends. -/
def exitOf : X → Exit
  | .nm => .normal | .ex i => .exit i | .rt => .ret
def Pst (gl : GlF) (n : Nat) (φ : Val) (s : S) (w : World) (x : X) (fr' : Fr) : Exit → Act → World → Prop := fun e a' w' => e = exitOf x ∧ Goes gl n φ s w fr' a' w'

theorem evReg_ok (hm : P.follows .mixedOrders = true) {call : CallF} (hc : CallOK P gl call) {draw : Bool} {id : Nat} {fr fr' : Fr} (h : evReg P gl call n ops draw fr = some fr') (S : St gl n φ fr a w) :
    (Code.region id ops draw).wp P (Pst gl n φ fr.s w .nm fr') a w := by
  unfold evReg at h
  split at h
  · refine wp_region_list (evOps_ok hc h S fun a' w' hg => ⟨rfl, hg⟩)
  · split at h
    · rename_i hs
      obtain ⟨R', x⟩ := S.R.drawn (w.drawn + 1)
      refine wp_region_any hm (wpI.any (Ob := []) (evDraw_ok (l := []) hc hs (fun c a w hq => by cases hq.1) h ⟨R', S.G.ext x, S.V.ext x, S.D.ext x⟩ rfl (fun x hx => by cases hx) fun a' w' ⟨φ', x', S'⟩ => ⟨rfl, φ', x.trans x', S'⟩))
    · cases h
end
end Go.V
namespace Go.V
open Go

section
variable {P : Program} {gl : GlF} {φ φ' : Val} {s s' : S} {w w' : World} {n m : Nat} {E : Tr A} {D : List (FuncId × List A)} {a : Act}

theorem Pst.trans {x : X} {fr fr1 fr2 : Fr} {φ1 : Val} {a1 : Act} {w1 : World} (h : Ext φ fr.s w φ1 fr1.s w1) : ∀ e a' w', Pst gl n φ1 fr1.s w1 x fr2 e a' w' → Pst gl n φ fr.s w x fr2 e a' w' :=
  fun _ _ _ ⟨he, φ', x', S'⟩ => ⟨he, φ', h.trans x', S'⟩

theorem rounds_mono {c : Code} {Q Q' : Exit → Act → World → Prop} (hq : ∀ e a w, Q e a w → Q' e a w) : ∀ {k : Nat} {a : Act} {w : World}, Code.rounds P c Q k a w → Code.rounds P c Q' k a w
  | 0, _, _, h => h
  | k + 1, a, w, h => wp_mono (show c.wp P (Exit.then (Code.rounds P c Q k) Q) a w from h) fun e a w he => by
    cases e <;> first | exact rounds_mono hq he | exact hq _ _ _ he

theorem evLoop_ok {c : Code} {body : Fr → Option (X × Fr)} (hb : ∀ {fr x fr' φ a w}, body fr = some (x, fr') → St gl n φ fr a w → c.wp P (Pst gl n φ fr.s w x fr') a w) :
    ∀ {fuel : Nat} {fr fr' : Fr} {x : X} {φ : Val} {a : Act} {w : World}, evLoop body fuel fr = some (x, fr') → St gl n φ fr a w → Code.rounds P c (Pst gl n φ fr.s w x fr') fuel a w
  | 0, fr, fr', x, φ, a, w, h, S => by cases h
  | fuel + 1, fr, fr', x, φ, a, w, h, S => by
    have h' : (match body fr with
      | some (x, fr) => match x with
        | .nm => evLoop body fuel fr
        | x => some (x, fr)
      | none => none) = some (x, fr') := h
    split at h'
    · rename_i x1 fr1 h1
      have hw := hb h1 S
      rw [rounds_succ]
      split at h'
      · refine wp_mono hw fun e a' w' ⟨he, φ', x', S'⟩ => ?_
        subst he
        have ih := evLoop_ok hb h' S'
        show Code.rounds P c _ fuel a' w'
        exact rounds_mono (Pst.trans (a1 := a) x') ih
      · rename_i hne
        cases h'
        refine wp_mono hw fun e a' w' ⟨he, hg⟩ => ?_
        subst he
        cases x <;> first | exact ⟨rfl, hg⟩ | exact absurd rfl hne
    · cases h'

theorem evC_ok (hm : P.follows .mixedOrders = true) {call : CallF} (hc : CallOK P gl call) (c : Code) : ∀ {fr fr' : Fr} {x : X} {φ : Val} {a : Act} {w : World}, evC P gl call n c fr = some (x, fr') → St gl n φ fr a w →
    c.wp P (Pst gl n φ fr.s w x fr') a w := by
  induction c with
  | skip =>
    intro fr fr' x φ a w h S
    cases h
    exact wp_skip ⟨rfl, φ, Ext.refl _ _ _, S⟩
  | region id ops draw =>
    intro fr fr' x φ a w h S
    have h' : (match evReg P gl call n ops draw fr with | some fr => some (.nm, fr) | none => none) = some (x, fr') := h
    split at h'
    · rename_i fr1 h1
      cases h'
      exact evReg_ok hm hc h1 S
    · cases h'
  | seq c1 c2 ih1 ih2 =>
    intro fr fr' x φ a w h S
    have h' : (match evC P gl call n c1 fr with
      | some (x, fr) => match x with
        | .nm => evC P gl call n c2 fr
        | x => some (x, fr)
      | none => none) = some (x, fr') := h
    split at h'
    · rename_i x1 fr1 h1
      have hw := ih1 h1 S
      split at h'
      · refine wp_seq (wp_mono hw fun e a' w' ⟨he, φ', x', S'⟩ => ?_)
        subst he
        exact wp_mono (ih2 h' S') (Pst.trans (a1 := a) x')
      · rename_i hne
        cases h'
        refine wp_seq (wp_mono hw fun e a' w' ⟨he, hg⟩ => ?_)
        subst he
        cases x <;> first | exact ⟨rfl, hg⟩ | exact absurd rfl hne
    · cases h'
  | cond c c1 c2 ih1 ih2 =>
    intro fr fr' x φ a w h S
    have h' : (match rho gl fr.E c with
      | .b t => match t with | true => evC P gl call n c1 fr | false => evC P gl call n c2 fr
      | _ => none) = some (x, fr') := h
    split at h'
    · rename_i t ht
      have hv : a.eval c = .bool t := by rw [rho_den S.G S.V, ht]; rfl
      split at h'
      · exact wp_cond_true hv (ih1 h' S)
      · exact wp_cond_false hv (ih2 h' S)
    · cases h'
  | block id c ih =>
    intro fr fr' x φ a w h S
    have h' : (match evC P gl call n c fr with
      | some (x, fr) => match x with
        | .ex i => bif Nat.beq i id then some (.nm, fr) else some (.ex i, fr)
        | x => some (x, fr)
      | none => none) = some (x, fr') := h
    split at h'
    · rename_i x1 fr1 h1
      refine wp_block (wp_mono (ih h1 S) fun e a' w' ⟨he, hg⟩ => ?_)
      subst he
      split at h'
      · rename_i i _
        cases hb : Nat.beq i id with
        | true =>
          rw [hb] at h'
          cases h'
          have := Nat.eq_of_beq_eq_true hb
          subst this
          simp only [exitOf, Exit.inBlock, if_true]
          exact ⟨rfl, hg⟩
        | false =>
          rw [hb] at h'
          cases h'
          have : i ≠ id := fun e => by subst e; simp at hb
          simp only [exitOf, Exit.inBlock, if_neg this]
          exact ⟨rfl, hg⟩
      · rename_i hne
        cases h'
        cases x <;> first | exact ⟨rfl, hg⟩ | exact absurd rfl (hne _)
    · cases h'
  | loop c ih =>
    intro fr fr' x φ a w h S
    exact wp_loop_rounds _ (evLoop_ok (fun h S => ih h S) (show evLoop (evC P gl call n c) 1000000 fr = some (x, fr') from h) S)
  | exit id =>
    intro fr fr' x φ a w h S
    cases h
    exact wp_exit ⟨rfl, φ, Ext.refl _ _ _, S⟩
  | label l =>
    intro fr fr' x φ a w h S
    cases h
    exact wp_label ⟨rfl, φ, Ext.refl _ _ _, S⟩
  | ret =>
    intro fr fr' x φ a w h S
    cases h
    exact wp_ret ⟨rfl, φ, Ext.refl _ _ _, S⟩
  | _ => intro fr fr' x φ a w h S; cases h

/-! ### Functions -/
noncomputable def iniS : List A → Nat → Tr A → Tr A
  | [], _, E => E
  | a :: as, i, E => iniS as (i + 1) (E.set (some a) (pth i))
theorem iniE_eq {α : Type} : ∀ (as : List A) (i : Nat) (E : Tr A) (k : Tr A → α), iniE as i E k = k (iniS as i E)
  | [], _, _, _ => rfl
  | a :: as, i, E, k => by
    have : iniE (a :: as) i E k = Tr.setK (some a) (pth i) E fun E => iniE as (i + 1) E k := rfl
    rw [this, Tr.setK_eq, iniE_eq as]
    rfl
theorem iniS_get : ∀ (as : List A) (i : Nat) (E : Tr A) (t : Nat), i + as.length ≤ most → t < most → Tr.get (pth t) (iniS as i E) = if i ≤ t ∧ t < i + as.length then as[t - i]? else Tr.get (pth t) E
  | [], i, E, t, _, _ => by
    have : ¬ (i ≤ t ∧ t < i + ([] : List A).length) := by simp
    rw [if_neg this]; rfl
  | a :: as, i, E, t, h1, h2 => by
    simp only [List.length_cons] at h1
    show Tr.get (pth t) (iniS as (i + 1) (E.set (some a) (pth i))) = _
    rw [iniS_get as (i + 1) _ t (by omega) h2]
    simp only [List.length_cons]
    by_cases h : i = t
    · subst h
      rw [if_neg (by omega), if_pos (by omega), Tr.get_set_self]
      simp
    · have hne : pth i ≠ pth t := fun e => h (pth_inj (by omega) h2 e)
      by_cases h3 : i + 1 ≤ t ∧ t < i + 1 + as.length
      · rw [if_pos h3, if_pos (by omega)]
        have : t - i = (t - (i + 1)) + 1 := by omega
        rw [this]; simp
      · rw [if_neg h3, if_neg (by omega), Tr.get_set_ne _ _ _ _ hne]
theorem VE.begin {as : List A} (hn : n ≤ most) (hl : as.length ≤ n) (hb : belowL m as) :
    VE φ m n (iniS as 0 .e) { tmps := (denL φ as).toArray ++ Array.replicate (n - (denL φ as).toArray.size) undef, defers := [] } := by
  have hlen : (denL φ as).length = as.length := denL_length φ as
  refine ⟨by simp [hlen]; omega, hn, fun t => ?_, fun t => ?_⟩
  · have hget : ((denL φ as).toArray ++ Array.replicate (n - (denL φ as).toArray.size) undef).getD t undef = ((as[t]?).map (den φ)).getD undef := by
      rw [Array.getD_eq_getD_getElem?, Array.getElem?_append]
      simp only [List.size_toArray, List.getElem?_toArray, denL_map, List.getElem?_map, List.length_map]
      by_cases h : t < as.length
      · rw [if_pos h]
      · rw [if_neg h, List.getElem?_eq_none (by omega : as.length ≤ t)]
        simp only [Array.getElem?_replicate]
        split <;> rfl
    show Array.getD _ t undef = _
    rw [hget]
    by_cases ht : t < most
    · rw [tmp_get ht, iniS_get as 0 .e t (by omega) ht, Tr.get_e]
      simp only [Nat.zero_le, true_and, Nat.zero_add, Nat.sub_zero]
      by_cases h : t < as.length
      · rw [if_pos h, List.getElem?_eq_getElem h]; rfl
      · rw [if_neg h, List.getElem?_eq_none (by omega : as.length ≤ t)]; rfl
    · rw [tmp_out ht, List.getElem?_eq_none (by omega : as.length ≤ t)]; rfl
  · by_cases ht : t < most
    · rw [tmp_get ht, iniS_get as 0 .e t (by omega) ht, Tr.get_e]
      simp only [Nat.zero_le, true_and, Nat.zero_add, Nat.sub_zero]
      by_cases h : t < as.length
      · rw [if_pos h, List.getElem?_eq_getElem h]
        exact belowL_iff.1 hb _ (List.getElem_mem h)
      · rw [if_neg h]; trivial
    · rw [tmp_out ht]; trivial

/-- What is known of the closures that do nothing. -/
def NopOK (P : Program) (nop : FuncId → Bool) : Prop := ∀ f as w, nop f = true → (callFunc f as).run P w = .ok (.enter f as) w ∧
  CallsD P f as .returning w fun e u w' => ∃ v, e = .returned v ∧ u = .returning ∧ w' = w
theorem leaves_nops {nop : FuncId → Bool} (hn : NopOK P nop) {fn : Func} {tmps : Array Value} {R : Ending → World → Prop} {v : Value} (hr : (results fn tmps).run P w = .ok v w) (hR : R (.returned v) w) :
    ∀ {D : List (FuncId × List A)} {ds : List Deferred}, nops nop D = true → VD φ m D ds → Leaves P fn tmps R ds .returning w
  | [], ds, _, hd => by rw [show ds = [] from hd]; exact ⟨v, hr, hR⟩
  | x :: D, ds, h, ⟨cap, args, rest, h1, h2, h3, h4⟩ => by
    have h' : (match nop x.1 with | true => nops nop D | false => false) = true := h
    split at h'
    · rename_i hx
      obtain ⟨k1, k2⟩ := hn x.1 (args ++ cap) w hx
      subst h1
      refine leaves_cons (f := x.1) (args := args ++ cap) (by simp) (by simp only [invoke]; exact k1) (CallsD.mono k2 ?_)
      intro e u' w' ⟨v', he, hu, hw⟩
      rw [he, hu, hw]
      exact leaves_nops hn hr hR h' h4
    · cases h'

theorem resA_ok (R : Rel φ s w) (G : GLok gl φ s.n) (V : VE φ s.n n E a) (g : ResultVar → Sem Value) (g1 : ∀ t, g (.tmp t) = pure (a.tmps.getD t undef)) (g2 : ∀ ad t, g (.cell ad t) = do loadVar t (← asAddr (a.tmps.getD ad undef))) :
    ∀ {l : List ResultVar} {r : List A}, resA P gl s E l = some r → (l.mapM g).run P w = .ok (denL φ r) w ∧ belowL s.n r
  | [], r, h => by cases h; exact ⟨rfl, trivial⟩
  | x :: l, r, h => by
    have h' : (match (generalizing := false) x with
      | .tmp t => match resA P gl s E l with | some r => frc (rho gl E (.tmp t)) fun a => some (a :: r) | none => none
      | .cell a t => match ldA P t s (rho gl E (.tmp a)) with
        | some v => match resA P gl s E l with | some r => some (v :: r) | none => none
        | none => none) = some r := h
    clear h
    rw [List.mapM_cons]
    split at h'
    · rename_i t
      split at h'
      · rename_i r' hr
        rw [frc_eq] at h'
        cases h'
        obtain ⟨k1, k2⟩ := resA_ok R G V g g1 g2 hr
        refine ⟨?_, rho_below G V _, k2⟩
        have : (g (.tmp t)).run P w = .ok (den φ (rho gl E (.tmp t))) w := by rw [g1, V.val t]; rfl
        simp only [Sem.run_bind, this, Result.andThen_ok, k1, Sem.run_pure, denL]
      · cases h'
    · rename_i ad t
      split at h'
      · rename_i v hv
        split at h'
        · rename_i r' hr
          cases h'
          obtain ⟨k1, k2⟩ := resA_ok R G V g g1 g2 hr
          obtain ⟨k3, k4⟩ := ldA_run hv R (rho_below G V _)
          refine ⟨?_, k4, k2⟩
          have : (g (.cell ad t)).run P w = .ok (den φ v) w := by
            rw [g2, V.val ad]
            have hval : rho (fun _ => none) E (.tmp ad) = rho gl E (.tmp ad) := rfl
            rw [hval]
            unfold ldA at hv
            split at hv
            · rename_i lc o hlo
              rw [hlo] at k3 ⊢
              exact k3
            · cases hv
          simp only [Sem.run_bind, this, Result.andThen_ok, k1, Sem.run_pure, denL]
        · cases h'
      · cases h'
theorem tupK_eq {α : Type} (l : List A) (k : A → α) : tupK l k = k (tupA l) := by
  cases l with
  | nil => rfl
  | cons v r => cases r <;> rfl
theorem tupA_ok (R : Rel φ s w) (G : GLok gl φ s.n) (V : VE φ s.n n E a) {fn : Func} {r : List A} (h : resA P gl s E fn.results.toList = some r) : (results fn a.tmps).run P w = .ok (den φ (tupA r)) w ∧ below s.n (tupA r) := by
  have k2 : belowL s.n r := (resA_ok (P := P) R G V (fun | .tmp t => pure (a.tmps.getD t undef) | .cell ad t => do loadVar t (← asAddr (a.tmps.getD ad undef))) (fun t => rfl) (fun ad t => rfl) h).2
  constructor
  · unfold results
    have he : fn.results = fn.results.toList.toArray := by simp
    rw [he, Sem.run_bind, List.mapM_toArray, Sem.run_map]
    rw [(resA_ok (P := P) R G V _ (fun t => by rfl) (fun ad t => by rfl) h).1]
    simp only [Result.andThen_ok]
    match r with
    | [] => rfl
    | [v] => rfl
    | _ :: _ :: _ => rfl
  · match r, k2 with
    | [], _ => trivial
    | [v], k2 => exact k2.1
    | _ :: _ :: _, k2 => exact k2

theorem evF_ok (hm : P.follows .mixedOrders = true) {bi : FuncId → Option (List A → S → Option (A × S))} {nop : FuncId → Bool} (hb : CallOK P gl fun f as s => match bi f with | some b => b as s | none => none) (hn : NopOK P nop) :
    ∀ fuel, CallOK P gl (evF P gl bi nop fuel)
  | 0 => fun f as s r s' φ w h => by cases h
  | fuel + 1 => fun f as s r s' φ w h R G hbl => by
    have ih := evF_ok hm hb hn fuel
    have h' : (match bi f with
    | some b => b as s
    | none => match P.funcs[f]? with
      | some fn => match fn.body with
        | some c => bif Nat.ble (lnA as) fn.ntmps && Nat.ble fn.ntmps 100000 && !(fn.name == "runtime.NumGoroutine") then
            iniE as 0 .e fun E => match evC P gl (evF P gl bi nop fuel) fn.ntmps c ⟨E, [], s⟩ with
              | some (x, fr) => match x with
                | .ex _ => none
                | _ => match fr with | ⟨E, D, s⟩ => match nops nop D with
                  | true => match resA P gl s E fn.results.toList with
                    | some r => tupK r fun r => some (r, s)
                    | none => none
                  | false => none
              | none => none
            else none
        | none => none
      | none => none) = some (r, s') := h
    split at h'
    · rename_i b hbi
      refine hb f as s r s' φ w ?_ R G hbl
      simp only [hbi]
      exact h'
    · split at h'
      · rename_i fn hf
        split at h'
        · rename_i c hbody
          obtain ⟨h1, h2⟩ := bif_some' h'
          rw [Bool.and_eq_true, Bool.and_eq_true, lnA_eq, Bool.not_eq_true'] at h1
          obtain ⟨⟨h3, h4⟩, h5⟩ := h1
          have h3 := Nat.le_of_ble_eq_true h3
          have h4 := Nat.le_of_ble_eq_true h4
          rw [iniE_eq] at h2
          have S0 : St gl fn.ntmps φ ⟨iniS as 0 .e, [], s⟩ { tmps := (denL φ as).toArray ++ Array.replicate (fn.ntmps - (denL φ as).toArray.size) undef, defers := [] } w :=
            ⟨R, G, VE.begin (Nat.le_trans h4 (by decide)) h3 hbl, rfl⟩
          split at h2
          · rename_i x fr hev
            have hwp := evC_ok hm ih c hev S0
            refine .inr ⟨Go.V.G.enters hf h5 (by simp [hbody]) _ _, calls_of_wp_defers hf hbody (wp_mono hwp fun e a' w' ⟨he, φ', x', S'⟩ => ?_)⟩
            subst he
            have key : (∀ i, x ≠ .ex i) ∧ (match fr with | ⟨E, D, s⟩ => match nops nop D with
                  | true => match resA P gl s E fn.results.toList with
                    | some r => tupK r fun r => some (r, s)
                    | none => none
                  | false => none) = some (r, s') := by
              split at h2
              · cases h2
              · rename_i hne
                exact ⟨fun i e => hne i e, h2⟩
            obtain ⟨hx, h2⟩ := key
            obtain ⟨E1, D1, s1⟩ := fr
            simp only at h2
            split at h2
            · rename_i hnop
              split at h2
              · rename_i rs hrs
                rw [tupK_eq] at h2
                cases h2
                obtain ⟨k1, k2⟩ := tupA_ok S'.R S'.G S'.V hrs
                have hl := leaves_nops (R := fun e w' => ∃ v, e = .returned v ∧ ∃ φ', Stp φ s w φ' s' w' ∧ below s'.n (tupA rs) ∧ v = den φ' (tupA rs)) hn k1 ⟨_, rfl, φ', ⟨S'.R, x'⟩, k2, rfl⟩ hnop S'.D
                cases x with
                | nm => exact hl
                | rt => exact hl
                | ex i => exact absurd rfl (hx i)
              · cases h2
            · cases h2
          · cases h2
        · cases h'
      · cases h'
end
end Go.V
namespace Go.V
open Go

/-- A function without a text, known by what it yields. -/
def SemOK (P : Program) (e : Array Value → Sem Value) (b : List A → S → Option (A × S)) : Prop := ∀ as s r s' φ w, b as s = some (r, s') → Rel φ s w → belowL s.n as →
  ∃ φ' w', Stp φ s w φ' s' w' ∧ below s'.n r ∧ (e (denL φ as).toArray).run P w = .ok (den φ' r) w'

section
variable {P : Program} {φ : Val} {s : S} {w : World} {x r : A}
theorem ext_run {f : FuncId} {fn : Func} {e : Array Value → Sem Value} (hf : P.funcs[f]? = some fn) (hn : (fn.name == "runtime.NumGoroutine") = false) (hb : fn.body.isNone = true) (h1 : (Extern.findNext fn).isNone = true) (h2 : Extern.find fn = some e) (args : Array Value) (w : World) :
    (callFunc f args).run P w = ((e args).run P w).andThen fun v w' => .ok (.value v) w' := by
  have h1' : Extern.findNext fn = none := by simpa using h1
  simp only [callFunc, program, Sem.run_bind, Sem.run, Result.andThen_ok, hf, hn, hb, h1', h2, run_mark, if_true, Bool.false_eq_true, if_false]
  cases (e args).run P w <;> rfl
theorem ext_call {f : FuncId} {fn : Func} {e : Array Value → Sem Value} {b : List A → S → Option (A × S)} (hs : SemOK P e b) (hf : P.funcs[f]? = some fn) (hn : (fn.name == "runtime.NumGoroutine") = false) (hb : fn.body.isNone = true) (h1 : (Extern.findNext fn).isNone = true) (h2 : Extern.find fn = some e)
    {as : List A} {s' : S} (h : b as s = some (r, s')) (R : Rel φ s w) (hbl : belowL s.n as) : CallW P f (denL φ as).toArray w fun v w' => ∃ φ', Stp φ s w φ' s' w' ∧ below s'.n r ∧ v = den φ' r := by
  obtain ⟨φ', w', k1, k2, k3⟩ := hs as s r s' φ w h R hbl
  exact .inl ⟨den φ' r, w', ⟨φ', k1, k2, rfl⟩, by rw [ext_run hf hn hb h1 h2, k3]; rfl⟩

theorem bytS_run {l : List Nat} (h : bytS s x = some l) (hb : byt l = true) (R : Rel φ s w) (hx : below s.n x) : (Extern.Bytes.bytesOf (den φ x)).run P w = .ok ⟨(l.map UInt8.ofNat).toArray⟩ w := by
  unfold bytS at h
  split at h
  · cases h; rfl
  · rename_i lc o n k c
    split at h
    · rename_i T ro g cs hob
      split at h
      · rename_i q hq
        have hok := R.has (show lc < s.n from hx) hob
        have hbs := bysA_spec φ q l h
        obtain ⟨h1, h2⟩ := tk_spec _ _ _ hq
        rw [dp_eq] at h1 h2
        have hql : q.length = n := by rw [h2, List.length_take, Nat.min_eq_left h1]
        have hzl : l.length = n := by
          have := congrArg List.length hbs
          simpa [denL_length, hql] using this.symm
        have hlb := Lib.run_loadBytesX (P := P) w (l.map Int.ofNat) ⟨(φ lc).blk, (φ lc).base + o, none⟩ .empty (fun j u hj => by
          rw [Addr.add_mid, Nat.add_assoc]
          simp only [List.getElem?_map] at hj
          cases hzj : l[j]? with
          | none => rw [hzj] at hj; cases hj
          | some b =>
            rw [hzj] at hj; cases hj
            have hd : (denL φ q)[j]? = some (.int .u8 (b : Int)) := by rw [hbs]; simp [hzj]
            rw [denL_map, List.getElem?_map] at hd
            cases hqj : q[j]? with
            | none => rw [hqj] at hd; cases hd
            | some a =>
              rw [hqj] at hd
              simp only [Option.map_some, Option.some.injEq] at hd
              have hcs : cs[o + j]? = some a := by
                rw [h2, List.getElem?_take] at hqj
                split at hqj
                · rwa [List.getElem?_drop] at hqj
                · cases hqj
              rw [okO_cell hok hcs, hd]
              rfl)
        simp only [List.length_map, hzl] at hlb
        show (Extern.Bytes.loadBytes ⟨(φ lc).blk, (φ lc).base + o, none⟩ n .empty).run P w = _
        rw [hlb]
        congr 2
        simp [Lib.bytesOf]
      · cases h
    · cases h
  · cases h; rfl
  · cases h

theorem cntN_eq (c : Nat) (hc : c < 256) : ∀ (l : List Nat), byt l = true → cntN c l = Lib.countByte (l.map UInt8.ofNat) (UInt8.ofNat c)
  | [], _ => rfl
  | b :: l, h => by
    have hb : b < 256 := byt_spec h b (List.mem_cons_self ..)
    have hl : byt l = true := by
      have h' : (bif Nat.blt b 256 then byt l else false) = true := h
      cases hb : Nat.blt b 256 with
      | true => rw [hb] at h'; exact h'
      | false => rw [hb] at h'; cases h'
    have he : cntN c (b :: l) = bif Nat.beq b c then Nat.succ (cntN c l) else cntN c l := rfl
    have ih := cntN_eq c hc l hl
    unfold Lib.countByte at ih ⊢
    rw [he, List.map_cons, List.count_cons, ← ih]
    have hu : (UInt8.ofNat b == UInt8.ofNat c) = Nat.beq b c := by
      rw [Bool.eq_iff_iff, beq_iff_eq, Nat.beq_eq]
      constructor
      · intro e
        have := congrArg UInt8.toNat e
        rwa [UInt8.toNat_ofNat', UInt8.toNat_ofNat', Nat.mod_eq_of_lt hb, Nat.mod_eq_of_lt hc] at this
      · intro e; rw [e]
    rw [hu]
    cases Nat.beq b c <;> rfl
theorem idxN_eq (c : Nat) (hc : c < 256) : ∀ (l : List Nat) (i : Nat), byt l = true → (match idxN c l i with | some j => ((j : Nat) : Int) | none => -1) = if Lib.indexByte (l.map UInt8.ofNat) (UInt8.ofNat c) = -1 then -1 else Lib.indexByte (l.map UInt8.ofNat) (UInt8.ofNat c) + i
  | [], i, _ => rfl
  | b :: l, i, h => by
    have hb : b < 256 := byt_spec h b (List.mem_cons_self ..)
    have hl : byt l = true := by
      have h' : (bif Nat.blt b 256 then byt l else false) = true := h
      cases hb : Nat.blt b 256 with
      | true => rw [hb] at h'; exact h'
      | false => rw [hb] at h'; cases h'
    have he : idxN c (b :: l) i = bif Nat.beq b c then some i else idxN c l (Nat.succ i) := rfl
    have ih := idxN_eq c hc l (i + 1) hl
    have hge := Lib.indexByte_ge (l.map UInt8.ofNat) (UInt8.ofNat c)
    rw [he, List.map_cons]
    have hu : (UInt8.ofNat b == UInt8.ofNat c) = Nat.beq b c := by
      rw [Bool.eq_iff_iff, beq_iff_eq, Nat.beq_eq]
      constructor
      · intro e
        have := congrArg UInt8.toNat e
        rwa [UInt8.toNat_ofNat', UInt8.toNat_ofNat', Nat.mod_eq_of_lt hb, Nat.mod_eq_of_lt hc] at this
      · intro e; rw [e]
    simp only [Lib.indexByte, hu]
    cases hbc : Nat.beq b c with
    | true => simp
    | false =>
      simp only [cond_false, Bool.false_eq_true, if_false]
      rw [show Nat.succ i = i + 1 from rfl, ih]
      by_cases h1 : Lib.indexByte (l.map UInt8.ofNat) (UInt8.ofNat c) = -1
      · simp [h1]
      · have h2 : (Lib.indexByte (l.map UInt8.ofNat) (UInt8.ofNat c) == -1) = false := by simpa using h1
        simp only [h1, h2, if_false, Bool.false_eq_true]
        rw [if_neg (by omega)]
        push_cast
        omega

theorem xCount_ok : SemOK P Extern.BytealgCount.count xCount := by
  intro as s r s' φ w h R hb
  unfold xCount at h
  split at h
  · rename_i x c
    split at h
    · rename_i l hl
      obtain ⟨hc, h⟩ := bif_some' h
      rw [Bool.and_eq_true] at hc
      have hc2 : c < 256 := by simpa [Nat.blt_eq] using hc.2
      rw [fN_eq] at h
      cases h
      refine ⟨φ, w, R.refl, trivial, ?_⟩
      have hbs := bytS_run (P := P) hl hc.1 R hb.1
      have h0 := Lib.run_countString (P := P) ⟨(l.map UInt8.ofNat).toArray⟩ (Int.ofNat c) w
      have he : ∀ v, Extern.BytealgCount.count #[v, .int .u8 (Int.ofNat c)] = (do
        let b ← Extern.Bytes.bytesOf v
        let c' ← Extern.Bytes.asByte (.int .u8 (Int.ofNat c))
        pure (goInt (b.foldl (fun n x => if x == c' then n + 1 else n) (0 : Nat)))) := fun _ => rfl
      have hh : (denL φ [x, .i .u8 (.ofNat c)]).toArray = #[den φ x, .int .u8 (Int.ofNat c)] := rfl
      rw [hh, he, Sem.run_bind, hbs]
      rw [he, Sem.run_bind] at h0
      refine h0.trans ?_
      rw [cntN_eq c hc2 l hc.1]
      rfl
    · cases h
  · cases h
theorem xIndexByte_ok : SemOK P Extern.BytealgIndexByte.indexByte xIndexByte := by
  intro as s r s' φ w h R hb
  unfold xIndexByte at h
  split at h
  · rename_i x c
    split at h
    · rename_i l hl
      obtain ⟨hc, h⟩ := bif_some' h
      rw [Bool.and_eq_true] at hc
      have hc2 : c < 256 := by simpa [Nat.blt_eq] using hc.2
      have hbs := bytS_run (P := P) hl hc.1 R hb.1
      have h0 := Lib.run_indexByteString (P := P) ⟨(l.map UInt8.ofNat).toArray⟩ (Int.ofNat c) w
      have he : ∀ v, Extern.BytealgIndexByte.indexByte #[v, .int .u8 (Int.ofNat c)] = (do
        let b ← Extern.Bytes.bytesOf v
        let c' ← Extern.Bytes.asByte (.int .u8 (Int.ofNat c))
        match (List.range b.size).find? fun i => b[i]! == c' with
        | some i => pure (goInt i)
        | none => pure (goInt (-1))) := fun _ => rfl
      have hh : (denL φ [x, .i .u8 (.ofNat c)]).toArray = #[den φ x, .int .u8 (Int.ofNat c)] := rfl
      have hrun : (Extern.BytealgIndexByte.indexByte (denL φ [x, .i .u8 (.ofNat c)]).toArray).run P w = .ok (.int .i64 (Lib.indexByte (l.map UInt8.ofNat) (UInt8.ofNat c))) w := by
        rw [hh, he, Sem.run_bind, hbs]
        rw [he, Sem.run_bind] at h0
        exact h0
      have hi := idxN_eq c hc2 l 0 hc.1
      rw [hrun]
      split at h
      · rename_i i hidx
        rw [fN_eq] at h
        cases h
        rw [hidx] at hi
        refine ⟨φ, w, R.refl, trivial, ?_⟩
        simp only [den]
        congr 2
        have hi' : ((i : Nat) : Int) = if Lib.indexByte (l.map UInt8.ofNat) (UInt8.ofNat c) = -1 then -1 else Lib.indexByte (l.map UInt8.ofNat) (UInt8.ofNat c) + (0 : Nat) := hi
        have hii : Int.ofNat i = (i : Int) := rfl
        rw [hii]
        split at hi' <;> omega
      · rename_i hidx
        cases h
        rw [hidx] at hi
        refine ⟨φ, w, R.refl, trivial, ?_⟩
        simp only [den]
        congr 2
        have hi' : (-1 : Int) = if Lib.indexByte (l.map UInt8.ofNat) (UInt8.ofNat c) = -1 then -1 else Lib.indexByte (l.map UInt8.ofNat) (UInt8.ofNat c) + (0 : Nat) := hi
        have hii : Int.negSucc 0 = (-1 : Int) := rfl
        have := Lib.indexByte_ge (l.map UInt8.ofNat) (UInt8.ofNat c)
        rw [hii]
        split at hi' <;> omega
    · cases h
  · cases h
theorem xFrombits_ok : SemOK P Extern.MathFloatBits.float64frombits xFrombits := by
  intro as s r s' φ w h R hb
  unfold xFrombits at h
  split at h
  · cases h; exact ⟨φ, w, R.refl, trivial, rfl⟩
  · cases h
theorem xBits_ok : SemOK P Extern.MathFloatBits.float64bits xBits := by
  intro as s r s' φ w h R hb
  unfold xBits at h
  split at h
  · cases h; exact ⟨φ, w, R.refl, trivial, rfl⟩
  · cases h
theorem xSame_ok : SemOK P Extern.AbiNoEscape.same xSame := by
  intro as s r s' φ w h R hb
  unfold xSame at h
  split at h
  · cases h; exact ⟨φ, w, R.refl, hb.1, rfl⟩
  · cases h
theorem xNoZero_ok {e t : TypeId} (ps : Array TypeId) (ht : P.underlying t = some (.slice e)) : SemOK P (Extern.BytealgMakeNoZero.makeNoZero ps #[t]) (xNoZero e) := by
  intro as s r s' φ w h R hb
  unfold xNoZero at h
  split at h
  · rename_i n
    obtain ⟨hc, h⟩ := bif_some' h
    have hn : n ≤ 16777216 := Nat.le_of_ble_eq_true hc
    obtain ⟨hm, h⟩ := newC_eq h
    cases h
    obtain ⟨cs, h1, h2, h3⟩ := Lib.run_makeNoZero (P := P) w ps t e ht n (by omega)
    have hS := R.alloc hm e false 1 cs.size [] trivial cs.toList w.drew.drew.drawn (by omega) (by simp)
    refine ⟨_, _, hS, Nat.lt_succ_self _, ?_⟩
    refine h1.trans ?_
    simp only [den, upd_self, capD, denL, List.nil_append]
    rfl
  · cases h
theorem xClone_ok : SemOK P Extern.MapsClone.clone xClone := by
  intro as s r s' φ w h R hb
  unfold xClone at h
  split at h
  · rename_i t l
    split at h
    · rename_i es ck hob
      obtain ⟨hm, h⟩ := newC_eq h
      cases h
      have hl : l < s.n := hb.1
      have hok : w.heap[(φ l).blk]? = some (.map (es.map (denE φ)).toArray ck) := R.has hl hob
      have hbl : (O.mp es ck).bl s.n := R.bl hl hob
      have hS : Stp φ s w (upd φ s.n ⟨w.heap.size, 0, 0⟩) (s.new (.mp es ck)) { w with heap := w.heap.push (.map (es.map (denE φ)).toArray ck) } := by
        refine R.new hm ⟨w.heap.size, 0, 0⟩ _ (O.bl_mono (Nat.le_succ _) hbl) (fun p o h => R.hne h) (fun b _ hlt => ?_) ?_ rfl rfl rfl ?_ (Nat.le_refl _)
        · simp only [Array.getElem?_push]; rw [if_neg (Nat.ne_of_lt hlt)]
        · have : (es.map (denE (upd φ s.n ⟨w.heap.size, 0, 0⟩))) = es.map (denE φ) := List.map_congr_left fun e he => denE_congr (fun l hl => upd_lt φ _ hl) e (hbl e he)
          show _ = _
          simp only [upd_self, this]
          simp
        · simp
      refine ⟨_, _, hS, Nat.lt_succ_self _, ?_⟩
      have hh : (denL φ [.x t (.m l)]).toArray = #[.iface t (.map (some (φ l).blk))] := rfl
      rw [hh]
      have he : Extern.MapsClone.clone #[.iface t (.map (some (φ l).blk))] = (do
        let .map entries clock ← getObj (φ l).blk | stuck "maps.clone: a map expected"
        pure (.iface t (.map (some (← newObj (.map entries clock)))))) := rfl
      rw [he]
      simp [Sem.run, getObj, newObj, hok, den, upd_self]
    · cases h
  · cases h
end
end Go.V
namespace Go.V
open Go Go.RowKit

abbrev Bi := List A → S → Option (A × S)
/-- A table of functions that are not walked into. -/
noncomputable def lk (l : List (FuncId × Bi)) : FuncId → Option Bi := List.rec (motive := fun _ => FuncId → Option Bi) (fun _ => none) (fun x _ ih f => bif Nat.beq f x.1 then some x.2 else ih f) l
/-- A row of the table is right. -/
def BOK (P : Program) (gl : GlF) (f : FuncId) (b : Bi) : Prop := ∀ as s r s' φ w, b as s = some (r, s') → Rel φ s w → GLok gl φ s.n → belowL s.n as →
  CallW P f (denL φ as).toArray w fun v w' => ∃ φ', Stp φ s w φ' s' w' ∧ below s'.n r ∧ v = den φ' r

section
variable {P : Program} {gl : GlF} {φ φ' : Val} {s s' : S} {w w' : World}
theorem lk_ok : ∀ {l : List (FuncId × Bi)}, (∀ x ∈ l, BOK P gl x.1 x.2) → CallOK P gl fun f as s => match lk l f with | some b => b as s | none => none
  | [], _ => fun f as s r s' φ w h => by cases h
  | x :: l, hl => fun f as s r s' φ w h R G hb => by
    have he : lk (x :: l) f = bif Nat.beq f x.1 then some x.2 else lk l f := rfl
    simp only [he] at h
    cases hf : Nat.beq f x.1 with
    | true =>
      rw [hf] at h
      have := Nat.eq_of_beq_eq_true hf
      subst this
      exact hl x (List.mem_cons_self ..) as s r s' φ w h R G hb
    | false =>
      rw [hf] at h
      exact lk_ok (fun y hy => hl y (List.mem_cons_of_mem _ hy)) f as s r s' φ w h R G hb
theorem BOK.ext {f : FuncId} {fn : Func} {e : Array Value → Sem Value} {b : Bi} (hs : SemOK P e b) (hf : P.funcs[f]? = some fn) (hn : (fn.name == "runtime.NumGoroutine") = false) (hb : fn.body.isNone = true) (h1 : (Extern.findNext fn).isNone = true) (h2 : Extern.find fn = some e) : BOK P gl f b :=
  fun as s r s' φ w h R _ hbl => ext_call hs hf hn hb h1 h2 h R hbl

theorem CallW.calls {f : FuncId} {fn : Func} {args : Array Value} {R : Value → World → Prop} (h : CallW P f args w R) (hf : P.funcs[f]? = some fn) (hn : (fn.name == "runtime.NumGoroutine") = false) (hb : fn.body.isNone = false) :
    Calls P f args w fun e w' => ∃ v, e = .returned v ∧ R v w' := by
  rcases h with ⟨v, w', _, h⟩ | ⟨_, h⟩
  · rw [G.enters hf hn hb] at h
    cases h
  · exact h

/-- What lay there is as it was. -/
theorem Ext.below (x : Ext φ s w φ' s' w') (hall : ∀ p o, s.h.get p = some o → ∃ T cs, o = .c T true 0 cs) : Below w.heap.size w w' := by
  refine ⟨x.os, x.tape, x.output, x.size, fun k hk => ?_⟩
  by_cases h : ∃ p o, s.h.get p = some o ∧ (φ p.un).blk = k
  · obtain ⟨p, o, hp, rfl⟩ := h
    obtain ⟨T, cs, rfl⟩ := hall p o hp
    exact (x.keep p T cs hp).2.2
  · exact (x.out k hk fun p o hp e => h ⟨p, o, hp, e⟩).1

/-- The state that knows of nothing. -/
theorem Rel.nil (φ : Val) (w : World) : Rel φ ⟨.e, 0⟩ w :=
  ⟨Nat.zero_le _, fun p o h => absurd ((Tr.get_e p).symm.trans h) (by simp), fun p o h => absurd ((Tr.get_e p).symm.trans h) (by simp), fun p q o o' h => absurd ((Tr.get_e p).symm.trans h) (by simp)⟩
/-- A package variable is taken in. -/
theorem Rel.adopt (R : Rel φ s w) (hn : s.n < most) {g : Nat} {T : TypeId} {f : Nat × Nat} {cs : List A} {vs : Array Value} (hv : w.heap[g]? = some (.cells vs T f)) (hc : vs = (denL (upd φ s.n ⟨g, 0, 0⟩) cs).toArray) (hb : belowL (s.n + 1) cs)
    (hx : ∀ p o, s.h.get p = some o → (φ p.un).blk ≠ g) : Rel (upd φ s.n ⟨g, 0, 0⟩) (s.new (.c T true 0 cs)) w := by
  have hag : ∀ l, l < s.n → upd φ s.n ⟨g, 0, 0⟩ l = φ l := fun l hl => upd_lt φ _ hl
  have hold : ∀ p o', (s.new (.c T true 0 cs)).h.get p = some o' → p ≠ pth s.n → s.h.get p = some o' := fun p o' hp hne => by rwa [get_new_old hne] at hp
  refine ⟨hn, fun p o' hp => ?_, fun p o' hp => ?_, fun p q o1 o2 hp hq he => ?_⟩
  · by_cases hne : p = pth s.n
    · subst hne
      rw [get_new] at hp; cases hp
      rw [pth_un hn]
      exact ⟨[], [], f, by rw [upd_self, hv, hc]; simp, by rw [upd_self]; rfl, (fun h => by cases h), fun _ => ⟨rfl, rfl⟩, fun h => absurd h (Nat.lt_irrefl _)⟩
    · have hp' := hold p o' hp hne
      obtain ⟨hl, hbl⟩ := R.lt p o' hp'
      exact okO_congr hag hl hbl rfl (R.ok p o' hp')
  · by_cases hne : p = pth s.n
    · subst hne
      rw [get_new] at hp; cases hp
      rw [pth_un hn]; exact ⟨Nat.lt_succ_self _, hb⟩
    · obtain ⟨hl, hbl⟩ := R.lt p o' (hold p o' hp hne)
      exact ⟨Nat.lt_succ_of_lt hl, O.bl_mono (Nat.le_succ _) hbl⟩
  · by_cases hpn : p = pth s.n
    · by_cases hqn : q = pth s.n
      · rw [hpn, hqn]
      · have hq' := hold q o2 hq hqn
        rw [hpn, pth_un hn, upd_self, hag _ (R.lt q o2 hq').1] at he
        exact absurd he.symm (hx q o2 hq')
    · have hp' := hold p o1 hp hpn
      by_cases hqn : q = pth s.n
      · rw [hqn, pth_un hn, upd_self, hag _ (R.lt p o1 hp').1] at he
        exact absurd he (hx p o1 hp')
      · have hq' := hold q o2 hq hqn
        rw [hag _ (R.lt p o1 hp').1, hag _ (R.lt q o2 hq').1] at he
        exact R.inj p q o1 o2 hp' hq' he

/-- Numbers as cells. -/
def numA (k : IntKind) (zs : List Int) : List A := zs.map fun z => A.i k z
theorem numA_den (φ : Val) (k : IntKind) (zs : List Int) : denL φ (numA k zs) = zs.map fun z => Value.int k z := by
  rw [denL_map]; simp [numA, den]
theorem numA_below (n : Nat) (k : IntKind) (zs : List Int) : belowL n (numA k zs) := by
  rw [belowL_iff]; intro a ha
  obtain ⟨z, _, rfl⟩ := List.mem_map.1 ha; trivial
/-- One table. -/
noncomputable def one1 (T : TypeId) (k : IntKind) (zs : List Int) : S := ⟨.n .e (some (.c T true 0 (numA k zs))) .e, 1⟩
theorem one1_eq (T : TypeId) (k : IntKind) (zs : List Int) : one1 T k zs = S.new ⟨.e, 0⟩ (.c T true 0 (numA k zs)) := rfl
theorem one1_all (T : TypeId) (k : IntKind) (zs : List Int) : ∀ p o, (one1 T k zs).h.get p = some o → ∃ T cs, o = .c T true 0 cs := fun p o h => by
  cases p with
  | h => have : some (O.c T true 0 (numA k zs)) = some o := h; cases this; exact ⟨_, _, rfl⟩
  | l p => have : Tr.get p (.e : Tr O) = some o := h; rw [Tr.get_e] at this; cases this
  | r p => have : Tr.get p (.e : Tr O) = some o := h; rw [Tr.get_e] at this; cases this
theorem one1_rel {g : Nat} {T : TypeId} {f : Nat × Nat} {k : IntKind} {zs : List Int} {vs : Array Value} (hv : w.heap[g]? = some (.cells vs T f)) (hc : vs.toList = zs.map fun z => Value.int k z) : Rel (upd (fun _ => ⟨0, 0, 0⟩) 0 ⟨g, 0, 0⟩) (one1 T k zs) w := by
  rw [one1_eq]
  exact Rel.adopt (Rel.nil _ w) (by show 0 < most; decide) hv (by rw [numA_den, ← hc]) (numA_below _ _ _) fun p o h => absurd ((Tr.get_e p).symm.trans h) (by simp)
end
end Go.V
