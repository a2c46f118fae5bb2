/- A small evaluator of the translated program, second part: operations that change memory, regions whose order is drawn. No condition. -/
import Derived.Test.YtejdijnbknpdbaaGreatDoorEa
import Derived.Lib.UnsafeStr
import Derived.OrdersHeld
namespace Go.V
open Go

noncomputable def newC {α : Type} (o : O) (s : S) (k : Nat → S → Option α) : Option α :=
  bif Nat.blt s.n most then fN s.n fun l => Tr.setK (some o) (pth l) s.h fun h => k l ⟨h, Nat.succ l⟩ else none
theorem newC_eq {α : Type} {o : O} {s : S} {k : Nat → S → Option α} {r : α} (h : newC o s k = some r) : s.n < most ∧ k s.n (s.new o) = some r := by
  obtain ⟨h1, h2⟩ := bif_some' h
  rw [fN_eq, Tr.setK_eq] at h2
  exact ⟨by simpa [Nat.blt_eq] using h1, h2⟩
noncomputable def putC {α : Type} (l : Nat) (o : O) (s : S) (k : S → Option α) : Option α := fN s.n fun n => Tr.setK (some o) (pth l) s.h fun h => k ⟨h, n⟩
theorem putC_eq {α : Type} (l : Nat) (o : O) (s : S) (k : S → Option α) : putC l o s k = k (s.put l o) := by
  unfold putC; rw [fN_eq, Tr.setK_eq]; rfl
noncomputable def delC {α : Type} (l : Nat) (s : S) (k : S → Option α) : Option α := fN s.n fun n => Tr.setK none (pth l) s.h fun h => k ⟨h, n⟩
theorem delC_eq {α : Type} (l : Nat) (s : S) (k : S → Option α) : delC l s k = k (s.drop l) := by
  unfold delC; rw [fN_eq, Tr.setK_eq]; rfl

/-- What an operation that changes memory comes to. -/
def Got (r : Result Next) (v : Value) (w : World) : Prop := r = .ok (.value v) w ∨ (r = .ok .skip w ∧ v = undef)

section
variable {P : Program} {φ : Val} {s : S} {w : World} {a b x r : A} {t : TypeId} {ρ : Rd}
theorem Rel.hne (R : Rel φ s w) {p : Pa} {o : O} (h : s.h.get p = some o) : (φ p.un).blk ≠ w.heap.size := Nat.ne_of_lt (okO_lt (R.ok p o h))
/-- A new block of cells. -/
theorem Rel.alloc (R : Rel φ s w) (hn : s.n < most) (T : TypeId) (ro : Bool) (g cap : Nat) (cs : List A) (hb : belowL s.n cs) (rest : List Value) (d : Nat) (hg0 : g = 0 → rest = []) (hg : 0 < g → cs.length ≤ cap * g ∧ cap * g ≤ cs.length + rest.length) :
    Stp φ s w (upd φ s.n ⟨w.heap.size, 0, cap⟩) (s.new (.c T ro g cs)) { w with heap := w.heap.push (.cells (denL φ cs ++ rest).toArray T (0, 0)), drawn := d } := by
  refine R.new hn ⟨w.heap.size, 0, cap⟩ _ (belowL_mono (Nat.le_succ _) _ hb) (fun p o h => R.hne h) (fun b _ hlt => ?_) ?_ rfl rfl rfl ?_ (Nat.le_refl _)
  · simp only [Array.getElem?_push]; rw [if_neg (Nat.ne_of_lt hlt)]
  · refine ⟨[], rest, (0, 0), ?_, ?_, fun _ => rfl, fun h => ⟨rfl, hg0 h⟩, ?_⟩
    · simp only [upd_self, Array.getElem?_push, if_true, List.nil_append]
      rw [denL_congr (fun l hl => upd_lt φ _ hl) cs hb]
    · simp [upd_self]
    · simpa [upd_self] using hg
  · simp
theorem Rel.allocMap (R : Rel φ s w) (hn : s.n < most) : Stp φ s w (upd φ s.n ⟨w.heap.size, 0, 0⟩) (s.new (.mp [] 0)) { w with heap := w.heap.push (.map #[] 0) } := by
  refine R.new hn ⟨w.heap.size, 0, 0⟩ _ (fun e he => by cases he) (fun p o h => R.hne h) (fun b _ hlt => ?_) ?_ rfl rfl rfl ?_ (Nat.le_refl _)
  · simp only [Array.getElem?_push]; rw [if_neg (Nat.ne_of_lt hlt)]
  · show _ = _
    simp [upd_self]
  · simp

/-! ### alloc, box, store -/
noncomputable def alcA (P : Program) (s : S) (t : TypeId) : Option (A × S) := match zrB P t with
  | some z => newC (.c t false 0 (cA z)) s fun l s => some (.p l 0, s)
  | none => none
noncomputable def boxA (s : S) (t : TypeId) (v : A) : Option (A × S) := newC (.c t false 0 (cA v)) s fun l s => some (.p l 0, s)
noncomputable def stoA (P : Program) (s : S) (t : TypeId) (a v : A) : Option (A × S) := match a with
  | .p l o => match ob s l with
    | some (.c T false g cs) => match szB P t with
      | some sz => match fit (cA v) sz with
        | true => match spA (cA v) o cs with
          | some cs' => putC l (.c T false g cs') s fun s => some (.v undef, s)
          | none => none
        | false => none
      | none => none
    | _ => none
  | _ => none

theorem belowL_spA {n o : Nat} {vs cs r : List A} (hv : belowL n vs) (hc : belowL n cs) (h : spA vs o cs = some r) : belowL n r := by
  rw [(spA_spec _ _ _ _ h).2]
  exact belowL_append (belowL_append (belowL_take hc _) hv) (belowL_drop hc _)
theorem heap_setRow (w : World) {b g : Nat} (cs : Array Value) (h : b ≠ g) : (w.setRow g cs).heap[b]? = w.heap[b]? := G.heap_setRow_other w g b cs h

/-- Cells are written. -/
theorem Rel.write (R : Rel φ s w) {l o : Nat} (hl : l < s.n) {T : TypeId} {g : Nat} {cs vs cs' : List A} (hob : ob s l = some (.c T false g cs)) (hv : belowL s.n vs) (h1 : ∀ a ∈ vs, one a = true) (hs : spA vs o cs = some cs') :
    ∃ w', (storeCells ⟨(φ l).blk, (φ l).base + o, none⟩ (denL φ vs)).run P w = .ok () w' ∧ Stp φ s w φ (s.put l (.c T false g cs')) w' := by
  obtain ⟨pre, post, f, h2, h3, h4, h5, h6⟩ := R.has hl hob
  obtain ⟨hle, he⟩ := spA_spec _ _ _ _ hs
  have hf := h4 rfl
  subst hf
  have hst := run_storeCells_at (P := P) (φ l).blk ((φ l).base + o) T (denL φ vs) 0 _ w h2 (by simp [denL_length]; omega) (fun v hv => by
    rw [denL_map] at hv; obtain ⟨a, ha, rfl⟩ := List.mem_map.1 hv; exact one_den φ (h1 a ha))
  have hlen : cs'.length = cs.length := by rw [he]; simp; omega
  have hrow : ((pre ++ denL φ cs ++ post).take ((φ l).base + o + 0) ++ denL φ vs ++ (pre ++ denL φ cs ++ post).drop ((φ l).base + o + 0 + (denL φ vs).length)) = pre ++ denL φ cs' ++ post := by
    rw [he, ← h3, Nat.add_zero]
    simp only [denL_map, List.map_append, List.map_take, List.map_drop, List.length_map]
    rw [List.append_assoc pre, List.take_length_add_append, Nat.add_assoc, List.drop_length_add_append]
    rw [List.take_append_of_le_length (by simp; omega), List.drop_append_of_le_length (by simp; omega)]
    simp [List.append_assoc]
  refine ⟨w.setRow (φ l).blk (pre ++ denL φ cs' ++ post).toArray, ?_, ?_⟩
  · rw [hst]; simp only [hrow]
  · refine R.put hl hob (fun _ _ h => by cases h) (belowL_spA hv (R.bl hl hob) hs) (fun b hb _ => heap_setRow w _ hb) ⟨pre, post, (0, 0), ?_, h3, fun _ => rfl, h5, by rw [hlen]; exact h6⟩ rfl rfl rfl (by simp [World.setRow])
    exact setRow_heap w _ _ _ T (0, 0) h2
theorem stoA_run {v : A} {s' : S} (h : stoA P s t a v = some (r, s')) (R : Rel φ s w) (ha : below s.n a) (hv : below s.n v) :
    ∃ w', (Instr.storeAt t (den φ a) (den φ v)).run P w = .ok () w' ∧ Stp φ s w φ s' w' ∧ r = .v undef := by
  unfold stoA at h
  split at h
  · rename_i l o
    split at h
    · rename_i T g cs hob
      split at h
      · rename_i sz hs
        split at h
        · rename_i hf
          obtain ⟨hf1, hf2⟩ := fit_spec _ _ hf
          split at h
          · rename_i cs' hsp
            rw [putC_eq] at h; cases h
            obtain ⟨w', hr, hS⟩ := R.write (P := P) ha hob (below_cA hv) hf2 hsp
            refine ⟨w', ?_, hS, rfl⟩
            have hc : (den φ v).cells = (denL φ (cA v)).toArray := den_cA φ v
            have hsz : (denL φ (cA v)).toArray.size = sz := by simp [denL_length, hf1]
            simp only [Instr.storeAt, den, Instr.sureAddr, Sem.run_bind, Sem.run_pure, Result.andThen_ok, storeVar, run_sz hs, hc, hsz, ne_eq, not_true, if_false, hr]
          · cases h
        · cases h
      · cases h
    · cases h
  · cases h
theorem alcA_run {s' : S} (h : alcA P s t = some (r, s')) (R : Rel φ s w) : ∃ φ' w', Stp φ s w φ' s' w' ∧ below s'.n r ∧ (Instr.alloc t true (.tuple #[])).run P w = .ok (den φ' r) w' := by
  unfold alcA at h
  split at h
  · rename_i z hz
    obtain ⟨hn, h⟩ := newC_eq h
    cases h
    have hS := R.alloc hn t false 0 0 (cA z) (below_cA (below_zr hz s.n)) [] w.drawn (fun _ => rfl) (fun h => absurd h (Nat.lt_irrefl _))
    refine ⟨_, _, hS, Nat.lt_succ_self _, ?_⟩
    simp only [Instr.alloc, Sem.run_bind, run_zr hz φ, Result.andThen_ok, newVar, newRow, newObj, Sem.run, Sem.run_pure, den_cA, den, upd_self, Nat.add_zero, List.append_nil]
  · cases h
theorem boxA_run {v : A} {s' : S} (h : boxA s t v = some (r, s')) (R : Rel φ s w) (hv : below s.n v) : ∃ φ' w', Stp φ s w φ' s' w' ∧ below s'.n r ∧ (Instr.box t (den φ v)).run P w = .ok (den φ' r) w' := by
  unfold boxA at h
  obtain ⟨hn, h⟩ := newC_eq h
  cases h
  have hS := R.alloc hn t false 0 0 (cA v) (below_cA hv) [] w.drawn (fun _ => rfl) (fun h => absurd h (Nat.lt_irrefl _))
  refine ⟨_, _, hS, Nat.lt_succ_self _, ?_⟩
  simp only [Instr.box, Sem.run_bind, Result.andThen_ok, newVar, newRow, newObj, Sem.run, Sem.run_pure, den_cA, den, upd_self, Nat.add_zero, List.append_nil]
end
end Go.V
namespace Go.V
open Go

/-! ### Structs, arrays, slices written out -/
noncomputable def fillA (place : Nat → Option (Nat × Nat)) (ps : List (Nat × A)) : List A → Option (List A) := List.rec (motive := fun _ => List A → Option (List A)) (fun z => some z)
  (fun p _ ih z => match place p.1 with
    | some q => bif Nat.beq (lnA (cA p.2)) q.2 then match spA (cA p.2) q.1 z with
      | some z => ih z
      | none => none
      else none
    | none => none) ps
noncomputable def plcA (P : Program) (fs : List Field) : Option (List (Nat × Nat)) := List.rec (motive := fun _ => Option (List (Nat × Nat))) (some []) (fun f _ ih => match szB P f.type with
  | some n => match ih with | some r => some ((f.offset, n) :: r) | none => none
  | none => none) fs
noncomputable def mpP (ρ : Rd) (l : List (Nat × Operand)) : List (Nat × A) := List.rec (motive := fun _ => List (Nat × A)) [] (fun x _ ih => (x.1, ρ x.2) :: ih) l
theorem mpP_eq (ρ : Rd) : ∀ l, mpP ρ l = l.map fun x => (x.1, ρ x.2)
  | [] => rfl
  | x :: l => by show (x.1, ρ x.2) :: mpP ρ l = _; rw [mpP_eq ρ l]; rfl
noncomputable def bldA (P : Program) (t : TypeId) (ps : List (Nat × A)) : Option A := match zrB P t with
  | some z => match P.underlying t with
    | some d => match d with
      | .struct fs => match plcA P fs.toList with
        | some pl => match fillA (fun i => pl[i]?) ps (cA z) with | some r => some (.g r) | none => none
        | none => none
      | .array _ e => match szB P e with
        | some sz => match fillA (fun i => some (i * sz, sz)) ps (cA z) with | some r => some (.g r) | none => none
        | none => none
      | _ => none
    | none => none
  | none => none
noncomputable def bslA (P : Program) (s : S) (t : TypeId) (len : Nat) (ps : List (Nat × A)) : Option (A × S) := match P.underlying t with
  | some d => match d with
    | .slice e => match szB P e with
      | some sz => match zrB P e with
        | some z => bif Nat.ble (len * sz) 16777216 && Nat.beq (lnA (cA z)) sz then match fillA (fun i => some (i * sz, sz)) ps (rpA (cA z) len) with
            | some cs => newC (.c e false 0 cs) s fun l s => some (.s l 0 len true len, s)
            | none => none
          else none
        | none => none
      | none => none
    | _ => none
  | none => none
noncomputable def mslA (P : Program) (s : S) (t : TypeId) (len cap : A) : Option (A × S) := match P.underlying t with
  | some d => match d with
    | .slice e => match szB P e with
      | some sz => match byB P e with
        | some by_ => match zrB P e with
          | some z => match natA len with
            | some n => match natA cap with
              | some c => bif Nat.ble n c && Nat.ble (by_ * c) 16777216 && Nat.ble c 16777216 && Nat.beq (lnA (cA z)) sz then
                  newC (.c e false 0 (rpA (cA z) c)) s fun l s => some (.s l 0 n true c, s)
                else none
              | none => none
            | none => none
          | none => none
        | none => none
      | none => none
    | _ => none
  | none => none

section
variable {P : Program} {φ : Val} {s : S} {w : World} {a b x r : A} {t : TypeId} {ρ : Rd}
theorem fillA_run (place : Nat → Option (Nat × Nat)) (φ : Val) : ∀ (ps : List (Nat × A)) (z r : List A), fillA place ps z = some r → Instr.fill place (denL φ z).toArray (ps.map fun x => (x.1, den φ x.2)) = some (denL φ r).toArray
  | [], z, r, h => by have : some z = some r := h; cases this; rfl
  | p :: ps, z, r, h => by
    have h' : (match place p.1 with
    | some q => bif Nat.beq (lnA (cA p.2)) q.2 then match spA (cA p.2) q.1 z with
      | some z => fillA place ps z
      | none => none
      else none
    | none => none) = some r := h
    split at h'
    · rename_i q hq
      obtain ⟨h1, h2⟩ := bif_some' h'
      split at h2
      · rename_i z' hz
        have ih := fillA_run place φ ps z' r h2
        have hl : (cA p.2).length = q.2 := by have := Nat.eq_of_beq_eq_true h1; rwa [lnA_eq] at this
        obtain ⟨hle, he⟩ := spA_spec _ _ _ _ hz
        obtain ⟨off, sz⟩ := q
        simp only [List.map_cons, Instr.fill, hq, den_cA]
        have hc1 : (denL φ (cA p.2)).toArray.size = sz := by simp [denL_length, hl]
        have hc2 : ¬ off + (denL φ (cA p.2)).toArray.size > (denL φ z).toArray.size := by simp [denL_length]; omega
        rw [if_neg (by simp only [hc1, ne_eq, not_true, decide_false, Bool.false_or, decide_eq_true_eq]; rw [hc1] at hc2; exact hc2)]
        simp only [Array.zipIdx_toArray, List.foldl_toArray]
        have := G.fold_spl off (denL φ (cA p.2)) 0 (denL φ z) (by simp only [denL_length, Nat.add_zero]; exact hle)
        simp only [Nat.add_zero] at this
        rw [this]
        have hz' : (denL φ z).take off ++ denL φ (cA p.2) ++ (denL φ z).drop (off + (denL φ (cA p.2)).length) = denL φ z' := by
          rw [he]; simp only [denL_map, List.map_append, List.map_take, List.map_drop, List.length_map]
        rw [hz']
        exact ih
      · cases h2
    · cases h'
theorem belowL_fill {n : Nat} {place : Nat → Option (Nat × Nat)} : ∀ {ps : List (Nat × A)} {z r : List A}, (∀ p ∈ ps, below n p.2) → belowL n z → fillA place ps z = some r → belowL n r
  | [], z, r, _, hz, h => by have : some z = some r := h; cases this; exact hz
  | p :: ps, z, r, hp, hz, h => by
    have h' : (match place p.1 with
    | some q => bif Nat.beq (lnA (cA p.2)) q.2 then match spA (cA p.2) q.1 z with
      | some z => fillA place ps z
      | none => none
      else none
    | none => none) = some r := h
    split at h'
    · obtain ⟨_, h2⟩ := bif_some' h'
      split at h2
      · rename_i z' hz'
        exact belowL_fill (fun q hq => hp q (by simp [hq])) (belowL_spA (below_cA (hp p (by simp))) hz hz') h2
      · cases h2
    · cases h'
theorem plcA_run : ∀ (fs : List Field) (r : List (Nat × Nat)) (w : World), plcA P fs = some r → (fs.mapM (fun f => do pure (f.offset, ← sizeOf f.type) : Field → Sem (Nat × Nat))).run P w = .ok r w
  | [], r, w, h => by have : some ([] : List (Nat × Nat)) = some r := h; cases this; rfl
  | f :: fs, r, w, h => by
    have h' : (match szB P f.type with
  | some n => match plcA P fs with | some r => some ((f.offset, n) :: r) | none => none
  | none => none) = some r := h
    split at h'
    · rename_i n hn
      split at h'
      · rename_i q hq
        cases h'
        rw [List.mapM_cons]
        simp only [Sem.run_bind, run_sz hn, Result.andThen_ok, Sem.run_pure, plcA_run fs q w hq]
      · cases h'
    · cases h'
theorem bldA_run {ps : List (Nat × A)} (h : bldA P t ps = some r) (φ : Val) (w : World) : (Instr.build t (ps.map fun x => (x.1, den φ x.2)).toArray).run P w = .ok (den φ r) w ∧ ∀ n, (∀ p ∈ ps, below n p.2) → below n r := by
  unfold bldA at h
  split at h
  · rename_i z hz
    split at h
    · rename_i d hu
      split at h
      · rename_i fs
        split at h
        · rename_i pl hpl
          split at h
          · rename_i q hq
            cases h
            refine ⟨?_, fun n hp => belowL_fill hp (below_cA (below_zr hz n)) hq⟩
            have hm : (fs.mapM (fun f => do pure (f.offset, ← sizeOf f.type) : Field → Sem (Nat × Nat))).run P w = .ok pl.toArray w := by
              rw [Array.mapM_eq_mapM_toList, Sem.run_map, plcA_run _ _ w hpl]; rfl
            have hf := fillA_run _ φ _ _ _ hq
            simp only [Instr.build, Sem.run_bind, run_zr hz φ, Result.andThen_ok, run_underlying hu, hm, den_cA]
            have hp : (fun x : Nat => pl.toArray[x]?) = fun i : Nat => pl[i]? := by funext i; simp
            rw [hp, hf]
            simp [den]
          · cases h
        · cases h
      · rename_i n e
        split at h
        · rename_i sz hs
          split at h
          · rename_i q hq
            cases h
            refine ⟨?_, fun n hp => belowL_fill hp (below_cA (below_zr hz n)) hq⟩
            have hf := fillA_run _ φ _ _ _ hq
            simp only [Instr.build, Sem.run_bind, run_zr hz φ, Result.andThen_ok, run_underlying hu, run_sz hs, den_cA]
            rw [hf]
            simp [den]
          · cases h
        · cases h
      · cases h
    · cases h
  · cases h
end
end Go.V
namespace Go.V
open Go

theorem rept_row (z : List Value) (n sz : Nat) (hz : z.length = sz) : ((Array.range (n * sz)).map (z.toArray[· % z.toArray.size]!)) = (G.rept z n).toArray := by
  subst hz
  apply Array.ext_getElem?
  intro i
  simp only [Array.getElem?_map, List.getElem?_toArray]
  rcases Nat.eq_zero_or_pos z.length with h0 | h0
  · have : z = [] := List.eq_nil_of_length_eq_zero h0
    subst this
    have hr : G.rept ([] : List Value) n = [] := List.eq_nil_of_length_eq_zero (by rw [G.rept_length]; simp)
    simp [hr]
  · rcases Nat.lt_or_ge i (n * z.length) with hi | hi
    · rw [G.rept_get z h0 n i hi]
      have hm : i % z.length < z.length := Nat.mod_lt _ h0
      simp [hi]
      rw [List.getElem?_eq_getElem hm]; rfl
    · rw [List.getElem?_eq_none (by rw [G.rept_length]; exact hi)]
      simp [Array.getElem?_range]; omega
theorem rpA_succ (z : List A) (n : Nat) : rpA z (n + 1) = z ++ rpA z n := by
  have : rpA z (n + 1) = apA z (rpA z n) fun r => r := rfl
  rw [this, apA_eq]
theorem denL_append (φ : Val) (a b : List A) : denL φ (a ++ b) = denL φ a ++ denL φ b := by simp [denL_map]
theorem denL_rpA (φ : Val) (z : List A) : ∀ n, denL φ (rpA z n) = G.rept (denL φ z) n
  | 0 => rfl
  | n + 1 => by rw [rpA_succ, denL_append, denL_rpA φ z n]; rfl
theorem belowL_rpA {m : Nat} {z : List A} (h : belowL m z) : ∀ n, belowL m (rpA z n)
  | 0 => trivial
  | n + 1 => by rw [rpA_succ]; exact belowL_append h (belowL_rpA h n)
theorem rpA_length (z : List A) (n : Nat) : (rpA z n).length = n * z.length := by rw [rpA_eq]; simp

section
variable {P : Program} {φ : Val} {s : S} {w : World} {a b x r : A} {t : TypeId} {ρ : Rd}
/-- A new block, known whole. -/
theorem Rel.alloc0 (R : Rel φ s w) (hn : s.n < most) (T : TypeId) (ro : Bool) (cap : Nat) (cs : List A) (hb : belowL s.n cs) :
    Stp φ s w (upd φ s.n ⟨w.heap.size, 0, cap⟩) (s.new (.c T ro 0 cs)) { w with heap := w.heap.push (.cells (denL φ cs).toArray T (0, 0)) } := by
  have := R.alloc hn T ro 0 cap cs hb [] w.drawn (fun _ => rfl) (fun h => absurd h (Nat.lt_irrefl _))
  simpa using this
theorem bslA_run {len : Nat} {ps : List (Nat × A)} {s' : S} (h : bslA P s t len ps = some (r, s')) (R : Rel φ s w) (hp : ∀ p ∈ ps, below s.n p.2) :
    ∃ φ' w', Stp φ s w φ' s' w' ∧ below s'.n r ∧ (Instr.buildSlice t len (ps.map fun x => (x.1, den φ x.2)).toArray).run P w = .ok (den φ' r) w' := by
  unfold bslA at h
  split at h
  · rename_i d hu
    split at h
    · rename_i e
      split at h
      · rename_i sz hs
        split at h
        · rename_i z hz
          obtain ⟨hc, h⟩ := bif_some' h
          simp only [Bool.and_eq_true, Nat.ble_eq, Nat.beq_eq, lnA_eq] at hc
          split at h
          · rename_i cs hcs
            obtain ⟨hn, h⟩ := newC_eq h
            cases h
            have hzb : belowL s.n (cA z) := below_cA (below_zr hz s.n)
            have hb : belowL s.n cs := belowL_fill hp (belowL_rpA hzb len) hcs
            have hS := R.alloc0 hn e false 0 cs hb
            refine ⟨_, _, hS, Nat.lt_succ_self _, ?_⟩
            have hf := fillA_run _ φ _ _ _ hcs
            rw [denL_rpA] at hf
            have hzl : (denL φ (cA z)).length = sz := by rw [denL_length]; exact hc.2
            have hrow := rept_row (denL φ (cA z)) len sz hzl
            simp only [Instr.buildSlice, Sem.run_bind, run_underlying hu, run_sz hs, Result.andThen_ok]
            rw [if_neg (by omega)]
            rcases Nat.eq_zero_or_pos (len * sz) with h0 | h0
            · have he : G.rept (denL φ (cA z)) len = [] := List.eq_nil_of_length_eq_zero (by rw [G.rept_length, hzl]; exact h0)
              rw [he] at hf
              rw [if_pos h0, h0]
              have hr0 : ∀ (f : Nat → Value), Array.map f (Array.range 0) = #[] := fun _ => Array.eq_empty_of_size_eq_zero (by simp)
              simp only [Sem.run_bind, Sem.run_pure, Result.andThen_ok, hr0]
              rw [hf]
              simp only [newRow, newObj, Sem.run_bind, Sem.run, Sem.run_pure, Result.andThen_ok, den, upd_self, capD, Nat.add_zero]
            · rw [if_neg (by omega)]
              simp only [Sem.run_bind, run_zr hz φ, Sem.run_pure, Result.andThen_ok, den_cA, hrow, hf]
              simp only [newRow, newObj, Sem.run_bind, Sem.run, Sem.run_pure, Result.andThen_ok, den, upd_self, capD, Nat.add_zero]
          · cases h
        · cases h
      · cases h
    · cases h
  · cases h
theorem mslA_run {len cap : A} {s' : S} (h : mslA P s t len cap = some (r, s')) (R : Rel φ s w) :
    ∃ φ' w', Stp φ s w φ' s' w' ∧ below s'.n r ∧ (Instr.makeSlice t (den φ len) (den φ cap)).run P w = .ok (den φ' r) w' := by
  unfold mslA at h
  split at h
  · rename_i d hu
    split at h
    · rename_i e
      split at h
      · rename_i sz hs
        split at h
        · rename_i bb hby
          split at h
          · rename_i z hz
            split at h
            · rename_i n hn1
              split at h
              · rename_i c hc1
                obtain ⟨hc, h⟩ := bif_some' h
                simp only [Bool.and_eq_true, Nat.ble_eq, Nat.beq_eq, lnA_eq] at hc
                obtain ⟨⟨⟨hnc, hbc⟩, hcl⟩, hzl0⟩ := hc
                obtain ⟨hn, h⟩ := newC_eq h
                cases h
                obtain ⟨k1, rfl⟩ := natA_den hn1
                obtain ⟨k2, rfl⟩ := natA_den hc1
                have hzb : belowL s.n (cA z) := below_cA (below_zr hz s.n)
                have hS := R.alloc0 hn e false 0 (rpA (cA z) c) (belowL_rpA hzb c)
                refine ⟨_, _, hS, Nat.lt_succ_self _, ?_⟩
                have hzl : (denL φ (cA z)).length = sz := by rw [denL_length]; exact hzl0
                have hrow := rept_row (denL φ (cA z)) c sz hzl
                obtain ⟨inf, hinf, hinf2⟩ : ∃ i, P.info? e = some i ∧ i.bytes = bb := by
                  unfold byB at hby
                  split at hby
                  · rename_i i hi; cases hby; exact ⟨i, hi, rfl⟩
                  · cases hby
                have hwn : IntKind.i64.wrap (n : Int) = (n : Int) := IntWalk.i64_in _ (by omega)
                have hwc : IntKind.i64.wrap (c : Int) = (c : Int) := IntWalk.i64_in _ (by omega)
                have hti : (typeInfo e).run P w = .ok inf w := by simp [typeInfo, hinf]
                have hbc' : ¬ (281474976710656 : Int) < (inf.bytes : Int) * (c : Int) := by
                  rw [hinf2, ← Int.natCast_mul]; omega
                have hroom : ¬ roomBytes < c * inf.bytes := by rw [hinf2, Nat.mul_comm]; unfold roomBytes; omega
                have hneg1 : ¬ ((c : Int) < 0) := by omega
                have hneg2 : ¬ ((n : Int) < 0) := by omega
                have hneg3 : ¬ ((c : Int) < (n : Int)) := by omega
                simp only [Instr.makeSlice, den, asInt, asIntOf, Sem.run_bind, run_underlying hu, Result.andThen_ok, Sem.run_pure, hti, hwn, hwc]
                rw [if_neg (by simp [hneg1, hneg2, hneg3]; omega)]
                simp only [Sem.run_pure, Result.andThen_ok, askRoom, Int.toNat_natCast]
                rw [if_neg (by simpa using hroom)]
                simp only [Sem.run_bind, Sem.run_pure, Result.andThen_ok, run_sz hs]
                rcases Nat.eq_zero_or_pos (c * sz) with h0 | h0
                · have he : G.rept (denL φ (cA z)) c = [] := List.eq_nil_of_length_eq_zero (by rw [G.rept_length, hzl]; exact h0)
                  rw [if_pos h0, h0]
                  have hr0 : ∀ (f : Nat → Value), Array.map f (Array.range 0) = #[] := fun _ => Array.eq_empty_of_size_eq_zero (by simp)
                  simp only [Sem.run_bind, Sem.run_pure, Result.andThen_ok, hr0, denL_rpA, he]
                  simp only [newRow, newObj, Sem.run_bind, Sem.run, Sem.run_pure, Result.andThen_ok, den, upd_self, capD, Nat.add_zero]
                · rw [if_neg (by omega)]
                  simp only [Sem.run_bind, run_zr hz φ, Sem.run_pure, Result.andThen_ok, den_cA, hrow, denL_rpA]
                  simp only [newRow, newObj, Sem.run_bind, Sem.run, Sem.run_pure, Result.andThen_ok, den, upd_self, capD, Nat.add_zero]
              · cases h
            · cases h
          · cases h
        · cases h
      · cases h
    · cases h
  · cases h
end
end Go.V
namespace Go.V
open Go

theorem Tr.set_set {α : Type} (u v : Option α) : ∀ (p : Pa) (t : Tr α), Tr.set v p (Tr.set u p t) = Tr.set v p t
  | .h, .e => rfl
  | .h, .n _ _ _ => rfl
  | .l p, .e => by simp only [Tr.set]; rw [Tr.set_set u v p]
  | .l p, .n l _ _ => by simp only [Tr.set]; rw [Tr.set_set u v p]
  | .r p, .e => by simp only [Tr.set]; rw [Tr.set_set u v p]
  | .r p, .n _ _ r => by simp only [Tr.set]; rw [Tr.set_set u v p]

/-! ### append -/
noncomputable def bcs (l : List Nat) : List A := List.rec (motive := fun _ => List A) [] (fun b _ ih => .i .u8 (.ofNat (Nat.mod b 256)) :: ih) l
/-- The zero value of an element has its size. -/
noncomputable def zok (P : Program) (e : TypeId) (sz : Nat) : Bool := match zrB P e with | some z => Nat.beq (lnA (cA z)) sz | none => false
/-- What is appended, or copied: how many, their cells. -/
noncomputable def srcA (s : S) (sz : Nat) (x : A) : Option (Nat × List A) := match x with
  | .v (.slice none 0 _) => some (0, [])
  | .str l => bif Nat.beq sz 1 then fN (lnN l) fun n => some (n, bcs l) else none
  | .s l o n _ _ => match n with
    | 0 => some (0, [])
    | n + 1 => match ob s l with
      | some (.c _ _ _ cs) => match tk ((n + 1) * sz) (dp o cs) with
        | some r => some (n + 1, r)
        | none => none
      | _ => none
  | _ => none
def isSrc (d : TypeDesc) : Bool := match d with | .slice _ => true | .string => true | _ => false
theorem isSrc_iff {d : TypeDesc} (h : isSrc d = true) : d = .string ∨ ∃ e, d = .slice e := by
  cases d <;> first | (exact absurd h Bool.false_ne_true) | (exact .inl rfl) | (exact .inr ⟨_, rfl⟩)
noncomputable def appA (P : Program) (s : S) (t t2 : TypeId) (x y : A) : Option (A × S) := match P.underlying t with
  | some d => match d with
    | .slice e => match P.underlying t2 with
      | none => none
      | some d2 => match isSrc d2 with
        | false => none
        | true => match szB P e with
          | none => none
          | some sz => match byB P e with
            | none => none
            | some bb => match srcA s sz y with
              | none => none
              | some (m, xs) => bif fit xs (m * sz) && Nat.blt 0 sz && zok P e sz then match x with
                | .v (.slice none 0 0) => match m with
                  | 0 => some (.v (.slice none 0 0), s)
                  | m + 1 => bif Nat.ble ((m + 1) * bb) 16777216 && Nat.ble (m + 1) 16777216 then newC (.c e false sz xs) s fun l s => some (.s l 0 (m + 1) false 0, s) else none
                | .s l o n k c => match ob s l with
                  | some (.c T ro g cs) => match k with
                    | true => bif Nat.ble (n + m) c then
                        (match m with
                        | 0 => some (.s l o n true c, s)
                        | m + 1 => match ro with
                          | true => none
                          | false => match spA xs (o + n * sz) cs with
                            | some cs' => putC l (.c T false g cs') s fun s => fN (n + (m + 1)) fun n' => some (.s l o n' true c, s)
                            | none => none)
                      else bif Nat.ble ((n + m) * bb) 16777216 && Nat.ble (n + m) 16777216 then match tk (n * sz) (dp o cs) with
                        | some os => apA os xs fun cs' => newC (.c e false sz cs') s fun l s => fN (n + m) fun n' => some (.s l 0 n' false 0, s)
                        | none => none
                      else none
                    | false => bif fitS s l o n c then
                        (match m with
                        | 0 => some (.s l o n false c, s)
                        | m + 1 => bif Nat.ble ((n + (m + 1)) * bb) 16777216 && Nat.ble (n + (m + 1)) 16777216 && Nat.beq T e && Nat.beq g sz then match ro with
                          | true => none
                          | false => match tk (n * sz) (dp o cs) with
                            | some os => apA os xs fun cs' => delC l s fun s => newC (.c e false sz cs') s fun l s => fN (n + (m + 1)) fun n' => some (.s l 0 n' false 0, s)
                            | none => none
                          else none)
                      else none
                  | _ => none
                | _ => none
                else none
    | _ => none
  | none => none

theorem bcs_map (φ : Val) : ∀ l : List Nat, denL φ (bcs l) = (l.map UInt8.ofNat).map fun b => Value.int .u8 b.toNat
  | [] => rfl
  | b :: l => by
    have : bcs (b :: l) = .i .u8 (.ofNat (Nat.mod b 256)) :: bcs l := rfl
    rw [this, denL, bcs_map φ l]
    simp only [List.map_cons, den]
    congr 2
theorem bcs_below (n : Nat) : ∀ l : List Nat, belowL n (bcs l)
  | [] => trivial
  | _ :: l => ⟨trivial, bcs_below n l⟩
section
variable {P : Program} {φ : Val} {s : S} {w : World} {a b x y r : A} {t : TypeId} {ρ : Rd}
/-- What a source gives. -/
structure Src (P : Program) (φ : Val) (s : S) (w : World) (sz : Nat) (y : A) (m : Nat) (xs : List A) : Prop where
  len : ∀ w', (Builtin.lenOf (den φ y)).run P w' = .ok m w'
  cells : ∀ d, (Builtin.firstCells sz m (den φ y)).run P { w with drawn := d } = .ok (denL φ xs).toArray { w with drawn := d }
  bl : belowL s.n xs
theorem run_cells_d {l : Nat} {T : TypeId} {ro : Bool} {g : Nat} {cs : List A} (h : okO φ l (.c T ro g cs) w) {o n : Nat} {q : List A} (hr : tk n (dp o cs) = some q) (d : Nat) :
    (loadCells ⟨(φ l).blk, (φ l).base + o, none⟩ n).run P { w with drawn := d } = .ok (denL φ q).toArray { w with drawn := d } :=
  run_cells (w := { w with drawn := d }) (T := T) (ro := ro) (g := g) (cs := cs) h hr
theorem srcA_run {sz m : Nat} {xs : List A} (h : srcA s sz y = some (m, xs)) (R : Rel φ s w) (hy : below s.n y) : Src P φ s w sz y m xs := by
  unfold srcA at h
  split at h
  · cases h
    exact ⟨fun w' => rfl, fun d => rfl, trivial⟩
  · rename_i l
    obtain ⟨h1, h2⟩ := bif_some' h
    rw [fN_eq] at h2; cases h2
    have hsz : (strV l).size = l.length := by simp [strV, ByteArray.size]
    refine ⟨fun w' => by simp [Builtin.lenOf, den, hsz, lnN_eq], fun d => ?_, bcs_below _ l⟩
    simp only [Builtin.firstCells, den, bcs_map]
    have he : (strV l).extract 0 (lnN l) = strV l := by rw [lnN_eq, ← hsz]; simp
    show Result.ok (((strV l).extract 0 (lnN l)).data.map fun b => Value.int .u8 b.toNat) _ = _
    rw [he]
    simp
  · rename_i l o n k c
    split at h
    · cases h
      exact ⟨fun w' => rfl, fun d => by simp [Builtin.firstCells, den, denL, loadCells, loadCellsFrom], trivial⟩
    · rename_i n
      split at h
      · rename_i T ro g cs hob
        split at h
        · rename_i q hq
          cases h
          refine ⟨fun w' => rfl, fun d => ?_, belowL_tk (belowL_dp (R.bl hy hob)) hq⟩
          simp only [Builtin.firstCells, den]
          exact run_cells_d (R.has hy hob) hq d
        · cases h
      · cases h
  · cases h

theorem run_append_in {e t2 : TypeId} {d2 : TypeDesc} {i : TypeInfo} (ty : TypeId) (hu : P.underlying t = some (.slice e)) (h2 : P.underlying t2 = some d2) (hd : d2 = .string ∨ ∃ e, d2 = .slice e) (hi : P.info? e = some i) {b : Option Addr} {n cap m : Nat} {yv : Value} {news : List Value}
    (hl : (Builtin.lenOf yv).run P w = .ok m w) (hc : (Builtin.firstCells i.size m yv).run P w = .ok news.toArray w) (hr : n + m ≤ cap) :
    (Builtin.append_ #[t, t2] ty #[.slice b n cap, yv]).run P w = (match b with | some a => (storeCells (a.add (n * i.size)) news).run P w | none => .ok () w).andThen fun _ w' => .ok (.slice b (n + m) cap) w' := by
  rcases hd with rfl | ⟨e2, rfl⟩ <;> cases b <;> simp [Builtin.append_, run_underlying hu, run_underlying h2, sizeOf, typeInfo, hi, hl, hc, hr]
theorem run_append_out {e t2 : TypeId} {d2 : TypeDesc} {i : TypeInfo} {z : Value} (ty : TypeId) (hu : P.underlying t = some (.slice e)) (h2 : P.underlying t2 = some d2) (hd : d2 = .string ∨ ∃ e, d2 = .slice e) (hi : P.info? e = some i) (hz : i.zero = some z) {b : Option Addr} {n cap m : Nat} {yv : Value} {olds news : List Value}
    (hl : (Builtin.lenOf yv).run P w = .ok m w) (hc : (Builtin.firstCells i.size m yv).run P w.drew = .ok news.toArray w.drew) (ho : (Builtin.firstCells i.size n (.slice b n cap)).run P w.drew = .ok olds.toArray w.drew) (hr : cap < n + m)
    (hb : (n + m) * i.bytes ≤ 16777216) (hm : n + m ≤ 16777216) :
    (Builtin.append_ #[t, t2] ty #[.slice b n cap, yv]).run P w = .ok (.slice (some ⟨w.heap.size, 0, none⟩) (n + m) (grownCap w (n + m) cap e))
      (w.drew.alloc (.cells ((olds ++ news).toArray ++ Builtin.zeroCells z.cells (grownCap w (n + m) cap e - (n + m))) e)) := by
  have he : ∀ Z : Array Value, olds.toArray ++ (news.toArray ++ Z) = (olds ++ news).toArray ++ Z := fun Z => by apply Array.ext'; simp
  have hn : ¬ (n + m ≤ cap) := by omega
  have h63' : ¬ (9223372036854775807 < ((n : Int) + (m : Int))) := by omega
  have h48 := growslice_fits (bytes := i.bytes) hr (by omega)
  have h48' : ¬ (281474976710656 < Builtin.nextslicecap (n + m) cap * i.bytes) := by omega
  rcases hd with rfl | ⟨e2, rfl⟩ <;> simp [Builtin.append_, run_underlying hu, run_underlying h2, sizeOf, typeInfo, zeroValue, hi, hz, hl, hn, h63', h48', Question.forced, hc, ho, newRow, grownCap] <;> rw [he]
end
end Go.V
namespace Go.V
open Go

section
variable {P : Program} {φ : Val} {s : S} {w : World} {a b x y r : A} {t : TypeId} {ρ : Rd}

/-- A new block that may grow. -/
theorem Rel.allocG (R : Rel φ s w) (hn : s.n < most) (e : TypeId) (sz cap k : Nat) (cs : List A) (hb : belowL s.n cs) (z : Array Value) (hz : z.size = sz) (hl : cs.length = k * sz) (hk : k ≤ cap) (d : Nat) (h0 : 0 < sz) :
    Stp φ s w (upd φ s.n ⟨w.heap.size, 0, cap⟩) (s.new (.c e false sz cs)) { w with heap := w.heap.push (.cells ((denL φ cs).toArray ++ Builtin.zeroCells z (cap - k)) e (0, 0)), drawn := d } := by
  have hs : (Builtin.zeroCells z (cap - k)).size = (cap - k) * sz := by rw [size_zeroCells, hz]
  have := R.alloc hn e false sz cap cs hb (Builtin.zeroCells z (cap - k)).toList d (fun h => by omega) (fun _ => by
    rw [hl, Array.length_toList, hs, ← Nat.add_mul, Nat.add_sub_cancel' hk]
    exact ⟨Nat.mul_le_mul_right _ hk, Nat.le_refl _⟩)
  have he : ((denL φ cs).toArray ++ Builtin.zeroCells z (cap - k)) = (denL φ cs ++ (Builtin.zeroCells z (cap - k)).toList).toArray := by
    apply Array.ext'; simp
  rw [he]; exact this
theorem info_of {e : TypeId} {sz bb : Nat} (hs : szB P e = some sz) (hb : byB P e = some bb) : ∃ i, P.info? e = some i ∧ i.size = sz ∧ i.bytes = bb := by
  unfold szB at hs
  unfold byB at hb
  cases hi : P.info? e with
  | none => rw [hi] at hs; cases hs
  | some i => rw [hi] at hs hb; cases hs; cases hb; exact ⟨i, rfl, rfl, rfl⟩

/-- An own slice of unknown capacity is appended to where there is room. -/
theorem Rel.appIn (R : Rel φ s w) (hn : s.n < most) {l o n m c g : Nat} (hl : l < s.n) {e : TypeId} {cs os xs : List A} (hob : ob s l = some (.c e false g cs)) (h0 : 0 < g) (ho : o = c * g) (hfit : (c + n) * g ≤ cs.length) (hos : tk (n * g) (dp o cs) = some os)
    (hx : belowL s.n xs) (h1 : ∀ a ∈ xs, one a = true) (hxl : xs.length = m * g) (hroom : n + m ≤ (φ l).cap - c) (hm : 0 < m) :
    ∃ w', (storeCells ⟨(φ l).blk, (φ l).base + (o + n * g), none⟩ (denL φ xs)).run P w = .ok () w' ∧
      Stp φ s w (upd φ s.n ⟨(φ l).blk, (φ l).base + o, (φ l).cap - c⟩) ((s.drop l).new (.c e false g (os ++ xs))) w' := by
  have hok := R.has hl hob
  have hbl : belowL s.n cs := R.bl hl hob
  obtain ⟨pre, post, f, h2, h3, h4, h5, h6⟩ := hok
  have hf := h4 rfl
  subst hf
  obtain ⟨h7, h8⟩ := h6 h0
  obtain ⟨h9, h10⟩ := tk_spec _ _ _ hos
  rw [dp_eq] at h9 h10
  have hosl : os.length = n * g := by rw [h10, List.length_take]; exact Nat.min_eq_left h9
  have hosb : belowL s.n os := belowL_tk (belowL_dp hbl) hos
  have hcg : c * g + n * g ≤ cs.length := by rw [← Nat.add_mul]; exact hfit
  let x : Loc := ⟨(φ l).blk, (φ l).base + o, (φ l).cap - c⟩
  have hag : ∀ l, l < s.n → upd φ s.n x l = φ l := fun l hl => upd_lt φ x hl
  -- the block goes over
  have hsplit : cs = cs.take o ++ os ++ cs.drop (o + n * g) := by
    rw [h10, List.append_assoc]
    conv => lhs; rw [← List.take_append_drop o cs]
    congr 1
    conv => lhs; rw [← List.take_append_drop (n * g) (cs.drop o)]
    rw [List.drop_drop]
  have hol : (cs.take o).length = o := by rw [List.length_take]; exact Nat.min_eq_left (by omega)
  have hcap1 : ((φ l).cap - c) * g + c * g = (φ l).cap * g := by rw [← Nat.add_mul, Nat.sub_add_cancel (by omega)]
  have hrow1 : pre ++ denL φ cs ++ post = (pre ++ denL φ (cs.take o)) ++ denL φ os ++ (denL φ (cs.drop (o + n * g)) ++ post) := by
    conv => lhs; rw [hsplit]
    simp only [denL_append, List.append_assoc]
  have hn1 : (n + m) * g ≤ ((φ l).cap - c) * g := Nat.mul_le_mul_right _ hroom
  rw [Nat.add_mul] at hn1
  have hdl : (cs.drop (o + n * g)).length = cs.length - (o + n * g) := List.length_drop
  have S1 := R.rename hn hl hob (fun _ _ h => by cases h) x rfl (.c e false g os) (belowL_mono (Nat.le_succ _) _ hosb) ⟨pre ++ denL φ (cs.take o), denL φ (cs.drop (o + n * g)) ++ post, (0, 0), by
      rw [upd_self, denL_congr hag os hosb, h2, hrow1], by rw [upd_self]; simp [denL_length, hol, h3, x], fun _ => rfl, fun h => by omega, fun _ => by
      rw [upd_self, List.length_append, denL_length, hdl]
      simp only [x]
      omega⟩
  -- it is written behind its end
  have hst := run_storeCells_at (P := P) (φ l).blk ((φ l).base + (o + n * g)) e (denL φ xs) 0 _ w h2 (by simp [denL_length]; omega) (fun v hv => by
    rw [denL_map] at hv; obtain ⟨a, ha, rfl⟩ := List.mem_map.1 hv; exact one_den φ (h1 a ha))
  have hpl : (pre ++ denL φ (cs.take o) ++ denL φ os).length = (φ l).base + (o + n * g) := by simp [denL_length, hol, hosl, h3]
  have hrow2 : ((pre ++ denL φ cs ++ post).take ((φ l).base + (o + n * g) + 0) ++ denL φ xs ++ (pre ++ denL φ cs ++ post).drop ((φ l).base + (o + n * g) + 0 + (denL φ xs).length))
      = (pre ++ denL φ (cs.take o)) ++ denL φ (os ++ xs) ++ (denL φ (cs.drop (o + n * g)) ++ post).drop (m * g) := by
    rw [hrow1, Nat.add_zero, ← hpl, List.take_left, List.drop_length_add_append, denL_length, hxl, denL_append]
    simp only [List.append_assoc]
  refine ⟨w.setRow (φ l).blk ((pre ++ denL φ (cs.take o)) ++ denL φ (os ++ xs) ++ (denL φ (cs.drop (o + n * g)) ++ post).drop (m * g)).toArray, ?_, ?_⟩
  · rw [hst]; simp only [hrow2]
  · have R1 := S1.1
    have hob1 : ((s.drop l).new (.c e false g os)).h.get (pth s.n) = some (.c e false g os) := get_new (s := s.drop l)
    have hxb : belowL (s.n + 1) (os ++ xs) := belowL_mono (Nat.le_succ _) _ (belowL_append hosb hx)
    have S2 := R1.put (w' := w.setRow (φ l).blk ((pre ++ denL φ (cs.take o)) ++ denL φ (os ++ xs) ++ (denL φ (cs.drop (o + n * g)) ++ post).drop (m * g)).toArray) (l := s.n) (Nat.lt_succ_self _) hob1 (o' := .c e false g (os ++ xs)) (fun _ _ h => by cases h) hxb
      (fun b hb _ => heap_setRow w _ (by rw [upd_self] at hb; exact hb)) ⟨pre ++ denL φ (cs.take o), (denL φ (cs.drop (o + n * g)) ++ post).drop (m * g), (0, 0), by
        rw [upd_self, denL_congr hag _ (belowL_append hosb hx)]
        exact setRow_heap w _ _ _ e (0, 0) h2, by rw [upd_self]; simp [denL_length, hol, h3, x], fun _ => rfl, fun h => by omega, fun _ => by
        rw [upd_self, List.length_drop, List.length_append, List.length_append, denL_length, hdl, hosl, hxl]
        simp only [x]
        omega⟩ rfl rfl rfl (by simp [World.setRow])
    have hs2 : ((s.drop l).new (.c e false g os)).put s.n (.c e false g (os ++ xs)) = (s.drop l).new (.c e false g (os ++ xs)) := by
      simp only [S.put, S.new, S.drop, Tr.set_set]
    rw [hs2] at S2
    exact S1.trans S2
end
end Go.V
namespace Go.V
open Go

section
variable {P : Program} {φ : Val} {s : S} {w : World} {a b x y r : A} {t : TypeId} {ρ : Rd}
theorem zok_spec {e : TypeId} {sz : Nat} (h : zok P e sz = true) {i : TypeInfo} (hi : P.info? e = some i) : ∃ z, i.zero = some z ∧ z.cells.size = sz := by
  unfold zok zrB at h
  rw [hi] at h
  cases hz : i.zero with
  | none => simp [hz] at h
  | some z =>
    simp only [hz] at h
    refine ⟨z, rfl, ?_⟩
    have h1 := Nat.eq_of_beq_eq_true h
    rw [lnA_eq] at h1
    have h2 := den_cA (fun _ => ⟨0, 0, 0⟩) (ofV z)
    rw [den_ofV] at h2
    rw [h2]; simp [denL_length, h1]
/-- A slice grows: a new block. -/
theorem grow_run (R : Rel φ s w) (hn : s.n < most) {e t2 : TypeId} {d2 : TypeDesc} {sz bb n m cap : Nat} {b : Option Addr} {os xs : List A} (ty : TypeId) (hu : P.underlying t = some (.slice e)) (h2 : P.underlying t2 = some d2) (hd : isSrc d2 = true)
    (hs : szB P e = some sz) (hb : byB P e = some bb) (hz : zok P e sz = true) (h0 : 0 < sz) (hS : Src P φ s w sz y m xs) (hxl : xs.length = m * sz) (hol : os.length = n * sz) (hob : belowL s.n os)
    (ho : ∀ d, (Builtin.firstCells sz n (.slice b n cap)).run P { w with drawn := d } = .ok (denL φ os).toArray { w with drawn := d }) (hr : cap < n + m) (hbb : (n + m) * bb ≤ 16777216) (hm : n + m ≤ 16777216) :
    ∃ c w', Stp φ s w (upd φ s.n ⟨w.heap.size, 0, c⟩) (s.new (.c e false sz (os ++ xs))) w' ∧
      (Builtin.append_ #[t, t2] ty #[.slice b n cap, den φ y]).run P w = .ok (.slice (some ⟨w.heap.size, 0, none⟩) (n + m) c) w' := by
  obtain ⟨i, hi, rfl, rfl⟩ := info_of hs hb
  obtain ⟨z, hz1, hz2⟩ := zok_spec hz hi
  have hrun := run_append_out (w := w) ty hu h2 (isSrc_iff hd) hi hz1 (b := b) (n := n) (cap := cap) (hS.len w) (hS.cells _) (ho _) hr hbb hm
  refine ⟨grownCap w (n + m) cap e, _, ?_, hrun⟩
  have := R.allocG hn e i.size (grownCap w (n + m) cap e) (n + m) (os ++ xs) (belowL_append hob hS.bl) z.cells hz2 (by rw [List.length_append, hol, hxl, Nat.add_mul]) (grownCap_ge w (n + m) cap e) (w.drawn + 1) h0
  rw [denL_append] at this
  exact this

theorem appA_run {t2 ty : TypeId} {s' : S} (h : appA P s t t2 x y = some (r, s')) (R : Rel φ s w) (hx : below s.n x) (hy : below s.n y) :
    ∃ φ' w', Stp φ s w φ' s' w' ∧ below s'.n r ∧ (Builtin.append_ #[t, t2] ty #[den φ x, den φ y]).run P w = .ok (den φ' r) w' := by
  unfold appA at h
  split at h
  · rename_i d hu
    split at h
    · rename_i e
      split at h
      · cases h
      · rename_i d2 h2
        split at h
        · cases h
        · rename_i hd
          split at h
          · cases h
          · rename_i sz hs
            split at h
            · cases h
            · rename_i bb hb
              split at h
              · cases h
              · rename_i m xs hsrc
                obtain ⟨hc, h⟩ := bif_some' h
                simp only [Bool.and_eq_true] at hc
                obtain ⟨⟨hfx, h0'⟩, hz⟩ := hc
                have h0 : 0 < sz := by simpa [Nat.blt_eq] using h0'
                obtain ⟨hxl, h1⟩ := fit_spec _ _ hfx
                have hS := srcA_run (P := P) hsrc R hy
                obtain ⟨i, hi, hi1, hi2⟩ := info_of hs hb
                have hcell : (Builtin.firstCells i.size m (den φ y)).run P w = .ok (denL φ xs).toArray w := by rw [hi1]; exact hS.cells w.drawn
                split at h
                · split at h
                  · cases h
                    refine ⟨φ, w, R.refl, trivial, ?_⟩
                    rw [show den φ (.v (.slice none 0 0)) = .slice none 0 0 from rfl]
                    rw [run_append_in (b := none) (n := 0) (cap := 0) ty hu h2 (isSrc_iff hd) hi (hS.len w) hcell (Nat.le_refl _)]
                    rfl
                  · rename_i m
                    obtain ⟨hc, h⟩ := bif_some' h
                    simp only [Bool.and_eq_true, Nat.ble_eq] at hc
                    obtain ⟨hn, h⟩ := newC_eq h
                    cases h
                    obtain ⟨c, w', hst, hr⟩ := grow_run R hn ty hu h2 hd hs hb hz h0 hS hxl (os := []) (n := 0) (cap := 0) (b := none) (by simp) trivial (fun d => by simp [Builtin.firstCells, denL]) (by omega) (by simpa using hc.1) (by simpa using hc.2)
                    refine ⟨_, w', hst, Nat.lt_succ_self _, ?_⟩
                    rw [show den φ (.v (.slice none 0 0)) = .slice none 0 0 from rfl, hr]
                    simp [den, capD, upd_self]
                · rename_i l o n k c _
                  split at h
                  · rename_i T ro g cs hob
                    have hbl : belowL s.n cs := R.bl hx hob
                    split at h
                    · cases hroom : Nat.ble (n + m) c with
                      | true =>
                        rw [hroom] at h
                        have hroom' : n + m ≤ c := Nat.le_of_ble_eq_true hroom
                        have hri := run_append_in (w := w) (b := some ⟨(φ l).blk, (φ l).base + o, none⟩) (n := n) (cap := c) ty hu h2 (isSrc_iff hd) hi (hS.len w) hcell hroom'
                        simp only [cond_true] at h
                        split at h
                        · cases h
                          have hxs : xs = [] := List.eq_nil_of_length_eq_zero (by simpa using hxl)
                          subst hxs
                          refine ⟨φ, w, R.refl, hx, ?_⟩
                          simp only [den, capD]
                          rw [hri]
                          simp [denL, storeCells]
                        · rename_i m
                          split at h
                          · cases h
                          · split at h
                            · rename_i cs' hsp
                              rw [putC_eq] at h
                              rw [fN_eq] at h; cases h
                              obtain ⟨w', hw, hst⟩ := R.write (P := P) hx hob hS.bl h1 hsp
                              refine ⟨φ, w', hst, hx, ?_⟩
                              simp only [den, capD]
                              rw [hri]
                              simp only [add_den, hi1, hw, Result.andThen_ok]
                            · cases h
                      | false =>
                        rw [hroom] at h
                        have hroom' : c < n + m := by
                          rcases Nat.lt_or_ge c (n + m) with h | h
                          · exact h
                          · rw [Nat.ble_eq_true_of_le h] at hroom; cases hroom
                        simp only [cond_false] at h
                        obtain ⟨hc, h⟩ := bif_some' h
                        simp only [Bool.and_eq_true, Nat.ble_eq] at hc
                        split at h
                        · rename_i os hos
                          rw [apA_eq] at h
                          obtain ⟨hn, h⟩ := newC_eq h
                          rw [fN_eq] at h; cases h
                          have hosl : os.length = n * sz := by rw [(tk_spec _ _ _ hos).2, List.length_take]; exact Nat.min_eq_left (tk_spec _ _ _ hos).1
                          obtain ⟨c', w', hst, hr⟩ := grow_run R hn ty hu h2 hd hs hb hz h0 hS hxl (os := os) (n := n) (cap := c) (b := some ⟨(φ l).blk, (φ l).base + o, none⟩) hosl (belowL_tk (belowL_dp hbl) hos)
                            (fun d => by simp only [Builtin.firstCells]; exact run_cells_d (R.has hx hob) hos d) hroom' hc.1 hc.2
                          refine ⟨_, w', hst, Nat.lt_succ_self _, ?_⟩
                          simp only [den, capD]
                          rw [hr]
                          simp [upd_self]
                        · cases h
                    · obtain ⟨hfit, h⟩ := bif_some' h
                      have hcap := fitS_spec R hx hfit
                      split at h
                      · cases h
                        have hxs : xs = [] := List.eq_nil_of_length_eq_zero (by simpa using hxl)
                        subst hxs
                        refine ⟨φ, w, R.refl, hx, ?_⟩
                        simp only [den, capD]
                        rw [run_append_in (b := some ⟨(φ l).blk, (φ l).base + o, none⟩) (n := n) (cap := (φ l).cap - c) ty hu h2 (isSrc_iff hd) hi (hS.len w) hcell (by omega)]
                        simp [denL, storeCells]
                      · rename_i m _ _
                        obtain ⟨hc, h⟩ := bif_some' h
                        simp only [Bool.and_eq_true, Nat.ble_eq, Nat.beq_eq] at hc
                        obtain ⟨⟨⟨hc1, hc2⟩, hT⟩, hg⟩ := hc
                        subst hT hg
                        split at h
                        · cases h
                        · split at h
                          · rename_i os hos
                            rw [apA_eq, delC_eq] at h
                            obtain ⟨hn, h⟩ := newC_eq h
                            rw [fN_eq] at h; cases h
                            have hosl : os.length = n * g := by rw [(tk_spec _ _ _ hos).2, List.length_take]; exact Nat.min_eq_left (tk_spec _ _ _ hos).1
                            have hn' : s.n < most := hn
                            rcases Nat.lt_or_ge ((φ l).cap - c) (n + (m + 1)) with hlt | hge
                            · have hro : ∀ T cs, s.h.get (pth l) ≠ some (.c T true 0 cs) := fun T cs h => by rw [show s.h.get (pth l) = _ from hob] at h; cases h
                              obtain ⟨RD, _⟩ := R.drop l hro
                              have hS' : Src P φ (s.drop l) w g y (m + 1) xs := ⟨hS.len, hS.cells, hS.bl⟩
                              obtain ⟨c', w', hst, hr⟩ := grow_run RD hn ty hu h2 hd hs hb hz h0 hS' hxl (os := os) (n := n) (cap := (φ l).cap - c) (b := some ⟨(φ l).blk, (φ l).base + o, none⟩) hosl (belowL_tk (belowL_dp hbl) hos)
                                (fun d => by simp only [Builtin.firstCells]; exact run_cells_d (R.has hx hob) hos d) hlt hc1 hc2
                              refine ⟨_, w', Stp.trans (R.drop l hro) hst, Nat.lt_succ_self _, ?_⟩
                              simp only [den, capD]
                              rw [hr]
                              simp [upd_self, S.drop]
                            · have hfs : o = c * g ∧ (c + n) * g ≤ cs.length := by
                                unfold fitS at hfit
                                rw [hob] at hfit
                                simp only at hfit
                                cases hb1 : Nat.blt 0 g with
                                | false => rw [hb1] at hfit; cases hfit
                                | true =>
                                  rw [hb1] at hfit
                                  cases hb2 : Nat.beq o (c * g) with
                                  | false => rw [hb2] at hfit; cases hfit
                                  | true =>
                                    rw [hb2] at hfit
                                    exact ⟨Nat.eq_of_beq_eq_true hb2, by simpa [lnA_eq] using hfit⟩
                              obtain ⟨w', hw, hst⟩ := R.appIn (P := P) hn' hx hob h0 hfs.1 hfs.2 hos hS.bl h1 hxl hge (Nat.succ_pos _)
                              refine ⟨_, w', hst, Nat.lt_succ_self _, ?_⟩
                              simp only [den, capD]
                              rw [run_append_in (b := some ⟨(φ l).blk, (φ l).base + o, none⟩) (n := n) (cap := (φ l).cap - c) ty hu h2 (isSrc_iff hd) hi (hS.len w) hcell hge]
                              simp only [add_den, hi1, hw, Result.andThen_ok, upd_self, S.drop, Nat.add_zero, Nat.sub_zero]
                          · cases h
                    
                  · cases h
                · cases h
    · cases h
  · cases h
end
end Go.V
namespace Go.V
open Go

/-! ### copy -/
noncomputable def lnS (y : A) : Option Nat := match y with
  | .v (.slice none n _) => some n
  | .str l => some (lnN l)
  | .s _ _ n _ _ => some n
  | _ => none
/-- The first n of a source. -/
noncomputable def cutS (n : Nat) (y : A) : A := match y with
  | .str l => match tkN n l with | some r => .str r | none => .v undef
  | .s l o _ k c => .s l o n k c
  | y => y
noncomputable def cpyA (P : Program) (s : S) (t : TypeId) (x y : A) : Option (A × S) := match P.underlying t with
  | some d => match d with
    | .slice e => match szB P e with
      | none => none
      | some sz => match lnS y with
        | none => none
        | some m => match x with
          | .v (.slice none 0 0) => some (.i .i64 (.ofNat 0), s)
          | .s l o dn _ _ => fN (Nat.min m dn) fun n => match n with
            | 0 => some (.i .i64 (.ofNat 0), s)
            | n + 1 => match srcA s sz (cutS (n + 1) y) with
              | none => none
              | some (m', xs) => bif fit xs ((n + 1) * sz) && Nat.beq m' (n + 1) then match ob s l with
                | some (.c T false g cs) => match spA xs o cs with
                  | some cs' => putC l (.c T false g cs') s fun s => some (.i .i64 (.ofNat (n + 1)), s)
                  | none => none
                | _ => none
                else none
          | _ => none
    | _ => none
  | none => none
section
variable {P : Program} {φ : Val} {s : S} {w : World} {a b x y r : A} {t : TypeId} {ρ : Rd}
theorem lnS_run {m : Nat} (h : lnS y = some m) (φ : Val) (w : World) : (Builtin.lenOf (den φ y)).run P w = .ok m w := by
  unfold lnS at h
  split at h
  · cases h; rfl
  · rename_i l
    cases h
    have hsz : (strV l).size = l.length := by simp [strV, ByteArray.size]
    simp [Builtin.lenOf, den, hsz, lnN_eq]
  · cases h; rfl
  · cases h
theorem firstCells_zero {sz m : Nat} (h : lnS y = some m) (φ : Val) (w : World) : (Builtin.firstCells sz 0 (den φ y)).run P w = .ok #[] w := by
  unfold lnS at h
  split at h
  · rfl
  · simp [Builtin.firstCells, den]
  · simp [Builtin.firstCells, den, loadCells, loadCellsFrom]
  · cases h
theorem firstCells_cut {sz m n : Nat} (h : lnS y = some m) (hn : n ≤ m) (φ : Val) : Builtin.firstCells sz n (den φ (cutS n y)) = Builtin.firstCells sz n (den φ y) := by
  unfold lnS at h
  split at h
  · rfl
  · rename_i l
    cases h
    rw [lnN_eq] at hn
    unfold cutS
    simp only
    cases hk : tkN n l with
    | none =>
      exfalso
      have : ∀ (n : Nat) (l : List Nat), n ≤ l.length → tkN n l ≠ none := by
        intro n
        induction n with
        | zero => intro l _ hh; have : (some ([] : List Nat)) = none := hh; cases this
        | succ n ih =>
          intro l hl hh
          cases l with
          | nil => simp at hl
          | cons a l =>
            have h' : (match tkN n l with | some r => some (a :: r) | none => none) = none := hh
            cases hq : tkN n l with
            | none => exact ih l (by simpa using hl) hq
            | some q => rw [hq] at h'; cases h'
      exact this n l hn hk
    | some q =>
      obtain ⟨h1, h2⟩ := tkN_spec _ _ _ hk
      simp only [den, Builtin.firstCells]
      congr 1
      have : (strV q).extract 0 n = (strV l).extract 0 n := by
        apply ByteArray.ext
        apply Array.ext'
        simp [strV, h2, List.map_take, List.take_take]
      show ((strV q).extract 0 n).data.map _ = ((strV l).extract 0 n).data.map _
      rw [this]
  · rfl
  · cases h
theorem below_cut {n k : Nat} (h : below n y) : below n (cutS k y) := by
  unfold cutS
  split
  · split <;> trivial
  · exact h
  · exact h
theorem cpyA_run {t2 ty : TypeId} {s' : S} (h : cpyA P s t x y = some (r, s')) (R : Rel φ s w) (hx : below s.n x) (hy : below s.n y) :
    ∃ φ' w', Stp φ s w φ' s' w' ∧ below s'.n r ∧ (Builtin.copy_ #[t, t2] ty #[den φ x, den φ y]).run P w = .ok (den φ' r) w' := by
  unfold cpyA at h
  split at h
  · rename_i d hu
    split at h
    · rename_i e
      split at h
      · cases h
      · rename_i sz hs
        split at h
        · cases h
        · rename_i m hm
          have hlen := lnS_run (P := P) hm φ w
          split at h
          · cases h
            refine ⟨φ, w, R.refl, trivial, ?_⟩
            have hf := firstCells_zero (P := P) (sz := sz) hm φ w
            simp [Builtin.copy_, den, run_underlying hu, hlen, run_sz hs, hf, goInt]
          · rename_i l o dn k c
            rw [fN_eq] at h
            split at h
            · rename_i h0
              cases h
              refine ⟨φ, w, R.refl, trivial, ?_⟩
              have hf := firstCells_zero (P := P) (sz := sz) hm φ w
              simp [Builtin.copy_, den, run_underlying hu, hlen, run_sz hs, h0, hf, storeCells, goInt]
            · rename_i n hn1
              split at h
              · cases h
              · rename_i m' xs hsrc
                have h' := bif_some' h
                clear h
                obtain ⟨hc, h⟩ := h'
                simp only [Bool.and_eq_true, Nat.beq_eq] at hc
                obtain ⟨hfit, rfl⟩ := hc
                obtain ⟨hxl, h1⟩ := fit_spec _ _ hfit
                split at h
                · rename_i T g cs hob
                  split at h
                  · rename_i cs' hsp
                    rw [putC_eq] at h; cases h
                    have hS := srcA_run (P := P) hsrc R (below_cut hy)
                    obtain ⟨w', hw, hst⟩ := R.write (P := P) hx hob hS.bl h1 hsp
                    refine ⟨φ, w', hst, trivial, ?_⟩
                    have hn2 : m.min dn = n + 1 := hn1
                    have hle : n + 1 ≤ m := by rw [← hn2]; exact Nat.min_le_left _ _
                    have hcl := hS.cells w.drawn
                    rw [firstCells_cut hm hle] at hcl
                    have hcl' : (Builtin.firstCells sz (n + 1) (den φ y)).run P w = .ok (denL φ xs).toArray w := hcl
                    simp [Builtin.copy_, den, run_underlying hu, hlen, run_sz hs, hn2, hcl', hw, goInt]
                  · cases h
                · cases h
          · cases h
    · cases h
  · cases h
end
end Go.V
namespace Go.V
open Go
def fzz (ro : Bool) (g : Nat) : Bool := match ro with | true => (match g with | 0 => false | _ + 1 => true) | false => true

section
variable {P : Program} {φ : Val} {s : S} {w : World} {a b x y r : A} {t : TypeId} {ρ : Rd}
/-- The marks of a block that is read alone. -/
theorem heap_freeze (w : World) (a : Addr) (n : Nat) {b : Nat} (h : b ≠ a.block) : (w.freeze a n).heap[b]? = w.heap[b]? := by
  unfold World.freeze
  split
  · rfl
  · simp [Array.getElem?_modify, Ne.symm h]
theorem heap_freeze_self (w : World) (a : Addr) (n : Nat) {c : Array Value} {T : TypeId} {f : Nat × Nat} (h : w.heap[a.block]? = some (.cells c T f)) : ∃ f', (w.freeze a n).heap[a.block]? = some (.cells c T f') := by
  unfold World.freeze
  split
  · exact ⟨f, h⟩
  · obtain ⟨lo, hi⟩ := f
    simp [Array.getElem?_modify, h]
theorem freeze_rest (w : World) (a : Addr) (n : Nat) : (w.freeze a n).os = w.os ∧ (w.freeze a n).tape = w.tape ∧ (w.freeze a n).output = w.output ∧ (w.freeze a n).heap.size = w.heap.size := by
  unfold World.freeze
  split <;> simp
theorem fzz_spec {ro : Bool} {g : Nat} (h : fzz ro g = true) (T T' : TypeId) (cs cs' : List A) : O.c T ro g cs ≠ O.c T' true 0 cs' := fun e => by
  cases e; cases h
theorem Rel.frz (R : Rel φ s w) {l : Nat} (hl : l < s.n) {T : TypeId} {ro : Bool} {g : Nat} {cs : List A} (hob : ob s l = some (.c T ro g cs)) (hf : fzz ro g = true) (o n : Nat) : Stp φ s w φ (s.put l (.c T true g cs)) (w.freeze ⟨(φ l).blk, o, none⟩ n) := by
  obtain ⟨pre, post, f, h1, h2, h3, h4, h5⟩ := R.has hl hob
  obtain ⟨f', hf'⟩ := heap_freeze_self w ⟨(φ l).blk, o, none⟩ n h1
  obtain ⟨h6, h7, h8, h9⟩ := freeze_rest w ⟨(φ l).blk, o, none⟩ n
  have hbl : belowL s.n cs := R.bl hl hob
  exact R.put (o' := .c T true g cs) hl hob (fzz_spec hf T · cs ·) hbl (fun b hb _ => heap_freeze w _ n hb) ⟨pre, post, f', hf', h2, (fun h => by cases h), h4, h5⟩ h6 h7 h8 (Nat.le_of_eq h9.symm)

/-! ### Strings and bytes -/
noncomputable def s2bA (P : Program) (s : S) (src dst : TypeId) (x : A) : Option (A × S) := match P.underlying src with
  | none => none
  | some _ => match P.underlying dst with
    | some (.slice e) => match P.underlying e with
      | some (.int .u8) => match x with
        | .str l => bif Nat.ble (lnN l) 16777216 then newC (.c e true 1 (bcs l)) s fun q s => fN (lnN l) fun n => some (.s q 0 n false 0, s) else none
        | .s l o n k c => match Nat.beq src dst with
          | true => match ob s l with
            | some (.c T ro g cs) => bif fzz ro g then putC l (.c T true g cs) s fun s => some (.s l o n k c, s) else none
            | _ => none
          | false => none
        | _ => none
      | _ => none
    | _ => none
theorem bcs_length : ∀ l : List Nat, (bcs l).length = l.length
  | [] => rfl
  | _ :: l => by show (bcs l).length + 1 = _; rw [bcs_length l]; rfl
theorem s2bA_run {src dst : TypeId} {s' : S} (h : s2bA P s src dst x = some (r, s')) (R : Rel φ s w) (hx : below s.n x) :
    ∃ φ' w', Stp φ s w φ' s' w' ∧ below s'.n r ∧ (convert src dst (den φ x)).run P w = .ok (den φ' r) w' := by
  unfold s2bA at h
  split at h
  · cases h
  · rename_i sd hsd
    split at h
    · rename_i e hdd
      split at h
      · rename_i he
        split at h
        · rename_i l
          have h' := bif_some' h
          clear h
          obtain ⟨hc, h⟩ := h'
          obtain ⟨hn, h⟩ := newC_eq h
          rw [fN_eq] at h; cases h
          simp only [Nat.ble_eq, lnN_eq] at hc
          have hsz : (strV l).size = l.length := by simp [strV, ByteArray.size]
          let cap := grownCap w l.length 0 e
          have hcap : l.length ≤ cap := grownCap_ge w l.length 0 e
          have hS1 := R.alloc hn e true 1 cap (bcs l) (bcs_below _ l) (List.replicate (cap - l.length) (.int .u8 0)) (w.drawn + 1) (fun h => by omega) (fun _ => by
            rw [bcs_length, List.length_replicate]; omega)
          have R1 := hS1.1
          have hob : ob (s.new (.c e true 1 (bcs l))) s.n = some (.c e true 1 (bcs l)) := get_new
          have hS2 := R1.frz (Nat.lt_succ_self _) hob rfl cap 1
          have hput : (s.new (.c e true 1 (bcs l))).put s.n (.c e true 1 (bcs l)) = s.new (.c e true 1 (bcs l)) := by simp only [S.put, S.new, Tr.set_set]
          rw [hput] at hS2
          refine ⟨_, _, Stp.trans hS1 hS2, Nat.lt_succ_self _, ?_⟩
          have hrow : (strV l).data.map (fun b => Value.int .u8 b.toNat) ++ Array.replicate (cap - (strV l).size) (Value.int .u8 0) = (denL φ (bcs l) ++ List.replicate (cap - l.length) (Value.int .u8 0)).toArray := by
            rw [hsz, bcs_map]; apply Array.ext'; simp
          have hrsz : (denL φ (bcs l) ++ List.replicate (cap - l.length) (Value.int .u8 0)).length = cap := by simp [denL_length, bcs_length]; omega
          have hcv : (convert src dst (.string (strV l))).run P w = (Conv.stringToBytes e (strV l)).run P w := by
            simp only [convert, Sem.run_bind, run_underlying hsd, run_underlying hdd, Result.andThen_ok]
            cases sd <;> simp [run_underlying he]
          show (convert src dst (.string (strV l))).run P w = _
          rw [hcv]
          simp only [Conv.stringToBytes, Sem.run_bind, run_choose, Question.forced, Result.andThen_ok, hsz]
          simp only [newRow, newObj, Sem.run_bind, Sem.run, Sem.run_pure, Result.andThen_ok, Bool.false_eq_true, if_false]
          have hgc : (Question.appendCap l.length 0 e).cut (w.tape w.drawn (Question.appendCap l.length 0 e)) = cap := rfl
          rw [hgc]
          rw [hsz] at hrow
          rw [hrow]
          simp only [markStringish, shape, Sem.run_bind, Sem.run, World.shape?, Result.andThen_ok]
          simp only [Array.getElem?_push, if_true, List.size_toArray, hrsz, run_freeze, Sem.run_pure, Result.andThen_ok, den, upd_self, capD, Nat.add_zero, Nat.sub_zero, lnN_eq]
        · rename_i l o n k c
          split at h
          · rename_i hsd'
            have hsd'' := Nat.eq_of_beq_eq_true hsd'
            subst hsd''
            split at h
            · rename_i T ro g cs hob
              obtain ⟨hfz, h⟩ := bif_some' h
              rw [putC_eq] at h; cases h
              obtain ⟨N, hN, _, _⟩ := shape_of (R.has hx hob)
              have hS := R.frz hx hob hfz N 1
              refine ⟨φ, _, hS, hx, ?_⟩
              have hbeq : (src == src) = true := by simp
              simp only [convert, Sem.run_bind, run_underlying hdd, Result.andThen_ok, den, hbeq, run_underlying he]
              simp [markStringish, shape, Sem.run, hN]
            · cases h
          · cases h
        · cases h
      · cases h
    · cases h
end
end Go.V
namespace Go.V
open Go

noncomputable def usA (P : Program) (s : S) (pt : TypeId) (x y : A) : Option (A × S) := match natA y with
  | none => none
  | some n => match n with
    | 0 => match x with
      | .p l o => some (.str [], s)
      | .v (.pointer none) => some (.str [], s)
      | _ => none
    | n + 1 => match x with
      | .p l o => match P.underlying pt with
        | some (.pointer e) => match szB P e with
          | some 1 => match ob s l with
            | some (.c T ro g cs) => bif Nat.beq T e && Nat.ble (n + 1) 16777216 then match tk (n + 1) (dp o cs) with
                | some q => match bysA q with
                  | some z => bif byt z && fzz ro g then putC l (.c T true g cs) s fun s => some (.str z, s) else none
                  | none => none
                | none => none
              else none
            | _ => none
          | _ => none
        | _ => none
      | _ => none
/-- s[n:] of a slice of n elements, its capacity unknown. -/
noncomputable def ghA (P : Program) (s : S) (t : TypeId) (x : A) (lo hi mx : Option Nat) : Option (A × S) := match P.underlying t with
  | some (.slice e) => match szB P e with
    | none => none
    | some sz => match mx with
      | some _ => none
      | none => match x with
        | .s l o n k c => match k with
          | true => none
          | false => bif Nat.beq (hi.getD n) n && Nat.beq (lo.getD 0) n && Nat.blt 0 n && fitS s l o n c && Nat.blt s.n most then fN s.n fun q => some (.s q 0 0 false 0, ⟨s.h, Nat.succ q⟩) else none
        | _ => none
  | _ => none
noncomputable def mmA (P : Program) (s : S) (t : TypeId) (v : Option A) : Option (A × S) := match v with
  | none => newC (.mp [] 0) s fun q s => some (.m q, s)
  | some x => match P.underlying t with
    | some (.map _ _) => match x with
      | .i _ _ => newC (.mp [] 0) s fun q s => some (.m q, s)
      | _ => none
    | _ => none
section
variable {P : Program} {φ : Val} {s : S} {w : World} {a b x y r : A} {t : TypeId} {ρ : Rd}
theorem liesAt_off {e : TypeId} (hc : P.cellsOf e = 1) (count off n : Nat) (h : off + n ≤ count) : liesAt P P.depth e count off e n = true := by
  have hd : P.depth = (2 * (P.types.size + Made.depth) + 1) + 1 := rfl
  rw [hd]
  simp only [liesAt, Bool.or_eq_true]
  left
  rw [hd]
  simp [rowAt, hc, h, sameLayout, Nat.mod_one]
theorem cellsOf_sz {e n : Nat} (h : szB P e = some n) : P.cellsOf e = n := by
  unfold szB at h
  unfold Program.cellsOf
  split at h
  · rename_i i hi; cases h; rw [hi]; rfl
  · cases h
theorem run_usA {pt it ty e : TypeId} (hp : P.underlying pt = some (.pointer e)) (hc : P.cellsOf e = 1) (g o cells : Nat) (hsh : w.shape? g = some (e, cells)) (l : List UInt8) (h0 : l.length ≠ 0) (hn : o + l.length ≤ cells) (h63 : l.length ≤ 9223372036854775807)
    (hcell : ∀ j x, l[j]? = some x → w.cell? ((⟨g, o, none⟩ : Addr).add j) = some (.int .u8 x.toNat)) (k : IntKind) :
    (Builtin.unsafeString_ #[pt, it] ty #[.pointer (some ⟨g, o, none⟩), .int k l.length]).run P w = .ok (.string ⟨l.toArray⟩) (w.freeze ⟨g, o, none⟩ l.length) := by
  have hlb := Lib.run_loadBytes (P := P) w l ⟨g, o, none⟩ .empty hcell
  have hlies := liesAt_off (P := P) hc (cells / P.cellsOf e) o l.length (by rw [hc]; simpa using hn)
  have h63' : ¬ (9223372036854775807 : Int) < (l.length : Int) := by omega
  have hdef : Builtin.unsafeString_ #[pt, it] ty #[.pointer (some ⟨g, o, none⟩), .int k l.length] =
      (do
        let n ← asInt (.int k l.length)
        if n < 0 then runtimePanic (.error "unsafe.String: len out of range")
        if n > IntKind.i64.max then unsupported (.unsafePointer "String: a length above the largest int")
        if n = 0 then pure (.string .empty)
        else if ← variablesAt ⟨g, o, none⟩ (← elemOf pt) n.toNat then do
          let s ← loadBytes ⟨g, o, none⟩ .empty n.toNat
          freeze ⟨g, o, none⟩ n.toNat
          pure (.string s)
        else unsupported (.unsafePointer "String: not so many bytes at ptr")) := rfl
  rw [hdef]
  have hmax : IntKind.i64.max = 9223372036854775807 := rfl
  have hneg : ¬ (l.length : Int) < 0 := by omega
  simp [asInt, asIntOf, hmax, h63', hneg, h0, variablesAt, hsh, elemOf, run_underlying hp, hlies, hlb]
theorem usA_run {pt it ty : TypeId} {s' : S} (h : usA P s pt x y = some (r, s')) (R : Rel φ s w) (hx : below s.n x) :
    ∃ φ' w', Stp φ s w φ' s' w' ∧ below s'.n r ∧ (Builtin.unsafeString_ #[pt, it] ty #[den φ x, den φ y]).run P w = .ok (den φ' r) w' := by
  unfold usA at h
  split at h
  · cases h
  · rename_i n hn
    obtain ⟨k, rfl⟩ := natA_den hn
    split at h
    · have hz : ∀ q, (Builtin.unsafeString_ #[pt, it] ty #[.pointer q, .int k 0]).run P w = .ok (.string .empty) w := fun q => by
        have := Lib.run_unsafeString_none (P := P) w pt it ty q
        cases q <;> exact this
      have he : den φ (.str []) = .string .empty := rfl
      split at h
      · cases h; exact ⟨φ, w, R.refl, trivial, by rw [he]; exact hz _⟩
      · cases h; exact ⟨φ, w, R.refl, trivial, by rw [he]; exact hz _⟩
      · cases h
    · rename_i n
      split at h
      · rename_i l o
        split at h
        · rename_i e hp
          split at h
          · rename_i hs
            split at h
            · rename_i T ro g cs hob
              have h' := bif_some' h
              clear h
              obtain ⟨hc, h⟩ := h'
              simp only [Bool.and_eq_true, Nat.beq_eq, Nat.ble_eq] at hc
              obtain ⟨rfl, hle⟩ := hc
              split at h
              · rename_i q hq
                split at h
                · rename_i z hz
                  have h' := bif_some' h
                  clear h
                  obtain ⟨hbz0, h⟩ := h'
                  rw [Bool.and_eq_true] at hbz0
                  obtain ⟨hbz, hfz⟩ := hbz0
                  rw [putC_eq] at h
                  simp only [Option.some.injEq, Prod.mk.injEq] at h
                  obtain ⟨rfl, rfl⟩ := h
                  have hok := R.has hx hob
                  obtain ⟨N, hN, hN2, _⟩ := shape_of hok
                  obtain ⟨h1, h2⟩ := tk_spec _ _ _ hq
                  rw [dp_eq] at h1 h2
                  simp only [List.length_drop] at h1
                  have hql : q.length = n + 1 := by rw [h2, List.length_take, List.length_drop]; omega
                  have hbs := bysA_spec φ q z hz
                  have hzl : z.length = n + 1 := by
                    have := congrArg List.length hbs
                    simpa [denL_length, hql] using this.symm
                  have hS := R.frz hx hob hfz ((φ l).base + o) (n + 1)
                  refine ⟨φ, _, hS, trivial, ?_⟩
                  have hrun := run_usA (P := P) (w := w) (pt := pt) (it := it) (ty := ty) hp (cellsOf_sz hs) (φ l).blk ((φ l).base + o) N hN (z.map UInt8.ofNat) (by simp [hzl]) (by simp [hzl]; omega) (by simp [hzl]; omega) (fun j u hj => by
                    rw [Addr.add_mid, Nat.add_assoc]
                    simp only [List.getElem?_map] at hj
                    cases hzj : z[j]? with
                    | none => rw [hzj] at hj; cases hj
                    | some b =>
                      rw [hzj] at hj; cases hj
                      have hb256 := byt_spec hbz b (List.mem_of_getElem? hzj)
                      have hd : (denL φ q)[j]? = some (.int .u8 (b : Int)) := by rw [hbs]; simp [hzj]
                      rw [denL_map, List.getElem?_map] at hd
                      cases hqj : q[j]? with
                      | none => rw [hqj] at hd; cases hd
                      | some a =>
                        rw [hqj] at hd
                        simp only [Option.map_some, Option.some.injEq] at hd
                        have hcs : cs[o + j]? = some a := by
                          rw [h2, List.getElem?_take] at hqj
                          split at hqj
                          · rwa [List.getElem?_drop] at hqj
                          · cases hqj
                        rw [okO_cell hok hcs, hd]
                        congr 2
                        rw [UInt8.toNat_ofNat', Nat.mod_eq_of_lt hb256]) k
                  simp only [List.length_map, hzl] at hrun
                  simp only [den]
                  have hn1' : ((n + 1 : Nat) : Int) = ((n.succ : Nat) : Int) := rfl
                  rw [← hn1']
                  exact hrun
                · cases h
              · cases h
            · cases h
          · cases h
        · cases h
      · cases h
/-- A place of no block. -/
theorem Rel.ghost (R : Rel φ s w) (hn : s.n < most) (x : Loc) : Stp φ s w (upd φ s.n x) ⟨s.h, s.n + 1⟩ w := by
  have hag : ∀ l, l < s.n → upd φ s.n x l = φ l := fun l hl => upd_lt φ x hl
  refine ⟨⟨hn, fun p o hp => ?_, fun p o hp => ?_, fun p q o o' hp hq he => ?_⟩, ⟨hag, Nat.le_succ _, rfl, rfl, rfl, Nat.le_refl _, fun p T cs hp => ⟨hp, hag _ (R.lt p _ hp).1, rfl⟩, fun b _ hd => ⟨rfl, fun p o hp => ?_⟩⟩⟩
  · obtain ⟨hl, hb⟩ := R.lt p o hp
    exact okO_congr hag hl hb rfl (R.ok p o hp)
  · obtain ⟨hl, hb⟩ := R.lt p o hp
    exact ⟨Nat.lt_succ_of_lt hl, O.bl_mono (Nat.le_succ _) hb⟩
  · rw [hag _ (R.lt p o hp).1, hag _ (R.lt q o' hq).1] at he
    exact R.inj p q o o' hp hq he
  · rw [hag _ (R.lt p o hp).1]; exact hd p o hp
theorem ghA_run {lo hi mx : Option Nat} {lv hv mv : Option Value} {s' : S} (h : ghA P s t x lo hi mx = some (r, s')) (R : Rel φ s w) (hx : below s.n x) (h1 : isB lv lo) (h2 : isB hv hi) (h3 : isB mv mx) :
    ∃ φ' w', Stp φ s w φ' s' w' ∧ below s'.n r ∧ (Instr.sliceAt t (den φ x) lv hv mv).run P w = .ok (den φ' r) w' := by
  unfold ghA at h
  split at h
  · rename_i e hu
    split at h
    · cases h
    · rename_i sz hs
      split at h
      · cases h
      · cases mv with
        | some mv => simp [isB] at h3
        | none =>
        split at h
        · rename_i l o n k c
          split at h
          · cases h
          · have h' := bif_some' h
            clear h
            obtain ⟨hc, h⟩ := h'
            rw [fN_eq] at h
            simp only [Option.some.injEq, Prod.mk.injEq] at h
            obtain ⟨rfl, rfl⟩ := h
            simp only [Bool.and_eq_true, Nat.beq_eq] at hc
            obtain ⟨⟨⟨⟨hh, hl⟩, hn0⟩, hfit⟩, hmost⟩ := hc
            have hn : s.n < most := by simpa [Nat.blt_eq] using hmost
            have hf := fitS_spec R hx hfit
            have hcap : hiOk hi ((φ l).cap - c) := by
              cases hi with
              | none => trivial
              | some v => simp only [Option.getD_some] at hh; simp only [hiOk]; omega
            have hr := run_slice_slice (w := w) (b := (φ l).blk) (o := (φ l).base + o) hu hs (run_bounds2 (P := P) (w := w) (isS := true) (len := n) (cap := (φ l).cap - c) h1 h2 hcap (by rw [hh, hl]; exact Nat.le_refl _))
            let X : Loc := if (φ l).cap - c = n then ⟨(φ l).blk, (φ l).base + o, (φ l).cap - c - n⟩ else ⟨(φ l).blk, (φ l).base + o + n * sz, (φ l).cap - c - n⟩
            refine ⟨upd φ s.n X, w, R.ghost hn X, Nat.lt_succ_self _, ?_⟩
            simp only [den, capD]
            rw [hr]
            simp only [hh, hl, upd_self, X, Nat.add_zero, Nat.sub_zero, Nat.sub_self]
            split <;> rfl
        · cases h
  · cases h
theorem mmA_run {v : Option A} {s' : S} (h : mmA P s t v = some (r, s')) (R : Rel φ s w) :
    ∃ φ' w', Stp φ s w φ' s' w' ∧ below s'.n r ∧ (Instr.makeMap t (v.map (den φ))).run P w = .ok (den φ' r) w' := by
  unfold mmA at h
  split at h
  · obtain ⟨hn, h⟩ := newC_eq h
    cases h
    refine ⟨_, _, R.allocMap hn, Nat.lt_succ_self _, ?_⟩
    simp [Instr.makeMap, newObj, Sem.run, den, upd_self]
  · rename_i x
    split at h
    · rename_i hu
      split at h
      · obtain ⟨hn, h⟩ := newC_eq h
        cases h
        refine ⟨_, _, R.allocMap hn, Nat.lt_succ_self _, ?_⟩
        simp [Instr.makeMap, newObj, Sem.run, den, upd_self, run_underlying hu, asInt, asIntOf]
      · cases h
    · cases h
end
end Go.V
namespace Go.V
open Go

/-- Operations that change nothing. -/
noncomputable def rd2 (P : Program) (s : S) (ρ : Rd) (o : Oper) : Option A := match rdO P s ρ o with
  | some r => some r
  | none => match o.op with
    | .build t ps => bldA P t (mpP ρ ps.toList)
    | _ => none
noncomputable def bchA (P : Program) (s : S) (b : Builtin) (ts : List TypeId) (xs : List A) : Option (A × S) := match ts with
  | [t, t2] => match xs with
    | [x, y] => match b with
      | .append => appA P s t t2 x y
      | .copy => cpyA P s t x y
      | .unsafeString => usA P s t x y
      | _ => none
    | _ => none
  | _ => none
/-- Operations that change what lies in memory. -/
noncomputable def chO (P : Program) (s : S) (ρ : Rd) (o : Oper) : Option (A × S) := match o.op with
  | .alloc t => alcA P s t
  | .box t x => boxA s t (ρ x)
  | .store t x y => stoA P s t (ρ x) (ρ y)
  | .buildSlice t n ps => bslA P s t n (mpP ρ ps.toList)
  | .makeSlice t l c => mslA P s t (ρ l) (ρ c)
  | .makeMap t v => mmA P s t (v.map ρ)
  | .convert src dst x => s2bA P s src dst (ρ x)
  | .slice t x lo hi mx => match optN ρ lo with
    | some lo => match optN ρ hi with
      | some hi => match optN ρ mx with
        | some mx => ghA P s t (ρ x) lo hi mx
        | none => none
      | none => none
    | none => none
  | .call c => match c.callee with
    | .builtin b => mpK ρ c.args.toList fun xs => bchA P s b c.argTypes.toList xs
    | _ => none
  | _ => none

section
variable {P : Program} {φ : Val} {s : S} {w : World} {a b x y r : A} {t : TypeId} {ρ : Rd}
theorem rd2_run {o : Oper} (h : rd2 P s ρ o = some r) (R : Rel φ s w) (hρ : ∀ x, below s.n (ρ x)) :
    (execOp (fun x => den φ (ρ x)) o).run P w = .ok (.value (den φ r)) w ∧ below s.n r := by
  unfold rd2 at h
  split at h
  · rename_i q hq
    cases h; exact rdO_run hq R hρ
  · obtain ⟨dst, op, ty, pos, af, gu⟩ := o
    split at h
    · rename_i t ps ho
      simp only at ho; subst ho
      obtain ⟨h1, h2⟩ := bldA_run h φ w
      refine ⟨?_, h2 _ (fun p hp => by rw [mpP_eq] at hp; obtain ⟨q, _, rfl⟩ := List.mem_map.1 hp; exact hρ _)⟩
      have hps : ps.map (fun (i, x) => (i, den φ (ρ x))) = ((mpP ρ ps.toList).map fun x => (x.1, den φ x.2)).toArray := by
        apply Array.ext'; simp [mpP_eq, Function.comp_def]
      have he : execOp (fun x => den φ (ρ x)) ⟨dst, .build t ps, ty, pos, af, gu⟩ = (do pure (.value (← Instr.build t (ps.map fun (i, x) => (i, den φ (ρ x)))))) := rfl
      rw [he, hps]
      simp [h1]
    · cases h
theorem chO_run {o : Oper} {s' : S} (h : chO P s ρ o = some (r, s')) (R : Rel φ s w) (hρ : ∀ x, below s.n (ρ x)) :
    ∃ φ' w', Stp φ s w φ' s' w' ∧ below s'.n r ∧ Got ((execOp (fun x => den φ (ρ x)) o).run P w) (den φ' r) w' := by
  obtain ⟨dst, op, ty, pos, af, gu⟩ := o
  unfold chO at h
  cases op <;> simp only at h
  case alloc t =>
    obtain ⟨φ', w', h1, h2, h3⟩ := alcA_run h R
    exact ⟨φ', w', h1, h2, .inl (by simp [execOp, h3])⟩
  case box t x =>
    obtain ⟨φ', w', h1, h2, h3⟩ := boxA_run (P := P) h R (hρ _)
    refine ⟨φ', w', h1, h2, .inl ?_⟩
    have he : execOp (fun x => den φ (ρ x)) ⟨dst, .box t x, ty, pos, af, gu⟩ = (do pure (.value (← Instr.box t (den φ (ρ x))))) := rfl
    rw [he]; simp [h3]
  case store t x y =>
    obtain ⟨w', h1, h2, rfl⟩ := stoA_run (P := P) h R (hρ _) (hρ _)
    exact ⟨φ, w', h2, trivial, .inr ⟨by simp [execOp, h1], rfl⟩⟩
  case buildSlice t n ps =>
    obtain ⟨φ', w', h1, h2, h3⟩ := bslA_run h R (fun p hp => by rw [mpP_eq] at hp; obtain ⟨q, _, rfl⟩ := List.mem_map.1 hp; exact hρ _)
    refine ⟨φ', w', h1, h2, .inl ?_⟩
    have hps : ps.map (fun (i, x) => (i, den φ (ρ x))) = ((mpP ρ ps.toList).map fun x => (x.1, den φ x.2)).toArray := by
      apply Array.ext'; simp [mpP_eq, Function.comp_def]
    have he : execOp (fun x => den φ (ρ x)) ⟨dst, .buildSlice t n ps, ty, pos, af, gu⟩ = (do pure (.value (← Instr.buildSlice t n (ps.map fun (i, x) => (i, den φ (ρ x)))))) := rfl
    rw [he, hps]; simp [h3]
  case makeSlice t l c =>
    obtain ⟨φ', w', h1, h2, h3⟩ := mslA_run h R
    exact ⟨φ', w', h1, h2, .inl (by simp [execOp, h3])⟩
  case makeMap t v =>
    obtain ⟨φ', w', h1, h2, h3⟩ := mmA_run h R
    refine ⟨φ', w', h1, h2, .inl ?_⟩
    have he : execOp (fun x => den φ (ρ x)) ⟨dst, .makeMap t v, ty, pos, af, gu⟩ = (do pure (.value (← Instr.makeMap t (v.map fun x => den φ (ρ x))))) := rfl
    rw [he]
    have hv : (v.map fun x => den φ (ρ x)) = (v.map ρ).map (den φ) := by cases v <;> rfl
    rw [hv, Sem.run_bind, h3]; rfl
  case convert src dst x =>
    obtain ⟨φ', w', h1, h2, h3⟩ := s2bA_run h R (hρ _)
    exact ⟨φ', w', h1, h2, .inl (by simp [execOp, h3])⟩
  case slice t x lo hi mx =>
    split at h
    · rename_i lo' hlo
      split at h
      · rename_i hi' hhi
        split at h
        · rename_i mx' hmx
          obtain ⟨φ', w', h1, h2, h3⟩ := ghA_run h R (hρ _) (optN_isB hlo φ) (optN_isB hhi φ) (optN_isB hmx φ)
          exact ⟨φ', w', h1, h2, .inl (by simp [execOp, h3])⟩
        · cases h
      · cases h
    · cases h
  case call c =>
    obtain ⟨cal, args, ats⟩ := c
    split at h
    · rename_i bi hc
      simp only at hc; subst hc
      rw [mpK_eq, ← mpA_eq] at h
      unfold bchA at h
      split at h
      · rename_i t t2 hts
        split at h
        · rename_i x y hxy
          simp only at hts hxy
          have hats : ats = #[t, t2] := by cases ats; simp_all
          subst hats
          have hargs : args.map (fun x => den φ (ρ x)) = #[den φ x, den φ y] := by
            apply Array.ext'
            have : (mpA ρ args.toList).map (den φ) = [den φ x, den φ y] := by rw [hxy]; rfl
            rw [← this, mpA_eq]; simp
          have hbx : below s.n x ∧ below s.n y := by
            have : ∀ z ∈ mpA ρ args.toList, below s.n z := fun z hz => by rw [mpA_eq] at hz; obtain ⟨q, _, rfl⟩ := List.mem_map.1 hz; exact hρ _
            rw [hxy] at this
            exact ⟨this x (by simp), this y (by simp)⟩
          have he : ∀ bi, execOp (fun x => den φ (ρ x)) ⟨dst, .call ⟨.builtin bi, args, #[t, t2]⟩, ty, pos, af, gu⟩ = builtin bi #[t, t2] ty (args.map fun | .const _ => true | _ => false) (args.map (fun x => den φ (ρ x))) := fun _ => rfl
          split at h
          · obtain ⟨φ', w', h1, h2, h3⟩ := appA_run (ty := ty) h R hbx.1 hbx.2
            refine ⟨φ', w', h1, h2, .inl ?_⟩
            rw [he, hargs]; simp [builtin, h3]
          · obtain ⟨φ', w', h1, h2, h3⟩ := cpyA_run (t2 := t2) (ty := ty) h R hbx.1 hbx.2
            refine ⟨φ', w', h1, h2, .inl ?_⟩
            rw [he, hargs]; simp [builtin, h3]
          · obtain ⟨φ', w', h1, h2, h3⟩ := usA_run (it := t2) (ty := ty) h R hbx.1
            refine ⟨φ', w', h1, h2, .inl ?_⟩
            rw [he, hargs]; simp [builtin, h3]
          · cases h
        · cases h
      · cases h
    · cases h
  all_goals cases h
end
end Go.V
namespace Go.V
open Go

section
variable {P : Program} {ops : Array Oper} {Q : Exit → Act → World → Prop} {md : Region.Mode}

/-- Number j waits for number i. -/
def beh (md : Region.Mode) (ops : Array Oper) (i j : Nat) : Bool := (ops[j]?).any fun o => o.after.any fun e => Region.binds md e && Nat.beq e.on i
abbrev Obl := List (Nat × (World → Prop))

/-- Whatever the order; each early reading still holds behind what does not wait for it. -/
def wpI (P : Program) (md : Region.Mode) (ops : Array Oper) (Q : Exit → Act → World → Prop) : Nat → Obl → Array Bool → Act → World → Prop
  | 0, _, ls, a, w => Region.ready md ops ls = [] ∧ Q .normal a w
  | n + 1, Ob, ls, a, w => (Region.ready md ops ls = [] → Q .normal a w) ∧
    ∀ j ∈ Region.ready md ops ls, wpOp P ops Q j (fun b u => (∀ x ∈ Ob, beh md ops x.1 j = true ∨ x.2 u) ∧ wpI P md ops Q n (Ob.filter fun x => !beh md ops x.1 j) (ls.setIfInBounds j true) b u) a w

theorem wpI.any : ∀ {n : Nat} {Ob : Obl} {ls : Array Bool} {a : Act} {w : World}, wpI P md ops Q n Ob ls a w → wpAny P md ops Q n ls a w
  | 0, _, _, _, _, h => h
  | _ + 1, _, _, _, _, ⟨h0, h1⟩ => ⟨h0, fun j hj => wpOp_mono (fun _ _ hh => hh.2.any) (h1 j hj)⟩
theorem wpI.weak : ∀ {n : Nat} {Ob Ob' : Obl} {ls : Array Bool} {a : Act} {w : World}, (∀ x ∈ Ob', x ∈ Ob) → wpI P md ops Q n Ob ls a w → wpI P md ops Q n Ob' ls a w
  | 0, _, _, _, _, _, _, h => h
  | n + 1, Ob, Ob', ls, a, w, hs, ⟨h0, h1⟩ => ⟨h0, fun j hj => wpOp_mono (fun _ _ hh => ⟨fun x hx => hh.1 x (hs x hx), hh.2.weak fun x hx => by
      rw [List.mem_filter] at hx ⊢; exact ⟨hs x hx.1, hx.2⟩⟩) (h1 j hj)⟩
theorem wpI.done {n : Nat} {Ob : Obl} {ls : Array Bool} {a : Act} {w : World} (hr : Region.ready md ops ls = []) (h : Q .normal a w) : wpI P md ops Q n Ob ls a w := by
  cases n with
  | zero => exact ⟨hr, h⟩
  | succ n => exact ⟨fun _ => h, fun j hj => by rw [hr] at hj; cases hj⟩
theorem not_beh {i j : Nat} {ls : Array Bool} (h : i ∈ Region.ready md ops ls) (hj : j ∈ Region.ready md ops ls) : beh md ops i j = false := by
  cases hb : beh md ops i j with
  | false => rfl
  | true =>
    exfalso
    obtain ⟨_, x, hx, hall⟩ := mem_ready.1 hj
    unfold beh at hb
    rw [hx, Option.any_some, Array.any_eq_true'] at hb
    obtain ⟨e, he, h2⟩ := hb
    rw [Bool.and_eq_true] at h2
    have h3 := hall e he h2.1
    rw [Nat.eq_of_beq_eq_true h2.2] at h3
    have h0 := (mem_ready.1 h).1
    rcases Nat.lt_or_ge i ls.size with hl | hl
    · simp [hl] at h0 h3; rw [h0] at h3; cases h3
    · simp [Array.getElem?_eq_none hl] at h3

/-- A reading may be taken first. -/
theorem wpI.first {i : Nat} {o : Oper} {v : Value} {S : World → Prop} (ho : ops[i]? = some o) (hns : ∀ (j : Nat) (o : Oper) cs b, ops[j]? = some o → o.op ≠ .select cs b)
    (hQ : ∀ c a w, Q (.panic c) (a.put o.dst v) w → Q (.panic c) a w) : ∀ {n : Nat} {Ob : Obl} {ls : Array Bool} {a : Act} {w : World},
    (∀ j x, ops[j]? = some x → j ≠ i → ls.getD j true = false → (∀ e ∈ x.after, Region.binds md e = true → e.on ≠ i) → o.apart ops x = true) →
    i ∈ Region.ready md ops ls → YieldsIf P ops S o v a → S w → (∀ x ∈ Ob, x.2 w) → wpI P md ops Q n ((i, S) :: Ob) (ls.setIfInBounds i true) (a.put o.dst v) w → wpI P md ops Q (n + 1) Ob ls a w := by
  have base : ∀ {n : Nat} {Ob : Obl} {ls : Array Bool} {a : Act} {w : World}, YieldsIf P ops S o v a → S w → (∀ x ∈ Ob, x.2 w) → wpI P md ops Q n ((i, S) :: Ob) (ls.setIfInBounds i true) (a.put o.dst v) w →
      wpOp P ops Q i (fun b u => (∀ x ∈ Ob, beh md ops x.1 i = true ∨ x.2 u) ∧ wpI P md ops Q n (Ob.filter fun x => !beh md ops x.1 i) (ls.setIfInBounds i true) b u) a w := fun hy hS hOb hh =>
    hy.wpOp ho hS ⟨fun x hx => .inr (hOb x hx), hh.weak fun x hx => List.mem_cons_of_mem _ ((List.mem_filter.1 hx).1)⟩
  intro n
  induction n with
  | zero => exact fun _ hr hy hS hOb hh => ⟨fun h0 => (by rw [h0] at hr; cases hr), fun j hj => by
      rcases Nat.decEq j i with hji | rfl
      · have := ready_mono hj hji
        rw [hh.1] at this
        cases this
      · exact base hy hS hOb hh⟩
  | succ n ih =>
    refine fun {Ob ls a w} hfree hr hy hS hOb hh => ⟨fun h0 => (by rw [h0] at hr; cases hr), fun j hj => ?_⟩
    rcases Nat.decEq j i with hji | rfl
    case isTrue => exact base hy hS hOb hh
    obtain ⟨hu, x, hx, hall⟩ := mem_ready.1 hj
    have hni : ∀ e ∈ x.after, Region.binds md e = true → e.on ≠ i := fun e he hb hei => by
      have h1 := hall e he hb
      rw [hei] at h1
      have h0 := (mem_ready.1 hr).1
      rcases Nat.lt_or_ge i ls.size with hl | hl
      · simp [hl] at h0 h1; rw [h0] at h1; cases h1
      · simp [Array.getElem?_eq_none hl] at h1
    have hri := ready_mono hr (Ne.symm hji)
    have hnb := not_beh (md := md) (ops := ops) hr hj
    refine wpOp_mono (fun b u ⟨hyb, hg, hk⟩ => ?_) (wpOp_putIf hx (hfree j x hx hji (G.unlisted hj) hni) (fun cs b => hns i o cs b ho) (fun cs b => hns j x cs b hx) hQ hy (hh.2 j (ready_mono hj hji)))
    rw [Array.setIfInBounds_comm _ _ (Ne.symm hji)] at hk
    have hSu : S u := (hg (i, S) (List.mem_cons_self ..)).resolve_left (by simp [hnb])
    have hfl : (((i, S) :: Ob).filter fun x => !beh md ops x.1 j) = (i, S) :: (Ob.filter fun x => !beh md ops x.1 j) := by simp [List.filter_cons, hnb]
    rw [hfl] at hk
    refine ⟨fun y hy => hg y (List.mem_cons_of_mem _ hy), ih (fun y z hz hyi hun hno => hfree y z hz hyi ?_ hno) hri hyb hSu (fun y hy => ?_) hk⟩
    · rcases Nat.decEq j y with hjy | rfl
      · rwa [getD_set_ne true hjy] at hun
      · exact G.unlisted hj
    · rw [List.mem_filter] at hy
      exact (hg y (List.mem_cons_of_mem _ hy.1)).resolve_left (by simpa using hy.2)
theorem wpI.take {i : Nat} {o : Oper} {v : Value} {S : World → Prop} {n : Nat} {Ob : Obl} {ls : Array Bool} {a : Act} {w : World} (ho : ops[i]? = some o) (hs : Region.noSelect ops = true) (hf : Region.free md ops ls i = true)
    (hr : i ∈ Region.ready md ops ls) (hQ : ∀ c a w, Q (.panic c) (a.put o.dst v) w → Q (.panic c) a w) (hy : YieldsIf P ops S o v a) (hS : S w) (hOb : ∀ x ∈ Ob, x.2 w)
    (h : wpI P md ops Q n ((i, S) :: Ob) (ls.setIfInBounds i true) (a.put o.dst v) w) : wpI P md ops Q (n + 1) Ob ls a w :=
  wpI.first ho (Region.noSelect_spec hs) hQ (Region.free_spec ho hf) hr hy hS hOb h
theorem wpI.one {i : Nat} {n : Nat} {Ob : Obl} {ls : Array Bool} {a : Act} {w : World} (hr : Region.ready md ops ls = [i])
    (h : wpOp P ops Q i (fun b u => (∀ x ∈ Ob, beh md ops x.1 i = true ∨ x.2 u) ∧ wpI P md ops Q n (Ob.filter fun x => !beh md ops x.1 i) (ls.setIfInBounds i true) b u) a w) : wpI P md ops Q (n + 1) Ob ls a w :=
  ⟨fun h0 => (by rw [h0] at hr; cases hr), fun j hj => by rw [hr] at hj; simp at hj; subst hj; exact h⟩
end
end Go.V
