/-
  Each operation of a body is shown to do what the evaluator says, first part.
-/
import Derived.Test.YtjlojjkfdidkiaaV2
import Derived.Laws.StructEq
import Derived.Laws.Entries
import Derived.Laws.Strings
import Derived.Laws.Small
import Derived.Laws.Cover3
import Derived.Lib.Strings
set_option linter.unusedSimpArgs false
set_option linter.unusedVariables false
namespace Go.Vee
open Go

/-! ## What the program says of types -/
def zeroCs : Ty → List Value
  | .int k => [.int k 0]
  | .bool => [.bool false]
  | .str => [.string .empty]
  | .sl _ => [.slice none 0 0]
  | .unit => []
  | .pair a b => zeroCs a ++ zeroCs b

theorem zeroCs_length : ∀ t : Ty, (zeroCs t).length = t.sz
  | .int _ | .bool | .str | .sl _ | .unit => rfl
  | .pair a b => by simp [zeroCs, Ty.sz, zeroCs_length a, zeroCs_length b]

def TyB (P : Program) (tid : TypeId) (t : Ty) : Prop := (P.info? tid).map (fun i => (i.size, i.zero)) = some (t.sz, some (mkV t (zeroCs t))) ∧ ((P.info? tid).map (·.bytes)).getD 0 ≤ t.bnd

def TyF (P : Program) : Ty → (TypeId → Prop) × (List Field → Nat → Prop)
  | .int k => (fun tid => TyB P tid (.int k) ∧ P.underlying tid = some (.int k), fun _ _ => False)
  | .bool => (fun tid => TyB P tid .bool ∧ P.underlying tid = some .bool, fun _ _ => False)
  | .str => (fun tid => TyB P tid .str ∧ P.underlying tid = some .string, fun _ _ => False)
  | .sl e => (fun tid => TyB P tid (.sl e) ∧ 0 < e.sz ∧ ∃ eid, P.underlying tid = some (.slice eid) ∧ (TyF P e).1 eid, fun _ _ => False)
  | .unit => (fun tid => TyB P tid .unit ∧ ∃ fs, P.underlying tid = some (.struct fs) ∧ fs.toList = [], fun fs _ => fs = [])
  | .pair a b =>
    let F := fun (fs : List Field) (off : Nat) => ∃ f rest, fs = f :: rest ∧ f.offset = off ∧ 0 < a.sz ∧ (TyF P a).1 f.type ∧ (TyF P b).2 rest (off + a.sz)
    (fun tid => TyB P tid (.pair a b) ∧ ∃ fs, P.underlying tid = some (.struct fs) ∧ F fs.toList 0, F)

theorem TyF.base {P : Program} {t : Ty} {tid : TypeId} (h : (TyF P t).1 tid) : TyB P tid t := by cases t <;> exact h.1

/-- A struct type whose values are compared field by field. -/
def EqOk (P : Program) (tid : TypeId) : Prop := P.stoodInHeld tid = false ∧ P.eqGuardType P.depth tid = false ∧ ∀ f ∈ (P.fieldsOf tid).toList, f.name ≠ "_"
structure EnvOk (P : Program) (τ : Env) : Prop where
  ty : ∀ tid t, τ.ty tid = some t → (TyF P t).1 tid
  eq : ∀ tid, τ.eq tid = true → EqOk P tid

theorem TyB.info {P : Program} {t : Ty} {tid : TypeId} (h : TyB P tid t) : ∃ i, P.info? tid = some i ∧ i.size = t.sz ∧ i.zero = some (mkV t (zeroCs t)) ∧ i.bytes ≤ t.bnd := by
  obtain ⟨h1, h2⟩ := h
  cases hi : P.info? tid with
  | none => simp [hi] at h1
  | some i =>
    simp only [hi, Option.map_some, Option.some.injEq, Prod.mk.injEq, Option.getD_some] at h1 h2
    exact ⟨i, rfl, h1.1, h1.2, h2⟩

theorem run_sizeOf {P : Program} {t : Ty} {tid : TypeId} (h : TyB P tid t) (w : World) : (sizeOf tid).run P w = .ok t.sz w := by
  obtain ⟨i, hi, h1, _⟩ := h.info
  simp [sizeOf, typeInfo, hi, h1]

theorem run_zeroValue {P : Program} {t : Ty} {tid : TypeId} (h : TyB P tid t) (w : World) : (zeroValue tid).run P w = .ok (mkV t (zeroCs t)) w := by
  obtain ⟨i, hi, _, h1, _⟩ := h.info
  simp [zeroValue, typeInfo, hi, h1]

theorem run_isAgg {P : Program} {t : Ty} {tid : TypeId} (h : (TyF P t).1 tid) (w : World) : (isAgg tid).run P w = .ok t.isAgg w := by
  cases t with
  | int k => simp [isAgg, run_underlying h.2, Ty.isAgg]
  | bool => simp [isAgg, run_underlying h.2, Ty.isAgg]
  | str => simp [isAgg, run_underlying h.2, Ty.isAgg]
  | sl e => obtain ⟨_, _, eid, hu, _⟩ := h; simp [isAgg, run_underlying hu, Ty.isAgg]
  | unit => obtain ⟨_, fs, hu, _⟩ := h; simp [isAgg, run_underlying hu, Ty.isAgg]
  | pair a b => obtain ⟨_, fs, hu, _⟩ := h; simp [isAgg, run_underlying hu, Ty.isAgg]

theorem isAgg_sz {t : Ty} (h : t.isAgg = false) : t.sz = 1 := by cases t <;> simp_all [Ty.isAgg, Ty.sz]

theorem mkV_cells {t : Ty} {cs : List Value} (hl : cs.length = t.sz) (h1 : ∀ u ∈ cs, u.oneCell' = true) : (mkV t cs).cells = cs.toArray := by
  unfold mkV
  by_cases h : t.isAgg = true
  · simp [h, Value.cells]
  · have hs := isAgg_sz (by simpa using h)
    match cs, hl with
    | [c], _ =>
      have := h1 c (by simp)
      simp only [h, Bool.false_eq_true, if_false, List.headD_cons]
      cases c <;> simp_all [Value.cells, Value.oneCell']
    | [], hl => simp [hs] at hl
    | _ :: _ :: _, hl => simp [hs] at hl

/-! ## Memory -/
theorem add_lit' (b off j : Nat) : (⟨b, off, none⟩ : Addr).add j = ⟨b, off + j, none⟩ := by unfold Addr.add; split <;> simp_all

theorem run_loadVar' {P : Program} {t : Ty} {tid : TypeId} (h : (TyF P t).1 tid) {w : World} {b off : Nat} {arr : Array Value} {et : TypeId} {fr : Nat × Nat} (hb : w.heap[b]? = some (.cells arr et fr)) (hs : off + t.sz ≤ arr.size) :
    (loadVar tid ⟨b, off, none⟩).run P w = .ok (mkV t (seg arr off t.sz)) w := by
  have hcell : ∀ j v, (seg arr off t.sz)[j]? = some v → w.cell? ((⟨b, off, none⟩ : Addr).add j) = some v := fun j v hj => by
    have hlt : j < t.sz := by have := (List.getElem?_eq_some_iff.1 hj).1; rw [seg_length hs] at this; exact this
    rw [seg_get hlt] at hj
    rw [add_lit']
    simp [World.cell?, hb, hj]
  unfold loadVar mkV
  simp only [Sem.run_bind, run_isAgg h, Result.andThen_ok]
  by_cases ha : t.isAgg = true
  · have := run_loadCells_list (P := P) w ⟨b, off, none⟩ (seg arr off t.sz) hcell
    rw [seg_length hs] at this
    simp [ha, run_sizeOf (TyF.base h), this]
  · have hs1 := isAgg_sz (by simpa using ha)
    have hlen := seg_length hs
    match hseg : seg arr off t.sz, hlen with
    | [c], _ =>
      have := hcell 0 c (by simp [hseg])
      simp only [Addr.add, if_true] at this
      simp [ha, this]
    | [], hl => simp [hs1] at hl
    | _ :: _ :: _, hl => simp [hs1] at hl

theorem run_storeVar' {P : Program} {t : Ty} {tid : TypeId} (h : TyB P tid t) {w : World} {b off : Nat} {arr : Array Value} {et : TypeId} (hb : w.heap[b]? = some (.cells arr et (0, 0))) {v : Value} {us : List Value}
    (hv : v.cells = us.toArray) (hl : us.length = t.sz) (h1 : ∀ u ∈ us, u.oneCell' = true) (hs : off + us.length ≤ arr.size) :
    (storeVar tid ⟨b, off, none⟩ v).run P w = .ok () (w.setRow b (lay arr off us)) := by
  have hst := run_storeCells_at P b off et us 0 arr w hb (by simpa using hs) h1
  simp only [Nat.add_zero] at hst
  simp [storeVar, run_sizeOf h, hv, hl, hst, lay]

end Go.Vee

set_option linter.unusedSimpArgs false
set_option linter.unusedVariables false
namespace Go.Vee
open Go

section
variable {P : Program} {w0 w : World} {F0 : Bnd} {s : St} {a : Act} {I : Nat → Prop} {ρ : Nat → RC} {H : Heap}

/-! ## Values taken apart -/
theorem VR.dat_inv {t : Ty} {x : t.den} {u : Value} (h : VR w I ρ H (.dat t x) u) : ∃ cs, Own w I t .sh cs x [] ∧ u = mkV t cs := by
  cases h with
  | dat _ _ cs h => exact ⟨cs, h, rfl⟩

theorem VR.int_inv {k : IntKind} {n : Int} {u : Value} (h : VR w I ρ H (.dat (.int k) n) u) : u = .int k n ∧ k.min ≤ n ∧ n ≤ k.max := by
  obtain ⟨cs, ⟨rfl, h2, _⟩, rfl⟩ := h.dat_inv
  exact ⟨rfl, h2⟩

theorem VR.bool_inv {b : Bool} {u : Value} (h : VR w I ρ H (.dat .bool b) u) : u = .bool b := by
  obtain ⟨cs, ⟨rfl, _⟩, rfl⟩ := h.dat_inv
  rfl

theorem VR.str_inv {l : List Int} {u : Value} (h : VR w I ρ H (.dat .str l) u) : ∃ b : ByteArray, u = .string b ∧ l = b.data.toList.map (fun b => (b.toNat : Int)) ∧ b.size ≤ 9223372036854775807 := by
  obtain ⟨cs, ⟨⟨b, rfl, h1, h2⟩, _⟩, rfl⟩ := h.dat_inv
  exact ⟨b, rfl, h1, h2⟩

theorem VR.sl_inv {e : Ty} {xs : List e.den} {u : Value} (h : VR w I ρ H (.dat (.sl e) xs) u) : ∃ A c, u = .slice A xs.length c ∧ xs.length ≤ 9223372036854775807 ∧ xs.length ≤ c ∧
    (xs = [] ∨ ∃ (b off : Nat) (arr : Array Value) (et : TypeId) (fr : Nat × Nat), A = some ⟨b, off, none⟩ ∧ w.heap[b]? = some (.cells arr et fr) ∧ I b ∧
        ∀ j (h : j < xs.length), off + (j + 1) * e.sz ≤ arr.size ∧ Own w I e .sh (seg arr (off + j * e.sz) e.sz) (xs[j]'h) []) := by
  obtain ⟨cs, h1, rfl⟩ := h.dat_inv
  obtain ⟨h1, _, A, c, rfl, h3, h2⟩ := h1
  exact ⟨A, c, rfl, h1, h3, h2⟩

theorem VR.int {k : IntKind} {n : Int} (h : k.min ≤ n ∧ n ≤ k.max) : VR w I ρ H (.dat (.int k) n) (.int k n) := VR.dat (.int k) n [.int k n] ⟨rfl, h, rfl⟩
theorem VR.bool {b : Bool} : VR w I ρ H (.dat .bool b) (.bool b) := VR.dat .bool b [.bool b] ⟨rfl, rfl⟩
theorem i64_range {n : Int} (h : -9223372036854775808 ≤ n ∧ n ≤ 9223372036854775807) : IntKind.i64.min ≤ n ∧ n ≤ IntKind.i64.max := by simpa [IntKind.min, IntKind.max, IntKind.signed, IntKind.bits] using h
theorem VR.i64 {n : Int} (h : -9223372036854775808 ≤ n ∧ n ≤ 9223372036854775807) : VR w I ρ H (.dat (.int .i64) n) (.int .i64 n) := VR.int (i64_range h)

theorem VR.asB {v : AV} {u : Value} {b : Bool} (h : VR w I ρ H v u) (hb : Vee.asB v = some b) : u = .bool b := by
  cases h <;> simp [Vee.asB] at hb
  case lb => subst hb; rfl
  case dat t x cs ho =>
    cases t <;> simp at hb
    subst hb
    exact (VR.dat (ρ := ρ) (H := H) _ _ _ ho).bool_inv

theorem VR.intOf {v : AV} {u : Value} {n : Int} (h : VR w I ρ H v u) (hn : Vee.intOf v = some n) : ∃ k, u = .int k n ∧ k.min ≤ n ∧ n ≤ k.max := by
  cases h <;> simp [Vee.intOf] at hn
  case dat t x cs ho =>
    cases t with
    | int k => simp at hn; subst hn; exact ⟨k, (VR.dat (ρ := ρ) (H := H) _ _ _ ho).int_inv⟩
    | _ => simp at hn

/-! ## One step's end -/
def Post (w0 : World) (F0 : Bnd) (K : St → Prop) (a : Act) (w : World) : Prop := ∃ s I ρ, Inv w0 F0 s a w I ρ ∧ K s

variable {o : Oper} {K : St → Prop} {Q : Exit → Act → World → Prop} {C : World → Prop}

/-- The operation yields one value, in every world of the class, and leaves it as it is. -/
def Quiet (P : Program) (o : Oper) (a : Act) (C : World → Prop) (N : Act → Prop) : Prop := ∃ u, (∀ w', C w' → (execOp a.eval o).run P w' = .ok (.value u) w') ∧ N (a.put o.dst u)

theorem wp_val {u : Value} {w' : World} (hr : (execOp a.eval o).run P w = .ok (.value u) w') (hn : Post w0 F0 K (a.put o.dst u) w') : o.wp P a w (Post w0 F0 K) Q := by
  unfold Oper.wp; rw [hr]; exact hn
theorem wp_skip {w' : World} (hr : (execOp a.eval o).run P w = .ok .skip w') (hn : Post w0 F0 K (a.put o.dst undef) w') : o.wp P a w (Post w0 F0 K) Q := by
  unfold Oper.wp; rw [hr]; exact hn

theorem ok_done {v : AV} {u : Value} (h : Inv w0 F0 s a w I ρ) (hr : ∀ w', C w' → (execOp a.eval o).run P w' = .ok (.value u) w') (hv : VR w I ρ s.H v u) (hs : sat (done s o.dst v) (fun _ s' => K s')) :
    Quiet P o a C (fun a' => Post w0 F0 K a' w) := ⟨u, hr, _, I, ρ, h.put hv o.dst, hs⟩

theorem Quiet.wp {N : Act → World → Prop} (h : Quiet P o a (fun w' => w' = w) (fun a' => N a' w)) : o.wp P a w N Q := by
  obtain ⟨u, h1, h2⟩ := h
  unfold Oper.wp; rw [h1 w rfl]; exact h2

theorem ok_move {x : Operand} (h : Inv w0 F0 s a w I ρ) (ho : o.op = .move x ∨ o.op = .assign x) (hs : sat (done s o.dst (Vee.ev Alg.std s x)) (fun _ s' => K s')) : Quiet P o a C (fun a' => Post w0 F0 K a' w) :=
  ok_done h (fun w' _ => by rcases ho with ho | ho <;> simp [execOp, ho]) (h.ev x) hs

theorem ok_pick {c x y : Operand} (h : Inv w0 F0 s a w I ρ) (ho : o.op = .pick c x y) (τ : Env) (G : Gam) (hs : sat (stepOp Alg.std τ G o s) (fun _ s' => K s')) : Quiet P o a C (fun a' => Post w0 F0 K a' w) := by
  have hc := h.ev c
  have hx := h.ev x
  have hy := h.ev y
  simp only [stepOp, ho] at hs
  split at hs
  · rename_i e
    rw [e] at hc
    cases hc' : a.eval c <;> rw [hc'] at hc <;> cases hc
    exact ok_done h (fun w' _ => by simp [execOp, ho, hc', asBool]) hx hs
  · rename_i e
    rw [e] at hc
    cases hc' : a.eval c <;> rw [hc'] at hc <;> cases hc
    exact ok_done h (fun w' _ => by simp [execOp, ho, hc', asBool]) hy hs
  · rename_i b e
    rw [e] at hc
    have hc' := hc.bool_inv
    split at hs
    · rename_i p q hp hq
      have hx' := hx.asB hp
      have hy' := hy.asB hq
      refine ok_done (u := .bool (if b then p else q)) h ?_ VR.bool hs
      intro w' _
      simp only [execOp, ho, hc', asBool, hx', hy', Sem.run_bind, Sem.run_pure, Result.andThen_ok]
      cases b <;> rfl
    · exact hs.elim
  · exact hs.elim

theorem ok_unOp {op : UnOp} {t : TypeId} {x : Operand} (h : Inv w0 F0 s a w I ρ) (ho : o.op = .unOp op t x) (τ : Env) (G : Gam) (hs : sat (stepOp Alg.std τ G o s) (fun _ s' => K s')) : Quiet P o a C (fun a' => Post w0 F0 K a' w) := by
  have hx := h.ev x
  simp only [stepOp, ho] at hs
  split at hs
  · rename_i b e
    rw [e] at hx
    cases hx' : a.eval x <;> rw [hx'] at hx <;> cases hx
    exact ok_done h (fun w' _ => by simp [execOp, ho, hx', Op.unary]) (.lb _) hs
  · rename_i b e
    rw [e] at hx
    have hx' := hx.bool_inv
    exact ok_done h (fun w' _ => by simp [execOp, ho, hx', Op.unary, Alg.std]) VR.bool hs
  · exact hs.elim

theorem ok_nilCheck {x : Operand} (h : Inv w0 F0 s a w I ρ) (ho : o.op = .nilCheck x) (τ : Env) (G : Gam) (hs : sat (stepOp Alg.std τ G o s) (fun _ s' => K s')) : Quiet P o a C (fun a' => Post w0 F0 K a' w) := by
  have hx := h.ev x
  simp only [stepOp, ho] at hs
  split at hs
  · rename_i e
    rw [e] at hx
    refine ok_done h ?_ hx hs
    intro w' _
    cases hx' : a.eval x <;> rw [hx'] at hx <;> cases hx
    simp [execOp, ho, hx']
  · rename_i e
    rw [e] at hx
    refine ok_done h ?_ hx hs
    intro w' _
    cases hx' : a.eval x <;> rw [hx'] at hx <;> cases hx
    simp [execOp, ho, hx']
  · rename_i e
    rw [e] at hx
    refine ok_done h ?_ hx hs
    intro w' _
    cases hx' : a.eval x <;> rw [hx'] at hx <;> cases hx
    simp [execOp, ho, hx']
  · exact hs.elim

end
end Go.Vee

set_option linter.unusedSimpArgs false
set_option linter.unusedVariables false
namespace Go.Vee
open Go

theorem wrap_in {k : IntKind} {n : Int} (h : k.min ≤ n ∧ n ≤ k.max) : k.wrap n = n := by
  cases k <;> simp [IntKind.min, IntKind.max, IntKind.wrap, IntKind.signed, IntKind.bits] at h ⊢ <;> omega

theorem wrap_range {k : IntKind} {n : Int} : k.min ≤ k.wrap n ∧ k.wrap n ≤ k.max := by
  cases k <;> simp [IntKind.min, IntKind.max, IntKind.wrap, IntKind.signed, IntKind.bits] <;> omega

theorem bytesEq (a b : ByteArray) : (a.toList == b.toList) = decide ((a.data.toList.map fun b => (b.toNat : Int)) = b.data.toList.map fun b => (b.toNat : Int)) := by
  have inj : ∀ (l k : List UInt8), (l.map (fun b => (b.toNat : Int)) = k.map fun b => (b.toNat : Int)) → l = k := by
    intro l
    induction l with
    | nil => intro k h; simpa using h.symm
    | cons x l ih =>
      intro k h
      cases k with
      | nil => simp at h
      | cons y k =>
        simp only [List.map_cons, List.cons.injEq] at h
        rw [ih k h.2, UInt8.toNat_inj.1 (by omega : x.toNat = y.toNat)]
  rw [Bool.eq_iff_iff]
  simp only [beq_iff_eq, decide_eq_true_eq]
  constructor
  · intro h
    have : a.data.toList = b.data.toList := by
      have h1 : a.toList = a.data.toList := ByteArray.toList_eq _
      have h2 : b.toList = b.data.toList := ByteArray.toList_eq _
      rw [← h1, ← h2, h]
    rw [this]
  · intro h
    have h1 : a.toList = a.data.toList := ByteArray.toList_eq _
    have h2 : b.toList = b.data.toList := ByteArray.toList_eq _
    rw [h1, h2, inj _ _ h]


section
variable {P : Program} {w0 w : World} {F0 : Bnd} {s : St} {a : Act} {I : Nat → Prop} {ρ : Nat → RC} {H : Heap} {o : Oper} {K : St → Prop} {Q : Exit → Act → World → Prop} {C : World → Prop}

theorem shr_range {k : IntKind} {m : Int} {j : Nat} (hm : k.min ≤ m ∧ m ≤ k.max) : k.min ≤ m.fdiv (2 ^ j) ∧ m.fdiv (2 ^ j) ≤ k.max := by
  have hd : (1 : Int) ≤ 2 ^ j := by
    have : 0 < (2 : Int) ^ j := Int.pow_pos (by omega)
    omega
  generalize (2 : Int) ^ j = d at hd
  have h0 : k.min ≤ 0 ∧ 0 ≤ k.max := by cases k <;> simp [IntKind.min, IntKind.max, IntKind.signed, IntKind.bits]
  rw [Int.fdiv_eq_ediv_of_nonneg m (by omega)]
  rcases Int.lt_or_le m 0 with h | h
  · have h1 : m ≤ m / d := by
      rw [Int.le_ediv_iff_mul_le (by omega)]
      have : m * d ≤ m * 1 := Int.mul_le_mul_of_nonpos_left (by omega) hd
      omega
    have h2 : m / d < 1 := by
      rw [Int.ediv_lt_iff_lt_mul (by omega)]
      omega
    omega
  · have h1 : 0 ≤ m / d := Int.ediv_nonneg h (by omega)
    have h2 : m / d ≤ m := Int.ediv_le_self d h
    omega

/-- What the operation on two numbers gives. -/
theorem ok_binI {op : BinOp} {t : TypeId} {x y : Operand} {yt : TypeId} {k : IntKind} {m n : Int} (h : Inv w0 F0 s a w I ρ) (ho : o.op = .binOp op t x y yt) (hx : a.eval x = .int k m) (hy : a.eval y = .int k n)
    (hm : k.min ≤ m ∧ m ≤ k.max) (hn : k.min ≤ n ∧ n ≤ k.max) (hs : sat (binI Alg.std s o.dst op k m n) (fun _ s' => K s')) : Quiet P o a C (fun a' => Post w0 F0 K a' w) := by
  have hg : ∀ w, (eqGuard op t x y (.int k m) (.int k n)).run P w = .ok () w := fun w => by
    unfold eqGuard; split <;> simp
  have hrun : ∀ v, (∀ w', (binOp op t (.int k m) (.int k n)).run P w' = .ok v w') → ∀ w', C w' → (execOp a.eval o).run P w' = .ok (.value v) w' := fun v hv w' _ => by
    simp only [execOp, ho, hx, hy, Sem.run_bind, hg, Result.andThen_ok, hv, Sem.run_pure]
  cases op with
  | add =>
    simp only [binI] at hs
    split at hs
    · rename_i hk
      subst hk
      have hr := i64_range hs.1
      exact ok_done h (hrun (.int .i64 (m + n)) (fun w' => by simp [binOp, Op.intArith]; exact wrap_in hr)) (VR.int hr) hs.2
    · exact ok_done h (hrun (.int k (k.wrap (m + n))) (fun w' => by simp [binOp, Op.intArith])) (VR.int wrap_range) hs
  | sub =>
    simp only [binI] at hs
    split at hs
    · rename_i hk
      subst hk
      have hr := i64_range hs.1
      exact ok_done h (hrun (.int .i64 (m - n)) (fun w' => by simp [binOp, Op.intArith]; exact wrap_in hr)) (VR.int hr) hs.2
    · exact ok_done h (hrun (.int k (k.wrap (m - n))) (fun w' => by simp [binOp, Op.intArith])) (VR.int wrap_range) hs
  | mul =>
    simp only [binI] at hs
    split at hs
    · rename_i hk
      subst hk
      have hr := i64_range hs.1
      exact ok_done h (hrun (.int .i64 (m * n)) (fun w' => by simp [binOp, Op.intArith]; exact wrap_in hr)) (VR.int hr) hs.2
    · exact ok_done h (hrun (.int k (k.wrap (m * n))) (fun w' => by simp [binOp, Op.intArith])) (VR.int wrap_range) hs
  | quo =>
    obtain ⟨⟨h1, h2⟩, hs⟩ := hs
    have hdm : m.tdiv n = m / n := Int.tdiv_eq_ediv_of_nonneg h1
    have hr : k.min ≤ m / n ∧ m / n ≤ k.max := by
      have h3 : m / n ≤ m := Int.ediv_le_self n h1
      have h4 : 0 ≤ m / n := Int.ediv_nonneg h1 (by omega)
      have h5 : k.min ≤ 0 := by cases k <;> simp [IntKind.min, IntKind.signed, IntKind.bits]
      omega
    refine ok_done h (hrun (.int k (m / n)) ?_) (VR.int hr) hs
    intro w'
    simp only [binOp, Op.intDiv, hdm, wrap_in hr, ne_eq, not_true, if_false]
    rw [if_neg (by omega)]; rfl
  | rem =>
    obtain ⟨⟨h1, h2⟩, hs⟩ := hs
    have hdm : m.tmod n = m % n := Int.tmod_eq_emod_of_nonneg h1
    have hr : k.min ≤ m % n ∧ m % n ≤ k.max := by
      have h3 : m % n ≤ m := by
        have e := Int.mul_ediv_add_emod m n
        have p := Int.mul_nonneg (show 0 ≤ n by omega) (Int.ediv_nonneg h1 (show 0 ≤ n by omega))
        omega
      have h4 : 0 ≤ m % n := Int.emod_nonneg _ (by omega)
      have h5 : k.min ≤ 0 := by cases k <;> simp [IntKind.min, IntKind.signed, IntKind.bits]
      omega
    refine ok_done h (hrun (.int k (m % n)) ?_) (VR.int hr) hs
    intro w'
    simp only [binOp, Op.intDiv, hdm, ne_eq, not_true, if_false]
    rw [if_neg (by omega)]; rfl
  | eql => exact ok_done h (hrun (.bool (decide (m = n))) (fun w' => by simp [binOp, Op.intCmp]; rw [Bool.eq_iff_iff]; simp)) VR.bool hs
  | neq => exact ok_done h (hrun (.bool (!decide (m = n))) (fun w' => by simp [binOp, Op.intCmp]; rw [Bool.eq_iff_iff]; simp)) VR.bool hs
  | lss => exact ok_done h (hrun (.bool (decide (m < n))) (fun w' => by simp [binOp, Op.intCmp])) VR.bool hs
  | leq => exact ok_done h (hrun (.bool (decide (m ≤ n))) (fun w' => by simp [binOp, Op.intCmp])) VR.bool hs
  | gtr => exact ok_done h (hrun (.bool (decide (n < m))) (fun w' => by simp [binOp, Op.intCmp])) VR.bool hs
  | geq => exact ok_done h (hrun (.bool (decide (n ≤ m))) (fun w' => by simp [binOp, Op.intCmp])) VR.bool hs
  | and => exact ok_done h (hrun (.int k (bitStd .and k m n)) (fun w' => by simp [binOp, Op.intBits, bitStd])) (VR.int wrap_range) hs
  | or => exact ok_done h (hrun (.int k (bitStd .or k m n)) (fun w' => by simp [binOp, Op.intBits, bitStd])) (VR.int wrap_range) hs
  | xor => exact ok_done h (hrun (.int k (bitStd .xor k m n)) (fun w' => by simp [binOp, Op.intBits, bitStd])) (VR.int wrap_range) hs
  | shl =>
    obtain ⟨⟨h1, h2⟩, hs⟩ := hs
    refine ok_done h (hrun (.int k (k.wrap (m * 2 ^ (min n.toNat k.bits)))) ?_) (VR.int wrap_range) hs
    intro w'
    simp only [binOp, Op.shift]
    rw [if_neg (by omega)]; rfl
  | shr =>
    obtain ⟨⟨h1, h2⟩, hs⟩ := hs
    refine ok_done h (hrun (.int k (m.fdiv (2 ^ (min n.toNat k.bits)))) ?_) (VR.int (shr_range hm)) hs
    intro w'
    simp only [binOp, Op.shift]
    rw [if_neg (by omega)]; rfl
  | andNot => exact hs.elim

/-- A shift. -/
theorem ok_shOp {op : BinOp} {t : TypeId} {x y : Operand} {yt : TypeId} {k k' : IntKind} {m n : Int} (h : Inv w0 F0 s a w I ρ) (ho : o.op = .binOp op t x y yt) (hx : a.eval x = .int k m) (hy : a.eval y = .int k' n)
    (hm : k.min ≤ m ∧ m ≤ k.max) (hs : sat (shOp Alg.std s o.dst op k m n) (fun _ s' => K s')) : Quiet P o a C (fun a' => Post w0 F0 K a' w) := by
  have hg : ∀ w, (eqGuard op t x y (.int k m) (.int k' n)).run P w = .ok () w := fun w => by
    unfold eqGuard; split <;> simp
  have hrun : ∀ v, (∀ w', (binOp op t (.int k m) (.int k' n)).run P w' = .ok v w') → ∀ w', C w' → (execOp a.eval o).run P w' = .ok (.value v) w' := fun v hv w' _ => by
    simp only [execOp, ho, hx, hy, Sem.run_bind, hg, Result.andThen_ok, hv, Sem.run_pure]
  cases op <;> first | exact hs.elim | skip
  case shl =>
    obtain ⟨⟨h1, h2⟩, hs⟩ := hs
    refine ok_done h (hrun (.int k (k.wrap (m * 2 ^ (min n.toNat k.bits)))) ?_) (VR.int wrap_range) hs
    intro w'
    simp only [binOp, Op.shift]
    rw [if_neg (by omega)]; rfl
  case shr =>
    obtain ⟨⟨h1, h2⟩, hs⟩ := hs
    refine ok_done h (hrun (.int k (m.fdiv (2 ^ (min n.toNat k.bits)))) ?_) (VR.int (shr_range hm)) hs
    intro w'
    simp only [binOp, Op.shift]
    rw [if_neg (by omega)]; rfl

theorem lb_dat {b : Bool} {u : Value} (h : VR w I ρ H (.lb b) u) : u = .bool b := by cases h; rfl

theorem ok_binB {op : BinOp} {t : TypeId} {x y : Operand} {yt : TypeId} {p q : Bool} (hE : P.underlying t = some .bool) (h : Inv w0 F0 s a w I ρ) (ho : o.op = .binOp op t x y yt) (hx : a.eval x = .bool p) (hy : a.eval y = .bool q)
    (hs : sat (binB Alg.std s o.dst op p q) (fun _ s' => K s')) : Quiet P o a C (fun a' => Post w0 F0 K a' w) := by
  have hg : ∀ w, (eqGuard op t x y (.bool p) (.bool q)).run P w = .ok () w := fun w => by
    unfold eqGuard; split <;> simp
  have hrun : ∀ v, (∀ w', (binOp op t (.bool p) (.bool q)).run P w' = .ok v w') → ∀ w', C w' → (execOp a.eval o).run P w' = .ok (.value v) w' := fun v hv w' _ => by
    simp only [execOp, ho, hx, hy, Sem.run_bind, hg, Result.andThen_ok, hv, Sem.run_pure]
  cases op <;> first | exact hs.elim | skip
  case eql => exact ok_done h (hrun (.bool (decide (p = q))) (fun w' => by simp [binOp, run_equal_bool w' t p q hE]; cases p <;> cases q <;> rfl)) VR.bool hs
  case neq => exact ok_done h (hrun (.bool (!decide (p = q))) (fun w' => by simp [binOp, run_equal_bool w' t p q hE]; cases p <;> cases q <;> rfl)) VR.bool hs

theorem ok_binS {op : BinOp} {t : TypeId} {x y : Operand} {yt : TypeId} {p q : ByteArray} (h : Inv w0 F0 s a w I ρ) (ho : o.op = .binOp op t x y yt) (hx : a.eval x = .string p) (hy : a.eval y = .string q)
    (hs : sat (binS Alg.std s o.dst op (p.data.toList.map fun b => (b.toNat : Int)) (q.data.toList.map fun b => (b.toNat : Int))) (fun _ s' => K s')) : Quiet P o a C (fun a' => Post w0 F0 K a' w) := by
  have hg : ∀ w, (eqGuard op t x y (.string p) (.string q)).run P w = .ok () w := fun w => by
    unfold eqGuard; split <;> simp
  have hrun : ∀ v, (∀ w', (binOp op t (.string p) (.string q)).run P w' = .ok v w') → ∀ w', C w' → (execOp a.eval o).run P w' = .ok (.value v) w' := fun v hv w' _ => by
    simp only [execOp, ho, hx, hy, Sem.run_bind, hg, Result.andThen_ok, hv, Sem.run_pure]
  cases op <;> first | exact hs.elim | skip
  case eql => exact ok_done h (hrun (.bool _) (fun w' => by simp only [binOp, Op.stringOp, bytesEq]; rfl)) VR.bool hs
  case neq => exact ok_done h (hrun (.bool _) (fun w' => by simp only [binOp, Op.stringOp, bytesEq]; rfl)) VR.bool hs
  case add =>
    obtain ⟨hr, hs⟩ := hs
    have hsz : p.size + q.size ≤ 140737488355328 := by
      have : (p.data.toList.map fun b => (b.toNat : Int)).length + (q.data.toList.map fun b => (b.toNat : Int)).length ≤ 140737488355328 := by simpa [Alg.std] using hr
      simpa using this
    have hm : IntKind.i64.max = 9223372036854775807 := by decide
    have he : ((p ++ q).data.toList.map fun b => (b.toNat : Int)) = (p.data.toList.map fun b => (b.toNat : Int)) ++ (q.data.toList.map fun b => (b.toNat : Int)) := by simp
    refine ok_done h (hrun (.string (p ++ q)) (fun w' => by simp only [binOp, Op.stringOp]; rw [if_neg (by rw [hm]; omega)]; rfl)) (VR.dat .str _ [.string (p ++ q)] ⟨⟨p ++ q, rfl, he.symm, by rw [ByteArray.size_append]; omega⟩, rfl⟩) hs

/-- A slice against nil. -/
theorem ok_nilOp {op : BinOp} {t eid : TypeId} {x y : Operand} {yt : TypeId} {v v' : AV} (hE : P.underlying t = some (.slice eid)) (h : Inv w0 F0 s a w I ρ) (ho : o.op = .binOp op t x y yt) (hx : VR w I ρ s.H v (a.eval x)) (hy : VR w I ρ s.H v' (a.eval y))
    (hs : sat (nilOp Alg.std s o.dst op v v') (fun _ s' => K s')) : Quiet P o a C (fun a' => Post w0 F0 K a' w) := by
  unfold nilOp at hs
  split at hs
  rotate_left
  · exact hs.elim
  have hyv : a.eval y = .slice none 0 0 := by cases hyy : a.eval y <;> rw [hyy] at hy <;> cases hy; rfl
  have run : ∀ {A : Option Addr} {n c : Nat}, a.eval x = .slice A n c → ∀ {b : Bool}, (op = .eql ∧ b = A.isNone ∨ op = .neq ∧ b = !A.isNone) → ∀ w', C w' → (execOp a.eval o).run P w' = .ok (.value (.bool b)) w' := by
    intro A n c hxv b hb w' _
    have hg : (eqGuard op t x y (.slice A n c) (.slice none 0 0)).run P w' = .ok () w' := by unfold eqGuard; split <;> simp
    rcases hb with ⟨rfl, rfl⟩ | ⟨rfl, rfl⟩ <;>
      simp [execOp, ho, hxv, hyv, hg, binOp, run_equal_slice_nil w' t eid A n c hE]
  have dat : ∀ {e : Ty} {xs : List e.den}, VR w I ρ s.H (.dat (.sl e) xs) (a.eval x) → ∃ A c, a.eval x = .slice A xs.length c ∧ (A.isNone = true → xs.length = 0) := fun hx => by
    obtain ⟨A, c, e1, _, _, e2⟩ := hx.sl_inv
    refine ⟨A, c, e1, fun hA => ?_⟩
    rcases e2 with rfl | ⟨b, off, arr, et, fr, rfl, _⟩
    · rfl
    · simp at hA
  have ref : ∀ {e : Ty} {r ver : Nat} {p : List Stp} {lo n : Nat}, VR w I ρ s.H (.ref e r ver p lo n) (a.eval x) → ∃ A c, a.eval x = .slice A n c := fun hx => by
    cases hxx : a.eval x <;> rw [hxx] at hx <;> cases hx
    exact ⟨_, _, rfl⟩
  have nl : VR w I ρ s.H .nilS (a.eval x) → a.eval x = .slice none 0 0 := fun hx => by cases hxx : a.eval x <;> rw [hxx] at hx <;> cases hx; rfl
  split at hs
  · split at hs
    · exact ok_done h (run (nl hx) (.inl ⟨rfl, rfl⟩)) (.lb _) hs
    · obtain ⟨A, c, e1, e2⟩ := dat hx
      cases hA : A.isNone with
      | true => exact ok_done h (run e1 (.inl ⟨rfl, hA.symm⟩)) (.lb _) (hs.1 (e2 hA))
      | false => exact ok_done h (run e1 (.inl ⟨rfl, hA.symm⟩)) (.lb _) hs.2
    · obtain ⟨A, c, e1⟩ := ref hx
      cases hA : A.isNone with
      | true => exact ok_done h (run e1 (.inl ⟨rfl, hA.symm⟩)) (.lb _) hs.1
      | false => exact ok_done h (run e1 (.inl ⟨rfl, hA.symm⟩)) (.lb _) hs.2
    · exact hs.elim
  · split at hs
    · exact ok_done h (run (nl hx) (.inr ⟨rfl, rfl⟩)) (.lb _) hs
    · obtain ⟨A, c, e1, e2⟩ := dat hx
      cases hA : A.isNone with
      | true => exact ok_done h (run e1 (.inr ⟨rfl, by rw [hA]; rfl⟩)) (.lb _) (hs.1 (e2 hA))
      | false => exact ok_done h (run e1 (.inr ⟨rfl, by rw [hA]; rfl⟩)) (.lb _) hs.2
    · obtain ⟨A, c, e1⟩ := ref hx
      cases hA : A.isNone with
      | true => exact ok_done h (run e1 (.inr ⟨rfl, by rw [hA]; rfl⟩)) (.lb _) hs.1
      | false => exact ok_done h (run e1 (.inr ⟨rfl, by rw [hA]; rfl⟩)) (.lb _) hs.2
    · exact hs.elim
  · exact hs.elim

theorem ok_binOp {op : BinOp} {t : TypeId} {x y : Operand} {yt : TypeId} (τ : Env) (G : Gam) (hE : EnvOk P τ) (h : Inv w0 F0 s a w I ρ) (ho : o.op = .binOp op t x y yt) (hq : τ.eq t = false)
    (hs : sat (stepOp Alg.std τ G o s) (fun _ s' => K s')) : Quiet P o a C (fun a' => Post w0 F0 K a' w) := by
  have hx := h.ev x
  have hy := h.ev y
  simp only [stepOp, ho, hq] at hs
  unfold binV at hs
  split at hs
  · rename_i k m k' n ex ey
    rw [ex] at hx
    rw [ey] at hy
    split at hs
    · rename_i hk
      subst hk
      exact ok_binI h ho hx.int_inv.1 hy.int_inv.1 hx.int_inv.2 hy.int_inv.2 hs
    · exact ok_shOp h ho hx.int_inv.1 hy.int_inv.1 hx.int_inv.2 hs
  · rename_i m n ex ey
    rw [ex] at hx
    rw [ey] at hy
    obtain ⟨b, hb, rfl, _⟩ := hx.str_inv
    obtain ⟨c, hc, rfl, _⟩ := hy.str_inv
    exact ok_binS h ho hb hc hs
  · split at hs
    · rename_i p q ht hp hq
      exact ok_binB (hE.ty t _ ht).2 h ho (hx.asB hp) (hy.asB hq) hs
    · rename_i e ht
      obtain ⟨_, _, eid, hE1, _⟩ := hE.ty t _ ht
      exact ok_nilOp hE1 h ho hx hy hs
    · exact hs.elim

end
end Go.Vee

set_option linter.unusedSimpArgs false
set_option linter.unusedVariables false
namespace Go.Vee
open Go

section
variable {P : Program} {w0 w : World} {F0 : Bnd} {s : St} {a : Act} {I : Nat → Prop} {ρ : Nat → RC} {H : Heap} {o : Oper} {K : St → Prop} {Q : Exit → Act → World → Prop} {C : World → Prop}

/-! ## Cells -/
/-- Cell for cell. -/
structure VRs (w : World) (I : Nat → Prop) (ρ : Nat → RC) (H : Heap) (vs : List AV) (us : List Value) : Prop where
  len : vs.length = us.length
  one : ∀ u ∈ us, u.oneCell' = true
  at_ : ∀ (i : Nat) (v : AV) (u : Value), vs[i]? = some v → us[i]? = some u → VR w I ρ H v u

theorem VRs.nil : VRs w I ρ H [] [] := ⟨rfl, by simp, by simp⟩
theorem VRs.app {vs vs' : List AV} {us us' : List Value} (h : VRs w I ρ H vs us) (k : VRs w I ρ H vs' us') : VRs w I ρ H (vs ++ vs') (us ++ us') :=
  ⟨by simp [h.len, k.len], fun u hu => (List.mem_append.1 hu).elim (h.one u) (k.one u), fun i v u hv hu => by
    by_cases hi : i < vs.length
    · rw [List.getElem?_append_left hi] at hv
      rw [List.getElem?_append_left (by rw [← h.len]; exact hi)] at hu
      exact h.at_ i v u hv hu
    · rw [List.getElem?_append_right (by omega)] at hv
      rw [List.getElem?_append_right (by rw [← h.len]; omega), ← h.len] at hu
      exact k.at_ _ v u hv hu⟩
theorem VRs.cons {v : AV} {u : Value} {vs : List AV} {us : List Value} (hv : VR w I ρ H v u) (h1 : u.oneCell' = true) (h : VRs w I ρ H vs us) : VRs w I ρ H (v :: vs) (u :: us) :=
  ⟨by simp [h.len], by simpa [h1] using h.one, fun i x y hx hy => by
    cases i with
    | zero => simp at hx hy; subst hx; subst hy; exact hv
    | succ i => exact h.at_ i x y (by simpa using hx) (by simpa using hy)⟩
theorem VRs.single {v : AV} {u : Value} (hv : VR w I ρ H v u) (h1 : u.oneCell' = true) : VRs w I ρ H [v] [u] := VRs.cons hv h1 VRs.nil
theorem VRs.drop {vs : List AV} {us : List Value} (h : VRs w I ρ H vs us) (k : Nat) : VRs w I ρ H (vs.drop k) (us.drop k) :=
  ⟨by simp [h.len], fun u hu => h.one u (List.mem_of_mem_drop hu), fun i v u hv hu => h.at_ (k + i) v u (by simpa [List.getElem?_drop] using hv) (by simpa [List.getElem?_drop] using hu)⟩
theorem VRs.take {vs : List AV} {us : List Value} (h : VRs w I ρ H vs us) (k : Nat) : VRs w I ρ H (vs.take k) (us.take k) :=
  ⟨by simp [h.len], fun u hu => h.one u (List.mem_of_mem_take hu), fun i v u hv hu => by
    rw [List.getElem?_take] at hv hu
    split at hv
    · exact h.at_ i v u hv (by rename_i hlt; simpa [hlt] using hu)
    · cases hv⟩
theorem VRs.ext {w' : World} {I' : Nat → Prop} {ρ' : Nat → RC} {H' : Heap} (E : Ext w w' I I' ρ ρ' H H') {vs : List AV} {us : List Value} (h : VRs w I ρ H vs us) : VRs w' I' ρ' H' vs us :=
  ⟨h.len, h.one, fun i v u hv hu => (h.at_ i v u hv hu).ext E⟩

theorem mkV_one {t : Ty} {c : Value} (h : t.isAgg = false) : mkV t [c] = c := by simp [mkV, h]

theorem VRs.expl : ∀ {t : Ty} {x : t.den} {cs : List Value}, Own w I t .sh cs x [] → VRs w I ρ H (Vee.expl t x) cs
  | .unit, _, _, h => by obtain ⟨rfl, _⟩ := h; exact VRs.nil
  | .pair a b, x, cs, h => by
    obtain ⟨c1, c2, f1, f2, rfl, hf, h1, h2⟩ := h
    obtain ⟨rfl, rfl⟩ := List.append_eq_nil_iff.1 hf.symm
    exact (VRs.expl h1).app (VRs.expl h2)
  | .int k, x, cs, h => by
    have h' := h; obtain ⟨rfl, _⟩ := h'
    have := VR.dat (ρ := ρ) (H := H) _ _ _ h
    exact VRs.single this rfl
  | .bool, x, cs, h => by
    have h' := h; obtain ⟨rfl, _⟩ := h'
    have := VR.dat (ρ := ρ) (H := H) _ _ _ h
    exact VRs.single this rfl
  | .str, x, cs, h => by
    have h' := h; obtain ⟨⟨b, rfl, _⟩, _⟩ := h'
    have := VR.dat (ρ := ρ) (H := H) _ _ _ h
    exact VRs.single this rfl
  | .sl e, x, cs, h => by
    have h' := h; obtain ⟨_, _, A, c, rfl, _, _⟩ := h'
    have := VR.dat (ρ := ρ) (H := H) _ _ _ h
    exact VRs.single this rfl

theorem fitC_spec : ∀ {t : Ty} {l l' : List AV}, fitC t l = some l' → ∃ pre, l = pre ++ l' ∧ pre.length = t.sz ∧ ∀ v ∈ pre, okc v = true
  | .unit, l, l', h => by simp [fitC] at h; subst h; exact ⟨[], by simp [Ty.sz]⟩
  | .pair a b, l, l', h => by
    simp only [fitC] at h
    split at h
    · rename_i l1 h1
      obtain ⟨p1, rfl, e1, o1⟩ := fitC_spec h1
      obtain ⟨p2, rfl, e2, o2⟩ := fitC_spec h
      exact ⟨p1 ++ p2, by simp, by simp [Ty.sz, e1, e2], fun v hv => (List.mem_append.1 hv).elim (o1 v) (o2 v)⟩
    · cases h
  | .sl e, [], l', h => by simp [fitC] at h
  | .sl e, v :: l, l', h => by
    simp only [fitC] at h
    split at h
    · split at h
      · cases h; exact ⟨[_], rfl, rfl, by simp [okc]⟩
      · cases h
    · split at h
      · cases h; exact ⟨[_], rfl, rfl, by simp [okc]⟩
      · cases h
    · cases h; exact ⟨[_], rfl, rfl, by simp [okc]⟩
    · cases h
  | .int k, [], l', h => by simp [fitC] at h
  | .int k, v :: l, l', h => by
    cases v <;> simp [fitC] at h
    case dat t x => obtain ⟨_, rfl⟩ := h; exact ⟨[_], rfl, rfl, by simp [okc]⟩
  | .bool, [], l', h => by simp [fitC] at h
  | .bool, v :: l, l', h => by
    cases v <;> simp [fitC] at h
    case dat t x => obtain ⟨_, rfl⟩ := h; exact ⟨[_], rfl, rfl, by simp [okc]⟩
    case lb b => subst h; exact ⟨[_], rfl, rfl, by simp [okc]⟩
  | .str, [], l', h => by simp [fitC] at h
  | .str, v :: l, l', h => by
    cases v <;> simp [fitC] at h
    case dat t x => obtain ⟨_, rfl⟩ := h; exact ⟨[_], rfl, rfl, by simp [okc]⟩

/-- A value's cells. -/
theorem VR.cells {v : AV} {u : Value} (h : VR w I ρ H v u) (hv : (cellsOf v).all okc = true) : ∃ us, u.cells = us.toArray ∧ VRs w I ρ H (cellsOf v) us := by
  cases h with
  | junk v => simp [cellsOf, okc] at hv
  | lb b => exact ⟨[.bool b], rfl, VRs.single VR.bool rfl⟩
  | dat t x cs ho => exact ⟨cs, mkV_cells ho.len ho.one, VRs.expl ho⟩
  | ref e r ver p lo n A c hr hn hnc h => exact ⟨[_], rfl, VRs.single (.ref e r ver p lo n A c hr hn hnc h) rfl⟩
  | ptr r ver p b off hr h => simp [cellsOf, okc] at hv
  | bptr r off hr => simp [cellsOf, okc] at hv
  | dptr t x b off arr et fr hb hi hs h => simp [cellsOf, okc] at hv
  | nilS => exact ⟨[_], rfl, VRs.single .nilS rfl⟩
  | nilP => simp [cellsOf, okc] at hv
  | agg vs cs hl h1 h => exact ⟨cs, rfl, hl, h1, h⟩
  | tup vs cs hl h => simp [cellsOf, okc] at hv
  | clo f vs cs hl h => simp [cellsOf, okc] at hv

theorem VR.fit {v : AV} {u : Value} {t : Ty} (h : VR w I ρ H v u) (hv : fitC t (cellsOf v) = some []) : ∃ us, u.cells = us.toArray ∧ us.length = t.sz ∧ VRs w I ρ H (cellsOf v) us := by
  obtain ⟨pre, hp, hl, ho⟩ := fitC_spec hv
  rw [List.append_nil] at hp
  obtain ⟨us, h1, h2⟩ := h.cells (by rw [hp]; simpa using ho)
  exact ⟨us, h1, by rw [← h2.len, hp, hl], h2⟩

/-- Cells put together again. -/
theorem VRs.ofCells {t : Ty} {vs : List AV} {us : List Value} (h : VRs w I ρ H vs us) (hl : us.length = t.sz) : VR w I ρ H (Vee.ofCells t vs) (mkV t us) := by
  by_cases ha : t.isAgg = true
  · have : Vee.ofCells t vs = .agg vs := by cases t <;> simp_all [Ty.isAgg, Vee.ofCells]
    rw [this]
    simp only [mkV, ha, if_true]
    exact .agg vs us h.len h.one h.at_
  · have hs := isAgg_sz (by simpa using ha)
    have hvl := h.len
    match us, vs, hl, hvl with
    | [u], [v], _, _ =>
      have : Vee.ofCells t [v] = v := by cases t <;> simp_all [Ty.isAgg, Vee.ofCells]
      rw [this, mkV_one (by simpa using ha)]
      exact h.at_ 0 v u rfl rfl
    | [], _, hl, _ => simp [hs] at hl
    | _ :: _ :: _, _, hl, _ => simp [hs] at hl
    | [_], [], _, hvl => simp at hvl
    | [_], _ :: _ :: _, _, hvl => simp at hvl

theorem VRs.zero : ∀ (t : Ty), VRs w I ρ H (zeroC t) (zeroCs t)
  | .unit => VRs.nil
  | .pair a b => (VRs.zero a).app (VRs.zero b)
  | .sl e => VRs.single .nilS rfl
  | .int k => VRs.single (VR.int (by cases k <;> simp [IntKind.min, IntKind.max, IntKind.signed, IntKind.bits, Ty.dflt])) rfl
  | .bool => VRs.single VR.bool rfl
  | .str => VRs.single (VR.dat .str _ [.string .empty] ⟨⟨.empty, rfl, rfl, Nat.zero_le _⟩, rfl⟩) rfl

/-! ## A variable made -/
theorem ok_addBox {cs : List AV} {us : List Value} {et : TypeId} (h : Inv w0 F0 s a w I ρ) (hc : VRs w I ρ s.H cs us)
    (hr : (execOp a.eval o).run P w = .ok (.value (.pointer (some ⟨w.heap.size, 0, none⟩))) (w.alloc (.cells us.toArray et)))
    (hs : sat (doneH s (s.H ++ [some (.box cs)]) o.dst (.bptr s.H.length 0)) (fun _ s' => K s')) : o.wp P a w (Post w0 F0 K) Q := by
  obtain ⟨ρ', h1, h2⟩ := h.addBox cs us et hc.len hc.one hc.at_
  exact wp_val hr ⟨_, I, ρ', h1.put h2 o.dst, hs⟩

theorem ok_alloc {t : TypeId} (τ : Env) (G : Gam) (hE : EnvOk P τ) (h : Inv w0 F0 s a w I ρ) (ho : o.op = .alloc t) (hs : sat (stepOp Alg.std τ G o s) (fun _ s' => K s')) : o.wp P a w (Post w0 F0 K) Q := by
  simp only [stepOp, ho] at hs
  split at hs
  · rename_i T hT
    have hF := hE.ty t T hT
    have h1 : ∀ u ∈ zeroCs T, u.oneCell' = true := (VRs.zero (w := w) (I := I) (ρ := ρ) (H := s.H) T).one
    refine ok_addBox (et := t) h (VRs.zero T) ?_ hs
    have hc := mkV_cells (zeroCs_length T) h1
    simp [execOp, ho, Instr.alloc, run_zeroValue (TyF.base hF), newVar, newRow, hc]
  · exact hs.elim

theorem ok_box {t : TypeId} {v : Operand} (τ : Env) (G : Gam) (hE : EnvOk P τ) (h : Inv w0 F0 s a w I ρ) (ho : o.op = .box t v) (hs : sat (stepOp Alg.std τ G o s) (fun _ s' => K s')) : o.wp P a w (Post w0 F0 K) Q := by
  simp only [stepOp, ho] at hs
  split at hs
  · rename_i T hT
    split at hs
    · rename_i hfit
      obtain ⟨us, hu, hl, hc⟩ := (h.ev v).fit hfit
      refine ok_addBox (et := t) h hc ?_ hs
      simp [execOp, ho, Instr.box, newVar, newRow, hu]
    · exact hs.elim
  · exact hs.elim

/-! ## Loads -/
theorem ok_load_box {t : TypeId} {x : Operand} {r off : Nat} (T : Ty) (hC : ∀ w', C w' → Keeps (fun _ => False) w w') (hF : (TyF P T).1 t) (h : Inv w0 F0 s a w I ρ) (ho : o.op = .load t x) (hx : Vee.ev Alg.std s x = .bptr r off)
    (hs : sat (loadOp Alg.std s o.dst T (.bptr r off)) (fun _ s' => K s')) : Quiet P o a C (fun a' => Post w0 F0 K a' w) := by
  have hv := h.ev x
  rw [hx] at hv
  simp only [loadOp] at hs
  split at hs
  · rename_i cs hr
    split at hs
    · rename_i hsz
      cases hu : a.eval x <;> rw [hu] at hv <;> cases hv
      obtain ⟨arr, et, hb, hfit, hcell⟩ := h.roots r _ hr
      have hin : (ρ r).off + off + T.sz ≤ arr.size := by omega
      have hrun := fun w' (hw' : C w') => run_loadVar' (P := P) hF (((hC w' hw').block _ (h.get_lt hb) (fun h => h)).trans hb) hin
      refine ok_done (u := mkV T (seg arr ((ρ r).off + off) T.sz)) h (fun w' hw' => by simp [execOp, ho, hu, Instr.loadAt, Instr.sureAddr, hrun w' hw']) ?_ hs
      refine VRs.ofCells ⟨?_, fun u hu => ?_, fun i v u hv hu => ?_⟩ (seg_length hin)
      · rw [seg_length hin]; simp; omega
      · obtain ⟨i, hi, rfl⟩ := List.getElem_of_mem hu
        rw [seg_length hin] at hi
        have hlt : off + i < cs.length := by omega
        obtain ⟨u', hu', h1, _⟩ := hcell (off + i) cs[off + i] (by simp [hlt])
        have : (seg arr ((ρ r).off + off) T.sz)[i]? = some u' := by rw [seg_get hi, ← hu']; congr 1; omega
        rw [List.getElem?_eq_getElem (by rw [seg_length hin]; exact hi)] at this
        cases this
        exact h1
      · have hi : i < T.sz := by have := (List.getElem?_eq_some_iff.1 hu).1; rwa [seg_length hin] at this
        rw [List.getElem?_take, if_pos hi, List.getElem?_drop] at hv
        obtain ⟨u', hu', _, h2⟩ := hcell (off + i) v hv
        rw [seg_get hi] at hu
        have : (ρ r).off + off + i = (ρ r).off + (off + i) := by omega
        rw [this, hu'] at hu
        cases hu
        exact h2
    · exact hs.elim
  · exact hs.elim

theorem ok_load_dptr {t : TypeId} {x : Operand} (T : Ty) (hC : ∀ w', C w' → Keeps (fun _ => False) w w') (hF : (TyF P T).1 t) {T' : Ty} {y : T'.den} (h : Inv w0 F0 s a w I ρ) (ho : o.op = .load t x) (hx : Vee.ev Alg.std s x = .dptr T' y)
    (hs : sat (loadOp Alg.std s o.dst T (.dptr T' y)) (fun _ s' => K s')) : Quiet P o a C (fun a' => Post w0 F0 K a' w) := by
  have hv := h.ev x
  rw [hx] at hv
  simp only [loadOp] at hs
  split at hs
  · rename_i e
    subst e
    cases hu : a.eval x <;> rw [hu] at hv <;> cases hv
    rename_i b off arr et fr hb hi hsz hown
    have hrun := fun w' (hw' : C w') => run_loadVar' (P := P) hF (((hC w' hw').block _ (h.get_lt hb) (fun h => h)).trans hb) hsz
    exact ok_done h (fun w' hw' => by simp [execOp, ho, hu, Instr.loadAt, Instr.sureAddr, hrun w' hw']) (.dat _ _ _ hown) hs
  · exact hs.elim


/-- What a load out of a row gives. -/
theorem VRs.loadC {r ver v : Nat} {e0 : Ty} {m0 : Md} {xs0 : List e0.den} (hr : hget H r = some (.row v e0 m0 xs0)) : ∀ {t : Ty} {m : Md} {x : t.den} {cs : List Value} {fp : List Nat} {p : List Stp} {l : Option (Nat × Nat)} {vs : List AV},
    Own w I t m cs x fp → (∀ b ∈ fp, True) → walk w (.sl e0) [(ρ r).hdr] none p = some (t, cs, l) → ver ≤ v → True → Vee.loadC Alg.std r ver t m x p = some vs → VRs w I ρ H vs cs
  | .unit, m, x, cs, fp, p, l, vs, h, _, hw, hv, hp, hl => by
    simp [Vee.loadC] at hl; subst hl
    obtain ⟨rfl, _⟩ := h
    exact VRs.nil
  | .pair a b, m, x, cs, fp, p, l, vs, h, hI, hw, hv, hp, hl => by
    simp only [Vee.loadC] at hl
    obtain ⟨c1, c2, f1, f2, rfl, rfl, h1, h2⟩ := h
    split at hl
    · rename_i l1 l2 e1 e2
      cases hl
      refine (VRs.loadC hr h1 (by simp) (p := p ++ [.fst]) (l := l) ?_ hv trivial e1).app (VRs.loadC hr h2 (by simp) (p := p ++ [.snd]) (l := l.map fun q => (q.1, q.2 + a.sz)) ?_ hv trivial e2)
      · rw [walk_append hw]; simp [walk, List.take_left' h1.len]
      · rw [walk_append hw]; simp [walk, List.drop_left' h1.len]
    · cases hl
  | .sl e, m, x, cs, fp, p, l, vs, h, hI, hw, hv, hp, hl => by
    cases m with
    | ow m' =>
      simp [Vee.loadC] at hl; subst hl
      have hshape : ∃ A c, cs = [.slice A (List.length x) c] ∧ List.length x ≤ c := by
        rcases h.2 with ⟨he, hx, _⟩ | ⟨b, c, arr, et, fps, he, _, hc, _⟩
        · exact ⟨none, 0, by simp [he, hx]⟩
        · exact ⟨_, c, he, hc⟩
      obtain ⟨A, c, rfl, hnc⟩ := hshape
      refine VRs.single (.ref e r ver p 0 (Alg.std.lenL x) A c (hget_lt hr) h.1 hnc fun v' e' m1 xs hg => ?_) rfl
      rw [hr] at hg
      cases hg
      refine ⟨hv, fun _ => ⟨A, c, _, l, hw, by simp [Alg.std], fun _ => ?_, fun _ => ⟨rfl, rfl⟩⟩⟩
      cases A with
      | none => rfl
      | some a => simp [Addr.add]
    | sh =>
      simp [Vee.loadC] at hl; subst hl
      have hfp : fp = [] := h.2.1
      subst hfp
      obtain ⟨_, _, A, c, rfl, _, _⟩ := id h
      exact VRs.single (VR.dat (.sl e) x _ h) rfl
    | no => simp [Vee.loadC] at hl
    | pr _ _ => exact h.2.elim
    | np _ => exact h.2.elim
  | .int k, m, x, cs, fp, p, l, vs, h, hI, hw, hv, hp, hl => by
    simp [Vee.loadC] at hl; subst hl
    obtain ⟨rfl, h2, _⟩ := h
    exact VRs.single (VR.int h2) rfl
  | .bool, m, x, cs, fp, p, l, vs, h, hI, hw, hv, hp, hl => by
    simp [Vee.loadC] at hl; subst hl
    obtain ⟨rfl, _⟩ := h
    exact VRs.single VR.bool rfl
  | .str, m, x, cs, fp, p, l, vs, h, hI, hw, hv, hp, hl => by
    simp [Vee.loadC] at hl; subst hl
    obtain ⟨⟨b, rfl, h1⟩, h2⟩ := h
    exact VRs.single (VR.dat .str x [.string b] ⟨⟨b, rfl, h1⟩, rfl⟩) rfl

/-! ## Results laid into the state -/
theorem Ext.add (o : Root) (c : RC) : Ext w w I I ρ (upd ρ H.length c) H (H ++ [some o]) :=
  ⟨fun _ _ => rfl, fun _ h => h, by simp, fun r hr => by simp [upd, Nat.ne_of_lt hr], fun r hr v' e m xs hg => by
    rw [hget_app, if_neg (Nat.ne_of_lt hr)] at hg
    exact ⟨v', m, xs, hg, RowStep.refl⟩⟩

theorem RowStep.trans {w w' w'' : World} {hdr : Value} {e : Ty} {m0 m1 m : Md} {v v' v'' : Nat} (h : RowStep w w' hdr e m0 m1 v v') (k : RowStep w' w'' hdr e m1 m v' v'') : RowStep w w'' hdr e m0 m v v'' := by
  refine ⟨Nat.le_trans h.1 k.1, fun hm => h.2.1 (k.2.1 hm), ?_⟩
  rcases h.2.2 with h2 | ⟨h2, h3⟩
  · rcases k.2.2 with k2 | ⟨k2, k3⟩
    · exact .inl fun p r hw => k2 p r (h2 p r hw)
    · exact .inr ⟨fun hm hs => Nat.lt_of_le_of_lt h.1 (k2 hm hs), fun p t cs l hp hw => k3 p t cs l hp (h2 p _ hw)⟩
  · refine .inr ⟨fun hm hs => Nat.lt_of_lt_of_le (h2 (k.2.1 hm) hs) k.1, fun p t cs l hp hw => ?_⟩
    obtain ⟨cs', hw'⟩ := h3 p t cs l hp hw
    rcases k.2.2 with k2 | ⟨_, k3⟩
    · exact ⟨cs', k2 p _ hw'⟩
    · exact k3 p t cs' l hp hw'

theorem Ext.trans {w w' w'' : World} {I I' I'' : Nat → Prop} {ρ ρ' ρ'' : Nat → RC} {H H' H'' : Heap} (h : Ext w w' I I' ρ ρ' H H') (k : Ext w' w'' I' I'' ρ' ρ'' H' H'') : Ext w w'' I I'' ρ ρ'' H H'' :=
  ⟨fun b hb => (k.hI b (h.hII b hb)).trans (h.hI b hb), fun b hb => k.hII b (h.hII b hb), Nat.le_trans h.len k.len, fun r hr => by
    obtain ⟨a1, a2, a3⟩ := h.rc r hr
    obtain ⟨b1, b2, b3⟩ := k.rc r (Nat.lt_of_lt_of_le hr h.len)
    exact ⟨b1.trans a1, b2.trans a2, b3.trans a3⟩, fun r hr v' e m xs hg => by
    obtain ⟨v1, m1, xs1, g1, s1⟩ := k.row r (Nat.lt_of_lt_of_le hr h.len) v' e m xs hg
    obtain ⟨v2, m2, xs2, g2, s2⟩ := h.row r hr v1 e m1 xs1 g1
    refine ⟨v2, m2, xs2, g2, s2.trans ?_⟩
    rw [← (h.rc r hr).2.2]
    exact s1⟩

theorem Ext.refl : Ext w w I I ρ ρ H H := ⟨fun _ _ => rfl, fun _ h => h, Nat.le_refl _, fun _ _ => ⟨rfl, rfl, rfl⟩, fun r hr v' e m xs hg => ⟨v', m, xs, hg, RowStep.refl⟩⟩

/-- What may be made a root. -/
def Free (w0 : World) (F0 : Bnd) (I : Nat → Prop) (ρ : Nat → RC) (H : Heap) (fp : List Nat) : Prop := ∀ b ∈ fp, ¬ I b ∧ (w0.heap.size ≤ b ∨ F0.wr b) ∧ ∀ r o, hget H r = some o → b ∉ tfp ρ r o

/-- Cells laid into a state: each owned row a root. -/
theorem layC_spec : ∀ {t : Ty} {m : Md} {x : t.den} {H H' : Heap} {l : List AV} {cs : List Value} {fp : List Nat} {ρ : Nat → RC} {fr : List AV}, Inv w0 F0 ⟨fr, H⟩ a w I ρ → Own w I t m cs x fp → fp.Nodup → Free w0 F0 I ρ H fp → layC Alg.std t m x H = some (l, H') →
    ∃ ρ', Inv w0 F0 ⟨fr, H'⟩ a w I ρ' ∧ Ext w w I I ρ ρ' H H' ∧ VRs w I ρ' H' l cs ∧ ∀ r o, hget H' r = some o → (hget H r = some o ∧ tfp ρ' r o = tfp ρ r o) ∨ ∀ b ∈ tfp ρ' r o, b ∈ fp
  | .unit, m, x, H, H', l, cs, fp, ρ, fr, h, ho, hn, hf, hl => by
    simp [layC] at hl
    obtain ⟨rfl, rfl⟩ := hl
    obtain ⟨rfl, _⟩ := ho
    exact ⟨ρ, h, Ext.refl, VRs.nil, fun r o hr => .inl ⟨hr, rfl⟩⟩
  | .pair t1 t2, m, x, H, H', l, cs, fp, ρ, fr, h, ho, hn, hf, hl => by
    simp only [layC] at hl
    obtain ⟨c1, c2, f1, f2, rfl, rfl, h1, h2⟩ := ho
    rw [List.nodup_append] at hn
    obtain ⟨n1, n2, n12⟩ := hn
    split at hl
    · rename_i l1 H1 e1
      split at hl
      · rename_i l2 H2 e2
        cases hl
        obtain ⟨ρ1, k1, E1, v1, q1⟩ := layC_spec h h1 n1 (fun b hb => hf b (List.mem_append_left _ hb)) e1
        obtain ⟨ρ2, k2, E2, v2, q2⟩ := layC_spec k1 h2 n2 (fun b hb => by
          obtain ⟨g1, g2, g3⟩ := hf b (List.mem_append_right _ hb)
          refine ⟨g1, g2, fun r o hr hb' => ?_⟩
          rcases q1 r o hr with ⟨hr', e⟩ | hin
          · exact g3 r o hr' (e ▸ hb')
          · exact n12 b (hin b hb') b hb rfl) e2
        refine ⟨ρ2, k2, E1.trans E2, (v1.ext E2).app v2, fun r o hr => ?_⟩
        rcases q2 r o hr with ⟨hr', e⟩ | hin
        · rcases q1 r o hr' with ⟨hr2, e'⟩ | hin
          · exact .inl ⟨hr2, e.trans e'⟩
          · exact .inr fun b hb => List.mem_append_left _ (hin b (e ▸ hb))
        · exact .inr fun b hb => List.mem_append_right _ (hin b hb)
      · cases hl
    · cases hl
  | .sl e, m, x, H, H', l, cs, fp, ρ, fr, h, ho, hn, hf, hl => by
    cases m with
    | ow m' =>
      simp [layC] at hl
      obtain ⟨rfl, rfl⟩ := hl
      have hshape : ∃ A c, cs = [.slice A (List.length x) c] ∧ List.length x ≤ c := by
        rcases ho.2 with ⟨he, hx, _⟩ | ⟨b, c, arr, et, fps, he, _, hc, _⟩
        · exact ⟨none, 0, by simp [he, hx]⟩
        · exact ⟨_, c, he, hc⟩
      obtain ⟨A, c, rfl, hnc⟩ := hshape
      have hadd := h.add (.row 0 e m' x) ⟨0, 0, .slice A (List.length x) c, fp⟩ (by simpa [RootOk, upd] using ho) (by simpa [tfp, upd] using hn) (fun b hb => by
        have hb' : b ∈ fp := by simpa [tfp, upd] using hb
        exact ⟨(hf b hb').1, ho.lt b hb', (hf b hb').2.1, (hf b hb').2.2⟩) (fun _ hh => by cases hh)
      refine ⟨_, hadd, Ext.add _ _, VRs.single ?_ rfl, fun r o hr => ?_⟩
      · refine .ref e H.length 0 [] 0 (List.length x) A c (by simp) ho.1 hnc fun v' e' m1 xs' hg => ?_
        rw [hget_app, if_pos rfl] at hg
        cases hg
        refine ⟨Nat.le_refl _, fun _ => ⟨A, c, List.length x, none, by simp [walk, upd], by omega, fun _ => ?_, fun _ => ⟨rfl, rfl⟩⟩⟩
        cases A with
        | none => rfl
        | some a => simp [Addr.add]
      · rw [hget_app] at hr
        split at hr
        · rename_i e
          cases hr
          subst e
          right
          intro b hb
          simpa [tfp, upd] using hb
        · rename_i e
          exact .inl ⟨hr, by cases o <;> simp [tfp, upd, e]⟩
    | sh =>
      simp [layC] at hl
      obtain ⟨rfl, rfl⟩ := hl
      have hfp : fp = [] := ho.2.1
      subst hfp
      obtain ⟨_, _, A, c, rfl, _, _⟩ := id ho
      exact ⟨ρ, h, Ext.refl, VRs.single (VR.dat (.sl e) x _ ho) rfl, fun r o hr => .inl ⟨hr, rfl⟩⟩
    | no => simp [layC] at hl
    | pr _ _ => exact ho.2.elim
    | np _ => exact ho.2.elim
  | .int k, m, x, H, H', l, cs, fp, ρ, fr, h, ho, hn, hf, hl => by
    simp [layC] at hl
    obtain ⟨rfl, rfl⟩ := hl
    obtain ⟨rfl, h2, _⟩ := ho
    exact ⟨ρ, h, Ext.refl, VRs.single (VR.int h2) rfl, fun r o hr => .inl ⟨hr, rfl⟩⟩
  | .bool, m, x, H, H', l, cs, fp, ρ, fr, h, ho, hn, hf, hl => by
    simp [layC] at hl
    obtain ⟨rfl, rfl⟩ := hl
    obtain ⟨rfl, _⟩ := ho
    exact ⟨ρ, h, Ext.refl, VRs.single VR.bool rfl, fun r o hr => .inl ⟨hr, rfl⟩⟩
  | .str, m, x, H, H', l, cs, fp, ρ, fr, h, ho, hn, hf, hl => by
    simp [layC] at hl
    obtain ⟨rfl, rfl⟩ := hl
    obtain ⟨⟨b, rfl, h1⟩, h2⟩ := ho
    exact ⟨ρ, h, Ext.refl, VRs.single (VR.dat .str x [.string b] ⟨⟨b, rfl, h1⟩, rfl⟩) rfl, fun r o hr => .inl ⟨hr, rfl⟩⟩

theorem rowAt_spec {r ver need : Nat} {e : Ty} {m : Md} {xs : List e.den} {v : Nat} (h : rowAt H r ver need = some ⟨e, m, xs, v⟩) : hget H r = some (.row v e m xs) ∧ (need = 0 ∨ (v = ver ∧ okM e m = true)) := by
  unfold rowAt at h
  split at h
  · rename_i hr
    split at h
    · cases h; exact ⟨hr, .inl (by assumption)⟩
    · split at h
      · rename_i hv
        split at h
        · rename_i hm
          cases h; exact ⟨hr, .inr ⟨hv, hm⟩⟩
        · cases h
      · cases h
  · cases h

theorem sat_needs' {ps : List Prop} {k : Tr} {Q : Ex → St → Prop} : sat (needs ps k) Q ↔ (∀ p ∈ ps, p) ∧ sat k Q := by
  induction ps with
  | nil => simp [needs]
  | cons p ps ih => simp only [needs, sat, ih, List.forall_mem_cons, and_assoc]
/-- What may have gone, as it is while it is there. -/
theorem Own.unM : ∀ {t : Ty} {m : Md} {cs : List Value} {x : t.den} {fp : List Nat}, (∀ p ∈ aliveP Alg.std t m x, p) → Own w I t m cs x fp → Own w I t (unM t m) cs x fp
  | .int _, _, _, _, _, _, h => h
  | .bool, _, _, _, _, _, h => h
  | .str, _, _, _, _, _, h => h
  | .unit, _, _, _, _, _, h => h
  | .sl e, m, cs, x, fp, hp, h => by
    cases m with
    | no =>
      have hx : 0 < List.length x := hp (Alg.std.Some1 (Alg.std.lenL x)) (by simp [aliveP])
      rcases Own.no_iff.1 h with ⟨rfl, _⟩ | ⟨_, h⟩
      · simp at hx
      · exact h
    | _ => exact h
  | .pair a b, m, cs, x, fp, hp, h => by
    obtain ⟨c1, c2, f1, f2, rfl, rfl, h1, h2⟩ := h
    simp only [aliveP, List.mem_append] at hp
    exact ⟨c1, c2, f1, f2, rfl, rfl, Own.unM (fun p h => hp p (.inl h)) h1, Own.unM (fun p h => hp p (.inr h)) h2⟩
/-- What is left where slices have been taken out. -/
theorem Own.emp : ∀ {t : Ty} {m : Md} {cs : List Value} {x : t.den} {fp : List Nat}, noOw t m = true → Own w I t m cs x fp → Own w I t m cs (empC t m x) []
  | .int _, _, _, _, _, _, h => ⟨h.1, h.2.1, rfl⟩
  | .bool, _, _, _, _, _, h => ⟨h.1, rfl⟩
  | .str, _, _, _, _, _, h => ⟨h.1, rfl⟩
  | .unit, _, _, _, _, _, h => ⟨h.1, rfl⟩
  | .sl e, m, cs, x, fp, hn, h => by
    cases m with
    | no =>
      refine Own.no_iff.2 (.inl ⟨rfl, rfl, ?_⟩)
      rcases h.2 with ⟨_, _, h⟩ | ⟨_, ⟨rfl, _⟩ | ⟨b, c, arr, et, fps, rfl, _⟩⟩
      · exact h
      · exact ⟨_, _, _, rfl⟩
      · exact ⟨_, _, _, rfl⟩
    | sh => exact ⟨h.1, rfl, h.2.2⟩
    | ow _ => simp [noOw] at hn
    | pr _ _ => exact h.2.elim
    | np _ => exact h.2.elim
  | .pair a b, m, cs, x, fp, hn, h => by
    obtain ⟨c1, c2, f1, f2, rfl, rfl, h1, h2⟩ := h
    simp only [noOw, Bool.and_eq_true] at hn
    exact ⟨c1, c2, [], [], rfl, rfl, Own.emp hn.1 h1, Own.emp hn.2 h2⟩

theorem ok_load_ptr {t : TypeId} {x : Operand} {r ver : Nat} {p : List Stp} (T : Ty) (hC : ∀ w', C w' → Keeps (fun _ => False) w w') (hF : (TyF P T).1 t) (h : Inv w0 F0 s a w I ρ) (ho : o.op = .load t x) (hx : Vee.ev Alg.std s x = .ptr r ver p)
    (hs : sat (loadOp Alg.std s o.dst T (.ptr r ver p)) (fun _ s' => K s')) : Quiet P o a C (fun a' => Post w0 F0 K a' w) := by
  have hv := h.ev x
  rw [hx] at hv
  simp only [loadOp] at hs
  split at hs
  · rename_i e m xs v hrow
    split at hs
    · rename_i t' m' x' hg
      split at hs
      · rename_i ht
        subst ht
        split at hs
        · rename_i l hl
          obtain ⟨hr, hver⟩ := rowAt_spec hrow
          cases hu : a.eval x <;> rw [hu] at hv <;> cases hv
          rename_i b off hrl hc
          obtain ⟨hle, hw⟩ := hc _ _ _ _ hr
          obtain ⟨t2, cs, hw⟩ := hw hver
          rcases walk_sl hw with ⟨rfl, he⟩ | ⟨i, q, _, _, _, _, _, _, _, rfl, _⟩
          · cases he
          · obtain ⟨b', off', fp1, arr0, et0, e1, e2, hown, _, _, _, _, hh0, hcs, hsz, _⟩ := h.rowAt hr hg hw
            cases e1
            subst e2
            subst hcs
            have hrun := fun w' (hw' : C w') => run_loadVar' (P := P) hF (((hC w' hw').block _ (h.get_lt hh0) (fun h => h)).trans hh0) hsz
            refine ok_done (u := mkV t2 (seg arr0 off t2.sz)) h (fun w' hw' => by simp [execOp, ho, hu, Instr.loadAt, Instr.sureAddr, hrun w' hw']) ?_ hs
            exact VRs.ofCells (VRs.loadC (v := v) hr hown (by simp) hw (Nat.le_refl _) trivial hl) (seg_length hsz)
        · split at hs
          · rename_i ys hset
            split at hs
            · rename_i l H' hl
              split at hs
              · rename_i hno
                rw [sat_needs'] at hs
                obtain ⟨hal, hs⟩ := hs
                obtain ⟨hr, hver⟩ := rowAt_spec hrow
                cases hu : a.eval x <;> rw [hu] at hv <;> cases hv
                rename_i b off hrl hc
                obtain ⟨hle, hw⟩ := hc _ _ _ _ hr
                obtain ⟨t2, cs, hw⟩ := hw hver
                rcases walk_sl hw with ⟨rfl, he⟩ | ⟨i, q, _, _, _, _, _, _, _, rfl, _⟩
                · cases he
                · obtain ⟨b', off', fp1, arr0, et0, e1, e2, hown, hnd1, hsub1, hbn, hbin, hh0, hcs, hsz, hlens⟩ := h.rowAtX hr hg hw
                  cases e1
                  subst e2
                  subst hcs
                  have hrun := fun w' (hw' : C w') => run_loadVar' (P := P) hF (((hC w' hw').block _ (h.get_lt hh0) (fun h => h)).trans hh0) hsz
                  obtain ⟨ρ1, k1, E1, hup, hfp⟩ := hlens w arr0 et0 _ [] ys (Keeps.refl _ _) hh0 ⟨rfl, fun _ _ => rfl⟩ (hown.emp hno) (by simp) (by simp) hset
                  have hfree : Free w0 F0 I ρ1 (s.H.set r (some (.row (if e.hasSl then v + 1 else v) e m ys))) fp1 := fun c hcf => by
                    obtain ⟨z1, z2, z3⟩ := h.sep r _ hr c (by simpa [tfp] using hsub1 c hcf)
                    refine ⟨z1, z3, fun r' o hr' hb' => ?_⟩
                    rw [hget_set (hget_lt hr)] at hr'
                    split at hr'
                    · rename_i he
                      cases hr'
                      subst he
                      rcases hfp c (by simpa [tfp] using hb') with ⟨_, g⟩ | g
                      · exact g hcf
                      · simp at g
                    · rename_i hne
                      have e2 : tfp ρ1 r' o = tfp ρ r' o := by cases o <;> simp [tfp, hup r' hne]
                      rw [e2] at hb'
                      exact h.disj r' o r _ hne hr' hr c hb' (by simpa [tfp] using hsub1 c hcf)
                  obtain ⟨ρ2, k2, E2, v2, _⟩ := layC_spec k1 (hown.unM hal) hnd1 hfree hl
                  exact ⟨mkV t2 (seg arr0 off t2.sz), fun w' hw' => by simp [execOp, ho, hu, Instr.loadAt, Instr.sureAddr, hrun w' hw'], _, I, ρ2, k2.put (VRs.ofCells v2 (seg_length hsz)) o.dst, hs⟩
              · exact hs.elim
            · exact hs.elim
          · exact hs.elim
      · exact hs.elim
    · exact hs.elim
  · exact hs.elim

end
end Go.Vee

set_option linter.unusedSimpArgs false
set_option linter.unusedVariables false
namespace Go.Vee
open Go

/-- A struct's fields, as the program has them. -/
theorem TyF.fld {P : Program} : ∀ {t : Ty} {fs : List Field} {off n : Nat} {g : Ty} {k : Nat}, (TyF P t).2 fs off → fldT t n off = some (g, k) → ∃ f, fs[n]? = some f ∧ f.offset = k ∧ 0 < g.sz ∧ (TyF P g).1 f.type
  | .pair a b, fs, off, 0, g, k, h, hf => by
    obtain ⟨f, rest, rfl, h1, h2, h3, h4⟩ := h
    simp [fldT] at hf
    obtain ⟨rfl, rfl⟩ := hf
    exact ⟨f, rfl, h1, h2, h3⟩
  | .pair a b, fs, off, n + 1, g, k, h, hf => by
    obtain ⟨f, rest, rfl, h1, h2, h3, h4⟩ := h
    simp only [fldT] at hf
    obtain ⟨f', h5, h6⟩ := TyF.fld h4 hf
    exact ⟨f', by simpa using h5, h6⟩
  | .unit, _, _, _, _, _, _, hf => by simp [fldT] at hf
  | .int _, _, _, _, _, _, _, hf => by simp [fldT] at hf
  | .bool, _, _, _, _, _, _, hf => by simp [fldT] at hf
  | .str, _, _, _, _, _, _, hf => by simp [fldT] at hf
  | .sl _, _, _, _, _, _, _, hf => by simp [fldT] at hf

theorem TyF.struct {P : Program} {t : Ty} {tid : TypeId} {n : Nat} {g : Ty} {k : Nat} (h : (TyF P t).1 tid) (hf : fldT t n 0 = some (g, k)) :
    ∃ fs : Array Field, P.underlying tid = some (.struct fs) ∧ ∃ f, fs[n]? = some f ∧ f.offset = k ∧ 0 < g.sz ∧ (TyF P g).1 f.type := by
  cases t with
  | pair a b =>
    obtain ⟨_, fs, hu, hF⟩ := h
    obtain ⟨f, h1, h2⟩ := TyF.fld (t := .pair a b) (off := 0) hF hf
    exact ⟨fs, hu, f, by simpa using h1, h2⟩
  | _ => simp [fldT] at hf

theorem fldT_le : ∀ {t : Ty} {off n : Nat} {g : Ty} {k : Nat}, fldT t n off = some (g, k) → off ≤ k ∧ k + g.sz ≤ off + t.sz
  | .pair a b, off, 0, g, k, h => by simp [fldT] at h; obtain ⟨rfl, rfl⟩ := h; simp [Ty.sz]
  | .pair a b, off, n + 1, g, k, h => by have := fldT_le (by simpa [fldT] using h); simp [Ty.sz]; omega
  | .unit, _, _, _, _, h => by simp [fldT] at h
  | .int _, _, _, _, _, h => by simp [fldT] at h
  | .bool, _, _, _, _, h => by simp [fldT] at h
  | .str, _, _, _, _, h => by simp [fldT] at h
  | .sl _, _, _, _, _, h => by simp [fldT] at h

/-- A field of data. -/
theorem Own.fld {w : World} {I : Nat → Prop} : ∀ {t : Ty} {x : t.den} {cs : List Value} {n : Nat} {g : Ty} {y : g.den} {off : Nat}, Own w I t .sh cs x [] → fldD t x n = some ⟨g, y⟩ →
    ∃ k, fldT t n off = some (g, off + k) ∧ k + g.sz ≤ t.sz ∧ Own w I g .sh ((cs.drop k).take g.sz) y []
  | .pair a b, x, cs, 0, g, y, off, h, hf => by
    simp [fldD] at hf
    obtain ⟨rfl, hf⟩ := hf
    cases hf
    obtain ⟨c1, c2, f1, f2, rfl, hfp, h1, h2⟩ := h
    obtain ⟨rfl, rfl⟩ := List.append_eq_nil_iff.1 hfp.symm
    refine ⟨0, rfl, by simp [Ty.sz], ?_⟩
    rw [List.drop_zero, List.take_left' h1.len]
    exact h1
  | .pair a b, x, cs, n + 1, g, y, off, h, hf => by
    simp only [fldD] at hf
    obtain ⟨c1, c2, f1, f2, rfl, hfp, h1, h2⟩ := h
    obtain ⟨rfl, rfl⟩ := List.append_eq_nil_iff.1 hfp.symm
    obtain ⟨k, e1, e2, e3⟩ := Own.fld (off := off + a.sz) h2 hf
    refine ⟨a.sz + k, by simp only [fldT]; rw [e1]; simp [Nat.add_assoc], by simp only [Ty.sz]; omega, ?_⟩
    have hl := h1.len
    change c1.length = a.sz at hl
    rw [List.drop_append, List.drop_eq_nil_of_le (by omega), List.nil_append, hl, Nat.add_sub_cancel_left]
    exact e3
  | .unit, _, _, _, _, _, _, _, hf => by simp [fldD] at hf
  | .int _, _, _, _, _, _, _, _, hf => by simp [fldD] at hf
  | .bool, _, _, _, _, _, _, _, hf => by simp [fldD] at hf
  | .str, _, _, _, _, _, _, _, hf => by simp [fldD] at hf
  | .sl _, _, _, _, _, _, _, _, hf => by simp [fldD] at hf

theorem fldT_shift : ∀ {t : Ty} {n a b : Nat} {g : Ty} {k : Nat}, fldT t n a = some (g, a + k) → fldT t n (b + a) = some (g, b + (a + k))
  | .pair x y, 0, a, b, g, k, h => by simp [fldT] at h ⊢; omega
  | .pair x y, n + 1, a, b, g, k, h => by
    simp only [fldT] at h ⊢
    have hle := (fldT_le h).1
    have e : a + k = a + x.sz + (k - x.sz) := by omega
    rw [e] at h ⊢
    have := fldT_shift (b := b) h
    rwa [Nat.add_assoc b a x.sz]
  | .unit, _, _, _, _, _, h => by simp [fldT] at h
  | .int _, _, _, _, _, _, h => by simp [fldT] at h
  | .bool, _, _, _, _, _, h => by simp [fldT] at h
  | .str, _, _, _, _, _, h => by simp [fldT] at h
  | .sl _, _, _, _, _, _, h => by simp [fldT] at h

theorem walk_fldP {w : World} : ∀ {t : Ty} {cs : List Value} {b off n : Nat} {g : Ty} {k : Nat}, fldT t n off = some (g, k) → ∃ cs', walk w t cs (some (b, off)) (fldP n) = some (g, cs', some (b, k))
  | .pair a c, cs, b, off, 0, g, k, h => by
    simp [fldT] at h
    obtain ⟨rfl, rfl⟩ := h
    exact ⟨cs.take a.sz, by simp [fldP, walk]⟩
  | .pair a c, cs, b, off, n + 1, g, k, h => by
    simp only [fldT] at h
    obtain ⟨cs', h'⟩ := walk_fldP (w := w) (cs := cs.drop a.sz) (b := b) h
    exact ⟨cs', by simpa [fldP, walk] using h'⟩
  | .unit, _, _, _, _, _, _, h => by simp [fldT] at h
  | .int _, _, _, _, _, _, _, h => by simp [fldT] at h
  | .bool, _, _, _, _, _, _, h => by simp [fldT] at h
  | .str, _, _, _, _, _, _, h => by simp [fldT] at h
  | .sl _, _, _, _, _, _, _, h => by simp [fldT] at h

section
variable {P : Program} {w0 w : World} {F0 : Bnd} {s : St} {a : Act} {I : Nat → Prop} {ρ : Nat → RC} {H : Heap} {o : Oper} {K : St → Prop} {Q : Exit → Act → World → Prop} {C : World → Prop}

theorem run_fieldAt {t : TypeId} {T : Ty} {n : Nat} {g : Ty} {k : Nat} (hF : (TyF P T).1 t) (hf : fldT T n 0 = some (g, k)) (b off : Nat) :
    (Instr.fieldAt t (.pointer (some ⟨b, off, none⟩)) n).run P w = .ok (.pointer (some ⟨b, off + k, none⟩)) w := by
  obtain ⟨fs, hu, f, h1, h2, h3, h4⟩ := TyF.struct hF hf
  have h5 : ¬ g.sz = 0 := by omega
  simp [Instr.fieldAt, run_underlying hu, h1, Instr.sureAddr, fieldPlace, run_sizeOf (TyF.base h4), h5, h2, add_lit']

theorem ok_fieldAddr {t : TypeId} {x : Operand} {n : Nat} (τ : Env) (G : Gam) (hE : EnvOk P τ) (h : Inv w0 F0 s a w I ρ) (ho : o.op = .fieldAddr t x n) (hs : sat (stepOp Alg.std τ G o s) (fun _ s' => K s')) :
    Quiet P o a C (fun a' => Post w0 F0 K a' w) := by
  have hv := h.ev x
  simp only [stepOp, ho] at hs
  split at hs
  · rename_i T hT
    split at hs
    · rename_i g k hf
      split at hs
      · rename_i T' y hx
        rw [hx] at hv
        split at hs
        · rename_i hTT
          subst hTT
          split at hs
          · rename_i g' z hz
            cases hu : a.eval x <;> rw [hu] at hv <;> cases hv
            rename_i b off arr et fr hb hi hsz hown
            obtain ⟨k', h1, h2, h3⟩ := hown.fld (off := 0) hz
            rw [Nat.zero_add] at h1
            rw [hf] at h1
            cases h1
            rw [seg_seg h2] at h3
            refine ok_done (u := .pointer (some ⟨b, off + k, none⟩)) h ?_ (.dptr g z b (off + k) arr et fr hb hi (by omega) h3) hs
            intro w' _
            simp only [execOp, ho, hu]
            simp [run_fieldAt (hE.ty t _ hT) hf b off]
          · exact hs.elim
        · exact hs.elim
      · rename_i r ver p hx
        rw [hx] at hv
        split at hs
        · rename_i e m xs v hrow
          split at hs
          · rename_i T' m' x' hg
            split at hs
            · rename_i hTT
              subst hTT
              obtain ⟨hr, hver⟩ := rowAt_spec hrow
              cases hu : a.eval x <;> rw [hu] at hv <;> cases hv
              rename_i b off hrl hc
              obtain ⟨hle, hw⟩ := hc _ _ _ _ hr
              obtain ⟨t2, cs, hw⟩ := hw hver
              obtain ⟨rfl, _⟩ := Own.get p (h.roots r _ hr) hg hw
              refine ok_done (u := .pointer (some ⟨b, off + k, none⟩)) h ?_ (.ptr r ver (p ++ fldP n) b (off + k) hrl fun v' e' m1 xs' hg' => ?_) hs
              · intro w' _
                simp only [execOp, ho, hu]
                simp [run_fieldAt (hE.ty t _ hT) hf b off]
              · rw [hr] at hg'
                cases hg'
                refine ⟨hle, fun _ => ?_⟩
                have hf' : ∀ (T : Ty) (n off0 : Nat) (g : Ty) (k : Nat), fldT T n 0 = some (g, k) → fldT T n off0 = some (g, off0 + k) := fun T n off0 g k hh => by simpa using fldT_shift (a := 0) (b := off0) (k := k) (by simpa using hh)
                obtain ⟨cs', hw'⟩ := walk_fldP (w := w) (cs := cs) (b := b) (hf' _ _ off _ _ hf)
                exact ⟨g, cs', by rw [walk_append hw]; exact hw'⟩
            · exact hs.elim
          · exact hs.elim
        · exact hs.elim
      · rename_i r off hx
        rw [hx] at hv
        cases hu : a.eval x <;> rw [hu] at hv <;> cases hv
        rename_i hr
        refine ok_done (u := .pointer (some ⟨(ρ r).b, (ρ r).off + (off + k), none⟩)) h ?_ (.bptr r (off + k) hr) hs
        intro w' _
        simp only [execOp, ho, hu]
        simp [run_fieldAt (hE.ty t _ hT) hf (ρ r).b ((ρ r).off + off), Nat.add_assoc]
      · exact hs.elim
    · exact hs.elim
  · exact hs.elim

/-! ## Fields of values, elements, texts -/
theorem VRs.part {T : Ty} {n : Nat} {g : Ty} {k : Nat} {vs : List AV} {us : List Value} (h : VRs w I ρ H vs us) (hl : us.length = T.sz) (hf : fldT T n 0 = some (g, k)) :
    VR w I ρ H (Vee.ofCells g ((vs.drop k).take g.sz)) (mkV g ((us.drop k).take g.sz)) := by
  have := fldT_le hf
  exact ((h.drop k).take g.sz).ofCells (by simp; omega)

theorem run_part {g : Ty} {tid : TypeId} (hF : (TyF P g).1 tid) {us : List Value} {k : Nat} (hk : k + g.sz ≤ us.length) : (part tid us.toArray k).run P w = .ok (mkV g ((us.drop k).take g.sz)) w := by
  unfold part mkV
  simp only [Sem.run_bind, run_isAgg hF, Result.andThen_ok]
  by_cases ha : g.isAgg = true
  · simp [ha, run_sizeOf (TyF.base hF)]
  · have hs1 := isAgg_sz (by simpa using ha)
    have hlt : k < us.length := by omega
    simp [ha, hs1, hlt, List.take_one]

theorem agg_of_cells {v : AV} {u : Value} {us : List Value} (h : VR w I ρ H v u) (hv : isAggV v = true) (hu : u.cells = us.toArray) : u = .agg us.toArray := by
  cases h <;> simp [isAggV] at hv
  case dat t x cs ho =>
    rw [mkV_cells ho.len ho.one] at hu
    simp [mkV, hv, ← hu]
  case agg vs cs hl h1 h => simp [Value.cells] at hu; simp [hu]

theorem ok_field {t : TypeId} {x : Operand} {n : Nat} (τ : Env) (G : Gam) (hE : EnvOk P τ) (h : Inv w0 F0 s a w I ρ) (ho : o.op = .field t x n) (hs : sat (stepOp Alg.std τ G o s) (fun _ s' => K s')) :
    Quiet P o a C (fun a' => Post w0 F0 K a' w) := by
  have hv := h.ev x
  simp only [stepOp, ho] at hs
  split at hs
  · rename_i T hT
    split at hs
    · rename_i g k hf
      split at hs
      · rename_i hA
        split at hs
        · rename_i hfit
          obtain ⟨us, hu, hl, hc⟩ := hv.fit hfit
          obtain ⟨fs, hun, f, h1, h2, h3, h4⟩ := TyF.struct (hE.ty t T hT) hf
          have hle := fldT_le hf
          have hagg : a.eval x = .agg us.toArray := agg_of_cells hv hA hu
          refine ok_done (u := mkV g ((us.drop k).take g.sz)) h ?_ (hc.part hl hf) hs
          intro w' _
          simp [execOp, ho, Instr.field, run_underlying hun, h1, hagg, asAgg, h2, run_part h4 (us := us) (k := k) (by omega)]
        · exact hs.elim
      · exact hs.elim
    · exact hs.elim
  · exact hs.elim

end
end Go.Vee

set_option linter.unusedSimpArgs false
set_option linter.unusedVariables false
namespace Go.Vee
open Go

section
variable {P : Program} {w0 w : World} {F0 : Bnd} {s : St} {a : Act} {I : Nat → Prop} {ρ : Nat → RC} {H : Heap} {o : Oper} {K : St → Prop} {Q : Exit → Act → World → Prop} {C : World → Prop}

theorem TyF.sl {t : TypeId} {e : Ty} (h : (TyF P (.sl e)).1 t) : ∃ eid, P.underlying t = some (.slice eid) ∧ (TyF P e).1 eid ∧ 0 < e.sz := by
  obtain ⟨_, h1, eid, h2, h3⟩ := h
  exact ⟨eid, h2, h3, h1⟩

/-- What a slice's place is. -/
theorem readRef0_spec {e : Ty} {r ver : Nat} {p : List Stp} {m : Md} {y : List e.den} (h : readRef0 Alg.std H e r ver p = some (m, y)) :
    ∃ v e' m' xs, hget H r = some (.row v e' m' xs) ∧ (hops p = 0 ∨ (v = ver ∧ okM e' m' = true)) ∧ getAt Alg.std (.sl e') (.ow m') xs p = some ⟨.sl e, .ow m, y⟩ := by
  unfold readRef0 at h
  split at h
  · rename_i e' m' xs v hrow
    obtain ⟨h1, h2⟩ := rowAt_spec hrow
    split at h
    · rename_i t m2 x hg
      split at h
      · rename_i z hz
        cases h
        unfold castD at hz
        split at hz
        · rename_i e1
          subst e1
          cases hz
          exact ⟨v, e', m', xs, h1, h2, hg⟩
        · cases hz
      · cases h
    · cases h
  · cases h

theorem readRef_0 {e : Ty} {r ver : Nat} {p : List Stp} {m : Md} {y : List e.den} (h : readRef Alg.std H e r ver p = some (m, y)) : readRef0 Alg.std H e r ver p = some (m, y) ∧ okM e m = true := by
  unfold readRef at h
  split at h
  · rename_i m' y' h0
    split at h
    · rename_i hm
      cases h; exact ⟨h0, hm⟩
    · cases h
  · cases h
theorem readRef_spec {e : Ty} {r ver : Nat} {p : List Stp} {m : Md} {y : List e.den} (h : readRef Alg.std H e r ver p = some (m, y)) :
    ∃ v e' m' xs, hget H r = some (.row v e' m' xs) ∧ (hops p = 0 ∨ (v = ver ∧ okM e' m' = true)) ∧ getAt Alg.std (.sl e') (.ow m') xs p = some ⟨.sl e, .ow m, y⟩ := readRef0_spec (readRef_0 h).1

/-- A slice in memory that is owned: its header's place, its elements. -/
theorem Inv.ref0 (h : Inv w0 F0 s a w I ρ) {e : Ty} {r ver : Nat} {p : List Stp} {lo n : Nat} {u : Value} (hv : VR w I ρ s.H (.ref e r ver p lo n) u) {m : Md} {y : List e.den} (hr : readRef0 Alg.std s.H e r ver p = some (m, y)) :
    ∃ A c B c0 l fp' e' m' xs v, u = .slice A n c ∧ n ≤ c ∧ hget s.H r = some (.row v e' m' xs) ∧ ver ≤ v ∧ (hops p = 0 ∨ (v = ver ∧ okM e' m' = true)) ∧ walk w (.sl e') [(ρ r).hdr] none p = some (.sl e, [.slice B y.length c0], l) ∧
      lo + n ≤ y.length ∧ (0 < n → A = B.map (fun a => a.add (lo * e.sz))) ∧ (lo = 0 ∧ n = y.length → A = B ∧ c = c0) ∧ Own w I (.sl e) (.ow m) [.slice B y.length c0] y fp' ∧ (∀ b ∈ fp', b ∈ (ρ r).fp) ∧
      getAt Alg.std (.sl e') (.ow m') xs p = some ⟨.sl e, .ow m, y⟩ := by
  obtain ⟨v, e', m', xs, h1, h2, h3⟩ := readRef0_spec hr
  cases hv
  rename_i A c hrl hn hnc hc
  obtain ⟨hle, hw⟩ := hc v e' m' xs h1
  obtain ⟨B, c0, len, l, hw, q1, q2, q3⟩ := hw h2
  obtain ⟨_, fp', ho, hsub⟩ := Own.get p (h.roots r _ h1) h3 hw
  have hlen : len = y.length := by
    rcases ho.2 with ⟨he, hx, _⟩ | ⟨b, c, arr, et, fps, he, _⟩
    · simp at he; simp [he, hx]
    · simp at he; exact he.2.1
  subst hlen
  exact ⟨A, c, B, c0, l, fp', e', m', xs, v, rfl, hnc, h1, hle, h2, hw, q1, q2, q3, ho, hsub, h3⟩

theorem Inv.ref (h : Inv w0 F0 s a w I ρ) {e : Ty} {r ver : Nat} {p : List Stp} {lo n : Nat} {u : Value} (hv : VR w I ρ s.H (.ref e r ver p lo n) u) {m : Md} {y : List e.den} (hr : readRef Alg.std s.H e r ver p = some (m, y)) :
    ∃ A c B c0 l fp' e' m' xs v, u = .slice A n c ∧ n ≤ c ∧ hget s.H r = some (.row v e' m' xs) ∧ ver ≤ v ∧ (hops p = 0 ∨ (v = ver ∧ okM e' m' = true)) ∧ walk w (.sl e') [(ρ r).hdr] none p = some (.sl e, [.slice B y.length c0], l) ∧
      lo + n ≤ y.length ∧ (0 < n → A = B.map (fun a => a.add (lo * e.sz))) ∧ (lo = 0 ∧ n = y.length → A = B ∧ c = c0) ∧ Own w I (.sl e) (.ow m) [.slice B y.length c0] y fp' ∧ (∀ b ∈ fp', b ∈ (ρ r).fp) ∧
      getAt Alg.std (.sl e') (.ow m') xs p = some ⟨.sl e, .ow m, y⟩ := h.ref0 hv (readRef_0 hr).1

theorem run_indexAt {t eid : TypeId} {e : Ty} (hu : P.underlying t = some (.slice eid)) (hF : (TyF P e).1 eid) {k : IntKind} {i : Int} {ad : Addr} {n c : Nat} (h0 : 0 ≤ i) (h1 : i < n) :
    (Instr.indexAt t (.slice (some ad) n c) (.int k i)).run P w = .ok (.pointer (some (ad.add (i.toNat * e.sz)))) w := by
  simp [Instr.indexAt, asIntOf, run_underlying hu, run_sizeOf (TyF.base hF), h0, h1]

theorem ok_indexAddr {t : TypeId} {x i : Operand} (τ : Env) (G : Gam) (hE : EnvOk P τ) (h : Inv w0 F0 s a w I ρ) (ho : o.op = .indexAddr t x i) (hs : sat (stepOp Alg.std τ G o s) (fun _ s' => K s')) :
    Quiet P o a C (fun a' => Post w0 F0 K a' w) := by
  have hv := h.ev x
  have hi := h.ev i
  simp only [stepOp, ho] at hs
  split at hs
  · rename_i e j ht hj
    obtain ⟨k, hi, _⟩ := hi.intOf hj
    obtain ⟨eid, hun, hF, hsz⟩ := TyF.sl (hE.ty t _ ht)
    unfold idxOp at hs
    split at hs
    · rename_i e' xs hx
      rw [hx] at hv
      split at hs
      · rename_i he
        subst he
        obtain ⟨⟨h0, h1⟩, hs⟩ := hs
        obtain ⟨A, c, hu, hl, hlc, hcase⟩ := hv.sl_inv
        rcases hcase with rfl | ⟨b, off, arr, et, fr, rfl, hb, hI, hel⟩
        · simp [Alg.std] at h1; omega
        · have hlt : j.toNat < List.length xs := by simp only [Alg.std] at h1; omega
          obtain ⟨g1, g2⟩ := hel j.toNat hlt
          refine ok_done (u := .pointer (some ⟨b, off + j.toNat * e'.sz, none⟩)) h ?_ ?_ hs
          · intro w' _
            have h1' : j < (List.length xs : Int) := h1
            simp only [execOp, ho, hu, hi]
            simp [run_indexAt hun hF h0 h1', add_lit']
          · have e1 : Alg.std.getL xs (Alg.std.toN j) e'.dflt = xs[j.toNat] := getL_std _ _ _ hlt
            rw [e1]
            rw [Nat.add_mul, Nat.one_mul] at g1
            exact .dptr e' _ b _ arr et fr hb hI (by omega) g2
      · exact hs.elim
    · rename_i e' r ver p lo n hx
      rw [hx] at hv
      split at hs
      · rename_i he
        subst he
        split at hs
        · rename_i my hmy
          obtain ⟨m, y⟩ := my
          obtain ⟨⟨h0, h1⟩, hs⟩ := hs
          obtain ⟨A, c, B, c0, l, fp', e0, m0, xs, v, hu, hnc, hr, hle, hver, hw, q1, q2, q3, hown, hsub, hg⟩ := h.ref0 hv hmy
          have hn : 0 < n := by omega
          have hy : 0 < y.length := by omega
          rcases hown.2 with ⟨_, hy0, _⟩ | ⟨b, c2, arr, et, fps, he, hb, _⟩
          · rw [hy0] at hy; simp at hy
          · simp only [List.cons.injEq, Value.slice.injEq, and_true] at he
            obtain ⟨rfl, -, rfl⟩ := he
            have hA := q2 hn
            simp only [Option.map_some] at hA
            subst hA
            rw [plusN_std, show Alg.std.toN j = j.toNat from rfl] at hs
            refine ok_done (u := .pointer (some ⟨b, (lo + j.toNat) * e'.sz, none⟩)) h ?_ ?_ hs
            · intro w' _
              simp only [execOp, ho, hu, hi]
              simp [run_indexAt hun hF h0 h1, add_lit', Nat.add_mul]
            · refine .ptr r ver _ b _ (hget_lt hr) fun v' e1 m1 xs1 hg1 => ?_
              rw [hr] at hg1
              cases hg1
              refine ⟨hle, fun _ => ⟨e', seg arr ((lo + j.toNat) * e'.sz) e'.sz, ?_⟩⟩
              rw [walk_append hw]
              simp only [walk, hb, Nat.zero_add]
              rw [if_pos (by omega)]
        · exact hs.elim
      · exact hs.elim
    · exact hs.elim
  · exact hs.elim

theorem ok_index {t : TypeId} {x i : Operand} (τ : Env) (G : Gam) (hE : EnvOk P τ) (h : Inv w0 F0 s a w I ρ) (ho : o.op = .index t x i) (hs : sat (stepOp Alg.std τ G o s) (fun _ s' => K s')) :
    Quiet P o a C (fun a' => Post w0 F0 K a' w) := by
  have hv := h.ev x
  have hi := h.ev i
  simp only [stepOp, ho] at hs
  split at hs
  · rename_i xs j ht hx hj
    obtain ⟨k, hi, _⟩ := hi.intOf hj
    rw [hx] at hv
    obtain ⟨b, hb, rfl, hsz⟩ := hv.str_inv
    obtain ⟨⟨h0, h1⟩, hs⟩ := hs
    have hlt : j.toNat < b.size := by
      have h1' : j < (((b.data.toList.map fun b => (b.toNat : Int)).length : Nat) : Int) := h1
      rw [List.length_map] at h1'
      have : b.data.toList.length = b.size := Array.length_toList
      omega
    have hun := (hE.ty t _ ht).2
    have he : Alg.std.getL (b.data.toList.map fun b => (b.toNat : Int)) (Alg.std.toN j) 0 = ((b[j.toNat]'hlt).toNat : Int) := by
      have hl : j.toNat < (b.data.toList.map fun b => (b.toNat : Int)).length := by
        rw [List.length_map]
        have : b.data.toList.length = b.size := Array.length_toList
        omega
      rw [show Alg.std.toN j = j.toNat from rfl, getL_std _ _ _ hl]
      simp
      rfl
    rw [he] at hs
    refine ok_done (u := .int .u8 (b[j.toNat]'hlt).toNat) h ?_ (VR.int ?_) hs
    · intro w' _
      simp only [execOp, ho, hb, hi]
      have hg : b[j.toNat]? = some (b[j.toNat]'hlt) := getElem?_pos b j.toNat hlt
      simp [Instr.index, asIntOf, run_underlying hun, h0, hg]
    · have := (b[j.toNat]'hlt).toNat_lt
      simp [IntKind.min, IntKind.max, IntKind.signed, IntKind.bits]; omega
  · exact hs.elim

theorem ok_extract {x : Operand} {i : Nat} (τ : Env) (G : Gam) (h : Inv w0 F0 s a w I ρ) (ho : o.op = .extract x i) (hs : sat (stepOp Alg.std τ G o s) (fun _ s' => K s')) :
    Quiet P o a C (fun a' => Post w0 F0 K a' w) := by
  have hv := h.ev x
  simp only [stepOp, ho] at hs
  split at hs
  · rename_i vs hx
    rw [hx] at hv
    split at hs
    · rename_i v hvi
      cases hu : a.eval x <;> rw [hu] at hv <;> cases hv
      rename_i cs hl hc
      have hi := (List.getElem?_eq_some_iff.1 hvi).1
      have hci : cs[i]? = some (cs[i]'(by omega)) := by simp
      exact ok_done h (fun w' _ => by simp [execOp, ho, hu, Instr.extract, hci]) (hc i v _ hvi hci) hs
    · exact hs.elim
  · exact hs.elim

theorem ok_makeFunc {f : FuncId} {first caps : Array Operand} (τ : Env) (G : Gam) (h : Inv w0 F0 s a w I ρ) (ho : o.op = .makeFunc (.func f) first caps) (hs : sat (stepOp Alg.std τ G o s) (fun _ s' => K s')) :
    Quiet P o a C (fun a' => Post w0 F0 K a' w) := by
  simp only [stepOp, ho] at hs
  split at hs
  · rename_i h0
    have hf : first = #[] := Array.eq_empty_of_size_eq_zero h0
    subst hf
    have hr : ∀ w', C w' → (execOp a.eval o).run P w' = .ok (.value (.func (.func f) #[] (caps.map a.eval))) w' := by
      intro w' _
      unfold execOp
      rw [ho]
      simp [Instr.makeFunc]
    refine ok_done (u := .func (.func f) #[] (caps.map a.eval)) h hr ?_ hs
    have : (caps.map a.eval) = (caps.toList.map a.eval).toArray := by rw [← Array.toList_map, Array.toArray_toList]
    rw [this]
    refine .clo f _ _ (by simp) fun i v u hv hu => ?_
    simp only [List.getElem?_map] at hv hu
    cases hc : caps.toList[i]? with
    | none => simp [hc] at hv
    | some x =>
      simp only [hc, Option.map_some, Option.some.injEq] at hv hu
      subst hv
      subst hu
      exact h.ev x
  · exact hs.elim

end
end Go.Vee

set_option linter.unusedSimpArgs false
set_option linter.unusedVariables false
namespace Go.Vee
open Go

section
variable {P : Program} {w0 w : World} {F0 : Bnd} {s : St} {a : Act} {I : Nat → Prop} {ρ : Nat → RC} {H : Heap} {o : Oper} {K : St → Prop} {Q : Exit → Act → World → Prop} {C : World → Prop}

theorem natI_range {n : Nat} (h : n ≤ 9223372036854775807) : IntKind.i64.min ≤ (n : Int) ∧ (n : Int) ≤ IntKind.i64.max := i64_range (by omega)

theorem run_len_sl {t eid : TypeId} (hu : P.underlying t = some (.slice eid)) (ty : TypeId) (A : Option Addr) (n c : Nat) : (Builtin.len_ #[t] ty #[.slice A n c]).run P w = .ok (.int .i64 n) w := by
  simp [Builtin.len_, run_underlying hu, goInt]

theorem exec_builtin {b : Builtin} {args : Array Operand} {ts : Array TypeId} (ho : o.op = .call { callee := .builtin b, args := args, argTypes := ts }) :
    ∃ cs, ∀ w, (execOp a.eval o).run P w = (builtin b ts o.type cs (args.map a.eval)).run P w := by
  unfold execOp
  rw [ho]
  simp only [resolve, Sem.run_bind, Sem.run_pure, Result.andThen_ok, invoke]
  exact ⟨_, fun _ => rfl⟩

theorem ok_len {x : Operand} {t : TypeId} (τ : Env) (G : Gam) (hE : EnvOk P τ) (h : Inv w0 F0 s a w I ρ) (ho : o.op = .call { callee := .builtin .len, args := #[x], argTypes := #[t] }) (hs : sat (stepOp Alg.std τ G o s) (fun _ s' => K s')) :
    Quiet P o a C (fun a' => Post w0 F0 K a' w) := by
  have hv := h.ev x
  simp only [stepOp, ho] at hs
  split at hs
  · rename_i T hT
    unfold lenOp at hs
    split at hs
    · rename_i t' xs hx
      rw [hx] at hv
      split at hs
      · rename_i e xs
        split at hs
        · rename_i e2
          obtain ⟨eid, hun, _⟩ := TyF.sl (hE.ty t _ hT)
          obtain ⟨A, c, hu, hl, _, _⟩ := hv.sl_inv
          refine ok_done (u := .int .i64 (List.length xs)) h ?_ (VR.int (natI_range hl)) hs
          intro w' _
          obtain ⟨bc, hbc⟩ := exec_builtin (P := P) (a := a) ho
          rw [hbc]
          simp [builtin, hu, run_len_sl hun]
        · exact hs.elim
      · rename_i xs
        split at hs
        · obtain ⟨b, hb, rfl, hl⟩ := hv.str_inv
          have hlen : (b.data.toList.map fun b => (b.toNat : Int)).length = b.size := by rw [List.length_map]; exact Array.length_toList
          refine ok_done (u := .int .i64 b.size) h ?_ (v := .dat (.int .i64) (Alg.std.natI (Alg.std.lenL (b.data.toList.map fun b => (b.toNat : Int))))) ?_ hs
          · intro w' _
            obtain ⟨bc, hbc⟩ := exec_builtin (P := P) (a := a) ho
            rw [hbc]
            simp [builtin, hb, Builtin.len_, run_underlying (hE.ty t _ hT).2, goInt]
          · have : Alg.std.natI (Alg.std.lenL (b.data.toList.map fun b => (b.toNat : Int))) = (b.size : Int) := by simp only [Alg.std]; rw [hlen]
            rw [this]
            exact VR.int (natI_range hl)
        · exact hs.elim
      · exact hs.elim
    · rename_i e r ver p lo n hx
      rw [hx] at hv
      split at hs
      · obtain ⟨eid, hun, _⟩ := TyF.sl (hE.ty t _ hT)
        cases hu : a.eval x <;> rw [hu] at hv <;> cases hv
        rename_i A c hrl hn hnc hc
        refine ok_done (u := .int .i64 n) h ?_ (VR.int (natI_range hn)) hs
        intro w' _
        obtain ⟨bc, hbc⟩ := exec_builtin (P := P) (a := a) ho
        rw [hbc]
        simp [builtin, hu, run_len_sl hun]
      · exact hs.elim
    · rename_i hx
      rw [hx] at hv
      split at hs
      · obtain ⟨eid, hun, _⟩ := TyF.sl (hE.ty t _ hT)
        cases hu : a.eval x <;> rw [hu] at hv <;> cases hv
        refine ok_done (u := .int .i64 0) h ?_ (VR.int (natI_range (n := 0) (by omega))) hs
        intro w' _
        obtain ⟨bc, hbc⟩ := exec_builtin (P := P) (a := a) ho
        rw [hbc]
        simp [builtin, hu, run_len_sl hun]
      · exact hs.elim
    · exact hs.elim
  · exact hs.elim

/-! ## Cuts -/
theorem run_bound {v : Value} {k : IntKind} {i : Int} {y : Nat} {c : BoundsCode} (hv : v = .int k i) (h0 : 0 ≤ i) (h1 : i ≤ y) : (Instr.sliceBound v y c).run P w = .ok i.toNat w := by
  subst hv
  simp [Instr.sliceBound, asIntOf, h0, h1]

theorem optI_spec (h : Inv w0 F0 s a w I ρ) {x : Option Operand} {j : Option Int} (hj : optI Alg.std s x = some j) : (x = none ∧ j = none) ∨ ∃ o k n, x = some o ∧ j = some n ∧ a.eval o = .int k n := by
  cases x with
  | none => left; simp [optI] at hj; exact ⟨rfl, hj.symm⟩
  | some o =>
    right
    simp only [optI] at hj
    split at hj
    · rename_i n hn
      cases hj
      obtain ⟨k, hk, _⟩ := (h.ev o).intOf hn
      exact ⟨o, k, n, rfl, rfl, hk⟩
    · cases hj

/-- The bounds of a cut. -/
theorem run_bounds (h : Inv w0 F0 s a w I ρ) {isS : Bool} {lo hi : Option Operand} {jl jh : Option Int} (hl : optI Alg.std s lo = some jl) (hh : optI Alg.std s hi = some jh) {n c : Nat} (hnc : n ≤ c)
    (hb : Alg.std.InS (jl.getD 0) (jh.getD (n : Int)) n) (w' : World) : (Instr.sliceBounds isS n c (lo.map a.eval) (hi.map a.eval) none).run P w' = .ok ((jl.getD 0).toNat, (jh.getD (n : Int)).toNat, c) w' := by
  obtain ⟨h1, h2, h3⟩ := hb
  unfold Instr.sliceBounds
  rcases optI_spec h hl with ⟨rfl, rfl⟩ | ⟨ol, kl, nl, rfl, rfl, hel⟩ <;> rcases optI_spec h hh with ⟨rfl, rfl⟩ | ⟨oh, kh, nh, rfl, rfl, heh⟩
  · simp
  · simp only [Option.getD_some, Option.getD_none] at h1 h2 h3
    have := fun c' => run_bound (P := P) (w := w') (c := c') heh (by omega) (show nh ≤ (c : Int) by omega)
    simp [this]
  · simp only [Option.getD_some, Option.getD_none] at h1 h2 h3
    have := fun c' => run_bound (P := P) (w := w') (c := c') hel (by omega) (show nl ≤ (n : Int) by omega)
    simp [this]
  · simp only [Option.getD_some, Option.getD_none] at h1 h2 h3
    have g1 := fun c' => run_bound (P := P) (w := w') (c := c') heh (by omega) (show nh ≤ (c : Int) by omega)
    have g2 := fun c' => run_bound (P := P) (w := w') (c := c') hel (by omega) (show nl ≤ (nh.toNat : Int) by omega)
    simp [g1, g2]

end
end Go.Vee

set_option linter.unusedSimpArgs false
set_option linter.unusedVariables false
namespace Go.Vee
open Go

section
variable {P : Program} {w0 w : World} {F0 : Bnd} {s : St} {a : Act} {I : Nat → Prop} {ρ : Nat → RC} {H : Heap} {o : Oper} {K : St → Prop} {Q : Exit → Act → World → Prop} {C : World → Prop}

theorem add_add (x : Addr) (i j : Nat) : (x.add i).add j = x.add (i + j) := by
  unfold Addr.add
  by_cases hi : i = 0 <;> by_cases hj : j = 0 <;> simp [hi, hj, Nat.add_assoc]

theorem exec_slice {t : TypeId} {x : Operand} {lo hi : Option Operand} {d : TypeDesc} (ho : o.op = .slice t x lo hi none) (hu : P.underlying t = some d) (hd : ∀ n e, d ≠ .array n e) :
    (execOp a.eval o).run P w = ((Instr.slice t (a.eval x) (lo.map a.eval) (hi.map a.eval) none).run P w).andThen fun v w => .ok (.value v) w := by
  unfold execOp
  rw [ho]
  simp only [Sem.run_bind, Sem.run_pure, Option.map_none]
  congr 1
  unfold Instr.sliceAt
  simp only [Sem.run_bind, run_underlying hu, Result.andThen_ok]

theorem ok_slice {t : TypeId} {x : Operand} {lo hi : Option Operand} (τ : Env) (G : Gam) (hE : EnvOk P τ) (h : Inv w0 F0 s a w I ρ) (ho : o.op = .slice t x lo hi none) (hs : sat (stepOp Alg.std τ G o s) (fun _ s' => K s')) :
    Quiet P o a C (fun a' => Post w0 F0 K a' w) := by
  have hv := h.ev x
  simp only [stepOp, ho] at hs
  split at hs
  · rename_i T jl jh hT hl hh
    unfold cutOp at hs
    split at hs
    · rename_i t' xs hx
      rw [hx] at hv
      split at hs
      · rename_i e xs
        split at hs
        · rename_i hTe
          subst hTe
          obtain ⟨hb, hs⟩ := hs
          obtain ⟨eid, hun, hF, hsz⟩ := TyF.sl (hE.ty t _ hT)
          obtain ⟨A, c, hu, hlen, hlc, hcase⟩ := hv.sl_inv
          have hr := run_bounds (P := P) (isS := true) h hl hh hlc hb
          obtain ⟨h1, h2, h3⟩ := hb
          generalize hL : jl.getD 0 = L at *
          generalize hU : jh.getD (List.length xs : Int) = U at *
          have hU' : jh.getD (Alg.std.natI (Alg.std.lenL xs)) = U := hU
          rw [hU'] at hs h2 h3
          have h3' : U ≤ (List.length xs : Int) := h3
          have hn : (Alg.std.subL xs (Alg.std.toN L) (Alg.std.subN (Alg.std.toN U) (Alg.std.toN L))).length = U.toNat - L.toNat := by
            simp [Alg.std]; omega
          refine ok_done (u := .slice (if c = L.toNat then A else A.map (·.add (L.toNat * e.sz))) (U.toNat - L.toNat) (c - L.toNat)) h ?_ ?_ hs
          · intro w' _; rw [exec_slice ho hun (by intros; simp)]
            simp [Instr.slice, run_underlying hun, hu, hr, run_sizeOf (TyF.base hF)]
          · have : VR w I ρ s.H (.dat (.sl e) (Alg.std.subL xs (Alg.std.toN L) (Alg.std.subN (Alg.std.toN U) (Alg.std.toN L)))) (mkV (.sl e) [.slice (if c = L.toNat then A else A.map (·.add (L.toNat * e.sz))) (U.toNat - L.toNat) (c - L.toNat)]) := by
              refine .dat _ _ _ ⟨by rw [hn]; omega, rfl, _, _, by rw [hn], by rw [hn]; omega, ?_⟩
              by_cases h0 : U.toNat - L.toNat = 0
              · exact .inl (List.eq_nil_of_length_eq_zero (by rw [hn]; exact h0))
              · right
                rcases hcase with rfl | ⟨b, off, arr, et, fr, rfl, hb, hI, hel⟩
                · simp at h3'; omega
                · refine ⟨b, off + L.toNat * e.sz, arr, et, fr, ?_, hb, hI, fun j hj => ?_⟩
                  · rw [if_neg (by omega)]; simp [add_lit']
                  · rw [hn] at hj
                    obtain ⟨g1, g2⟩ := hel (L.toNat + j) (by omega)
                    have e1 : off + L.toNat * e.sz + (j + 1) * e.sz = off + (L.toNat + j + 1) * e.sz := by rw [Nat.add_assoc L.toNat j 1, Nat.add_mul L.toNat]; omega
                    have e2 : off + L.toNat * e.sz + j * e.sz = off + (L.toNat + j) * e.sz := by rw [Nat.add_mul L.toNat]; omega
                    rw [e1, e2]
                    refine ⟨g1, ?_⟩
                    have e3 : (Alg.std.subL xs (Alg.std.toN L) (Alg.std.subN (Alg.std.toN U) (Alg.std.toN L)))[j]'(by rw [hn]; exact hj) = xs[L.toNat + j]'(by omega) := by
                      simp [Alg.std]
                    rw [e3]
                    exact g2
            simpa [mkV, Ty.isAgg] using this
        · exact hs.elim
      · rename_i xs
        split at hs
        · rename_i hTe
          subst hTe
          obtain ⟨hb, hs⟩ := hs
          have hun := (hE.ty t _ hT).2
          obtain ⟨b, hbu, rfl, hlen⟩ := hv.str_inv
          have hml : (b.data.toList.map fun b => (b.toNat : Int)).length = b.size := by rw [List.length_map]; exact Array.length_toList
          have hml' : Alg.std.lenL (b.data.toList.map fun b => (b.toNat : Int)) = b.size := hml
          rw [hml'] at hb hs
          have hr := run_bounds (P := P) (isS := false) h hl hh (Nat.le_refl b.size) hb
          obtain ⟨h1, h2, h3⟩ := hb
          generalize hL : jl.getD 0 = L at *
          generalize hU : jh.getD (b.size : Int) = U at *
          have hU' : jh.getD (Alg.std.natI b.size) = U := hU
          rw [hU'] at hs h2 h3
          refine ok_done (u := .string (b.extract L.toNat U.toNat)) h ?_ ?_ hs
          · intro w' _; rw [exec_slice ho hun (by intros; simp)]
            simp [Instr.slice, run_underlying hun, hbu, hr]
          · refine VR.dat .str _ [.string _] ⟨⟨_, rfl, ?_, ?_⟩, rfl⟩
            · rw [Lib.extract_data]
              simp only [Alg.std, List.map_take, List.map_drop]
            · have : (b.extract L.toNat U.toNat).size ≤ b.size := by
                simp [ByteArray.size_extract]; omega
              omega
        · exact hs.elim
      · exact hs.elim
    · rename_i e r ver p lo' n hx
      rw [hx] at hv
      split at hs
      · rename_i hTe
        subst hTe
        obtain ⟨hb, hs⟩ := hs
        obtain ⟨eid, hun, hF, hsz⟩ := TyF.sl (hE.ty t _ hT)
        cases hu : a.eval x <;> rw [hu] at hv <;> cases hv
        rename_i A c hrl hn hnc hc
        have hr := run_bounds (P := P) (isS := true) h hl hh hnc hb
        obtain ⟨h1, h2, h3⟩ := hb
        generalize hL : jl.getD 0 = L at *
        generalize hU : jh.getD (n : Int) = U at *
        have hU' : jh.getD (Alg.std.natI n) = U := hU
        rw [hU'] at hs h2 h3
        refine ok_done (u := .slice (if c = L.toNat then A else A.map (·.add (L.toNat * e.sz))) (U.toNat - L.toNat) (c - L.toNat)) h ?_ ?_ hs
        · intro w' _; rw [exec_slice ho hun (by intros; simp)]
          simp [Instr.slice, run_underlying hun, hu, hr, run_sizeOf (TyF.base hF)]
        · refine .ref e r ver p _ _ _ _ hrl (by simp [Alg.std]; omega) (by simp [Alg.std]; omega) fun v' e' m xs hg => ?_
          obtain ⟨q1, q2⟩ := hc v' e' m xs hg
          refine ⟨q1, fun hh => ?_⟩
          obtain ⟨B, c0, len, l, g1, g2, g3, g4⟩ := q2 hh
          refine ⟨B, c0, len, l, g1, by simp [Alg.std]; omega, fun hpos => ?_, fun hwh => ?_⟩
          · simp only [Alg.std] at hpos ⊢
            rw [if_neg (by omega), g3 (by omega)]
            cases B with
            | none => rfl
            | some b =>
              simp only [Option.map_some, Option.some.injEq]
              rw [add_add, Nat.add_mul]
          · simp only [Alg.std] at hwh
            have e0 : L.toNat = 0 := by omega
            obtain ⟨rfl, rfl⟩ := g4 ⟨by omega, by omega⟩
            rw [e0]
            refine ⟨?_, by omega⟩
            split
            · rfl
            · cases A <;> simp [Addr.add]
      · exact hs.elim
    · exact hs.elim
  · exact hs.elim

end
end Go.Vee

