import Derived.Test.YtcdlgemhmmkneaaVG3
import Derived.Laws.Entries
set_option linter.unusedSimpArgs false
set_option linter.unusedVariables false
namespace Go.Vee
open Go

/-! ## What the program says of types -/
def zeroCs : Ty → List Value
  | .int k => [.int k 0]
  | .bool => [.bool false]
  | .str => [.string .empty]
  | .sl _ => [.slice none 0 0]
  | .unit => []
  | .pair a b => zeroCs a ++ zeroCs b

theorem zeroCs_length : ∀ t : Ty, (zeroCs t).length = t.sz
  | .int _ | .bool | .str | .sl _ | .unit => rfl
  | .pair a b => by simp [zeroCs, Ty.sz, zeroCs_length a, zeroCs_length b]

def TyB (P : Program) (tid : TypeId) (t : Ty) : Prop := (P.info? tid).map (fun i => (i.size, i.zero)) = some (t.sz, some (mkV t (zeroCs t))) ∧ ((P.info? tid).map (·.bytes)).getD 0 ≤ t.bnd

def TyF (P : Program) : Ty → (TypeId → Prop) × (List Field → Nat → Prop)
  | .int k => (fun tid => TyB P tid (.int k) ∧ P.underlying tid = some (.int k), fun _ _ => False)
  | .bool => (fun tid => TyB P tid .bool ∧ P.underlying tid = some .bool, fun _ _ => False)
  | .str => (fun tid => TyB P tid .str ∧ P.underlying tid = some .string, fun _ _ => False)
  | .sl e => (fun tid => TyB P tid (.sl e) ∧ 0 < e.sz ∧ ∃ eid, P.underlying tid = some (.slice eid) ∧ (TyF P e).1 eid, fun _ _ => False)
  | .unit => (fun tid => TyB P tid .unit ∧ ∃ fs, P.underlying tid = some (.struct fs) ∧ fs.toList = [], fun fs _ => fs = [])
  | .pair a b =>
    let F := fun (fs : List Field) (off : Nat) => ∃ f rest, fs = f :: rest ∧ f.offset = off ∧ 0 < a.sz ∧ (TyF P a).1 f.type ∧ (TyF P b).2 rest (off + a.sz)
    (fun tid => TyB P tid (.pair a b) ∧ ∃ fs, P.underlying tid = some (.struct fs) ∧ F fs.toList 0, F)

theorem TyF.base {P : Program} {t : Ty} {tid : TypeId} (h : (TyF P t).1 tid) : TyB P tid t := by cases t <;> exact h.1

structure EnvOk (P : Program) (τ : Env) : Prop where
  ty : ∀ tid t, τ.ty tid = some t → (TyF P t).1 tid

theorem TyB.info {P : Program} {t : Ty} {tid : TypeId} (h : TyB P tid t) : ∃ i, P.info? tid = some i ∧ i.size = t.sz ∧ i.zero = some (mkV t (zeroCs t)) ∧ i.bytes ≤ t.bnd := by
  obtain ⟨h1, h2⟩ := h
  cases hi : P.info? tid with
  | none => simp [hi] at h1
  | some i =>
    simp only [hi, Option.map_some, Option.some.injEq, Prod.mk.injEq, Option.getD_some] at h1 h2
    exact ⟨i, rfl, h1.1, h1.2, h2⟩

theorem run_sizeOf {P : Program} {t : Ty} {tid : TypeId} (h : TyB P tid t) (w : World) : (sizeOf tid).run P w = .ok t.sz w := by
  obtain ⟨i, hi, h1, _⟩ := h.info
  simp [sizeOf, typeInfo, hi, h1]

theorem run_zeroValue {P : Program} {t : Ty} {tid : TypeId} (h : TyB P tid t) (w : World) : (zeroValue tid).run P w = .ok (mkV t (zeroCs t)) w := by
  obtain ⟨i, hi, _, h1, _⟩ := h.info
  simp [zeroValue, typeInfo, hi, h1]

theorem run_isAgg {P : Program} {t : Ty} {tid : TypeId} (h : (TyF P t).1 tid) (w : World) : (isAgg tid).run P w = .ok t.isAgg w := by
  cases t with
  | int k => simp [isAgg, run_underlying h.2, Ty.isAgg]
  | bool => simp [isAgg, run_underlying h.2, Ty.isAgg]
  | str => simp [isAgg, run_underlying h.2, Ty.isAgg]
  | sl e => obtain ⟨_, _, eid, hu, _⟩ := h; simp [isAgg, run_underlying hu, Ty.isAgg]
  | unit => obtain ⟨_, fs, hu, _⟩ := h; simp [isAgg, run_underlying hu, Ty.isAgg]
  | pair a b => obtain ⟨_, fs, hu, _⟩ := h; simp [isAgg, run_underlying hu, Ty.isAgg]

theorem isAgg_sz {t : Ty} (h : t.isAgg = false) : t.sz = 1 := by cases t <;> simp_all [Ty.isAgg, Ty.sz]

theorem mkV_cells {t : Ty} {cs : List Value} (hl : cs.length = t.sz) (h1 : ∀ u ∈ cs, u.oneCell' = true) : (mkV t cs).cells = cs.toArray := by
  unfold mkV
  by_cases h : t.isAgg = true
  · simp [h, Value.cells]
  · have hs := isAgg_sz (by simpa using h)
    match cs, hl with
    | [c], _ =>
      have := h1 c (by simp)
      simp only [h, Bool.false_eq_true, if_false, List.headD_cons]
      cases c <;> simp_all [Value.cells, Value.oneCell']
    | [], hl => simp [hs] at hl
    | _ :: _ :: _, hl => simp [hs] at hl

/-! ## Memory -/
theorem add_lit' (b off j : Nat) : (⟨b, off, none⟩ : Addr).add j = ⟨b, off + j, none⟩ := by unfold Addr.add; split <;> simp_all

theorem run_loadVar' {P : Program} {t : Ty} {tid : TypeId} (h : (TyF P t).1 tid) {w : World} {b off : Nat} {arr : Array Value} {et : TypeId} {fr : Nat × Nat} (hb : w.heap[b]? = some (.cells arr et fr)) (hs : off + t.sz ≤ arr.size) :
    (loadVar tid ⟨b, off, none⟩).run P w = .ok (mkV t (seg arr off t.sz)) w := by
  have hcell : ∀ j v, (seg arr off t.sz)[j]? = some v → w.cell? ((⟨b, off, none⟩ : Addr).add j) = some v := fun j v hj => by
    have hlt : j < t.sz := by have := (List.getElem?_eq_some_iff.1 hj).1; rw [seg_length hs] at this; exact this
    rw [seg_get hlt] at hj
    rw [add_lit']
    simp [World.cell?, hb, hj]
  unfold loadVar mkV
  simp only [Sem.run_bind, run_isAgg h, Result.andThen_ok]
  by_cases ha : t.isAgg = true
  · have := run_loadCells_list (P := P) w ⟨b, off, none⟩ (seg arr off t.sz) hcell
    rw [seg_length hs] at this
    simp [ha, run_sizeOf (TyF.base h), this]
  · have hs1 := isAgg_sz (by simpa using ha)
    have hlen := seg_length hs
    match hseg : seg arr off t.sz, hlen with
    | [c], _ =>
      have := hcell 0 c (by simp [hseg])
      simp only [Addr.add, if_true] at this
      simp [ha, this]
    | [], hl => simp [hs1] at hl
    | _ :: _ :: _, hl => simp [hs1] at hl

theorem run_storeVar' {P : Program} {t : Ty} {tid : TypeId} (h : TyB P tid t) {w : World} {b off : Nat} {arr : Array Value} {et : TypeId} (hb : w.heap[b]? = some (.cells arr et (0, 0))) {v : Value} {us : List Value}
    (hv : v.cells = us.toArray) (hl : us.length = t.sz) (h1 : ∀ u ∈ us, u.oneCell' = true) (hs : off + us.length ≤ arr.size) :
    (storeVar tid ⟨b, off, none⟩ v).run P w = .ok () (w.setRow b (lay arr off us)) := by
  have hst := run_storeCells_at P b off et us 0 arr w hb (by simpa using hs) h1
  simp only [Nat.add_zero] at hst
  simp [storeVar, run_sizeOf h, hv, hl, hst, lay]

theorem heap_push_alloc (w : World) (o : Obj) : ({ w with heap := w.heap.push o } : World) = w.alloc o := rfl

end Go.Vee
