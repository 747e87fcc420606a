/-
  A law reads its arguments as data.
-/
import Derived.Test.YtjlojjkfdidkiaaV6
import Derived.ProofKit
import Derived.WalkKit
import Derived.OpenShut
import Derived.ChangeOld
import Derived.Below
import Derived.SizedLaws
import Derived.ShutString
import Derived.Lib.BytesEntry
import Derived.Laws.Externs
import Derived.Shelf.RegionOpenPlain
import Derived.Deep.LoopGhost
import Derived.Deep.RegionLaw
import Derived.Lib.Walk
import Derived.Lib.SliceRun
set_option linter.unusedSimpArgs false
set_option linter.unusedVariables false
namespace Go.Vee
open Go Go.ChangeShapes Go.WideShapes Go.ChangeAt Go.RowKit

theorem optMapM {α β : Type} {f : α → Option β} : ∀ {l : List α} {ys : List β}, l.mapM f = some ys → ys.length = l.length ∧ ∀ (i : Nat) (x : α), l[i]? = some x → ∃ y, f x = some y ∧ ys[i]? = some y
  | [], ys, h => by simp at h; subst h; simp
  | a :: l, ys, h => by
    simp only [List.mapM_cons, Option.bind_eq_bind, Option.bind_eq_some_iff, Option.pure_def, Option.some.injEq] at h
    obtain ⟨y, hy, ys', hys, rfl⟩ := h
    obtain ⟨h1, h2⟩ := optMapM hys
    refine ⟨by simp [h1], fun i x hx => ?_⟩
    cases i with
    | zero => simp at hx; subst hx; exact ⟨y, hy, rfl⟩
    | succ i => simpa using h2 i x (by simpa using hx)

section
variable {P : Program} {H : Type} {enc : TypeId × Value → H} {w : World} {base : Nat} {spare : Nat → Bool} {held : Bool}

/-- Every block that is there. -/
def here (w : World) : Nat → Prop := fun b => b < w.heap.size

theorem cellsOf_sz {t : Ty} {tid : TypeId} (h : TyB P tid t) : P.cellsOf tid = t.sz := by
  obtain ⟨i, hi, h1, _⟩ := h.info
  simp [Program.cellsOf, hi, h1]

/-- Cells that are read lie in one block. -/
theorem cells_seg {a : Addr} {n : Nat} {cs : List Value} (h : w.cells? base a n = some cs) (hn : 0 < n) : a.spot = none ∧ ∃ arr et fr, w.heap[a.block]? = some (.cells arr et fr) ∧ a.off + n ≤ arr.size ∧ cs = seg arr a.off n := by
  unfold World.cells? at h
  split at h
  · obtain ⟨h1, h2⟩ := optMapM h
    simp only [List.length_range] at h1
    have cell : ∀ i, i < n → ∃ v, w.cell? (a.add i) = some v ∧ cs[i]? = some v := fun i hi => h2 i i (by simp [hi])
    obtain ⟨v0, hv0, _⟩ := cell 0 hn
    have ha0 : a.add 0 = a := by simp [Addr.add]
    rw [ha0] at hv0
    unfold World.cell? at hv0
    split at hv0
    · rename_i arr et fr hb
      split at hv0
      · cases hv0
      · rename_i hs
        have hsp : a.spot = none := by cases hh : a.spot <;> simp_all
        obtain ⟨b, off, sp⟩ := a
        simp only at hsp hb
        subst hsp
        have cell' : ∀ i, i < n → ∃ v, arr[off + i]? = some v ∧ cs[i]? = some v := fun i hi => by
          obtain ⟨v, g1, g2⟩ := cell i hi
          rw [add_lit'] at g1
          simp [World.cell?, hb] at g1
          exact ⟨v, g1, g2⟩
        have hsz : off + n ≤ arr.size := by
          obtain ⟨v, g1, _⟩ := cell' (n - 1) (by omega)
          have := (Array.getElem?_eq_some_iff.1 g1).1
          omega
        refine ⟨rfl, arr, et, fr, hb, hsz, ?_⟩
        apply List.ext_getElem?
        intro i
        by_cases hi : i < n
        · obtain ⟨v, g1, g2⟩ := cell' i hi
          rw [g2, seg_get hi, g1]
        · rw [List.getElem?_eq_none (by omega), List.getElem?_eq_none (by rw [seg_length hsz]; omega)]
    · cases hv0
  · cases h

theorem pick_list {α : Type} {n : Nat} {p : Nat → α → Prop} (h : ∀ i, i < n → ∃ y, p i y) : ∃ ys : List α, ys.length = n ∧ ∀ i (hi : i < ys.length), p i ys[i] := by
  induction n with
  | zero => exact ⟨[], rfl, by simp⟩
  | succ n ih =>
    obtain ⟨ys, h1, h2⟩ := ih fun i hi => h i (by omega)
    obtain ⟨y, hy⟩ := h n (by omega)
    refine ⟨ys ++ [y], by simp [h1], fun i hi => ?_⟩
    by_cases hin : i < ys.length
    · rw [List.getElem_append_left hin]; exact h2 i hin
    · have : i = n := by simp [h1] at hi hin; omega
      subst this
      rw [List.getElem_append_right (by omega)]
      simpa [h1] using hy

/-- What reads as data is data. -/
theorem trod_own : ∀ {t : Ty}, (∀ {tid : TypeId} {fuel : Nat} {cs : List Value} {x : DataW H × List MemPlace}, (TyF P t).1 tid → DataW.trod enc P w base spare held fuel tid cs = some x → ∃ y, Own w (here w) t .sh cs y []) ∧
    (∀ {fs : List Field} {fuel off : Nat} {cs : List Value}, (TyF P t).2 fs off → cs.length = off + t.sz → (∀ (i : Nat) (f : Field), fs[i]? = some f → ∃ x, DataW.trod enc P w base spare held fuel f.type ((cs.drop f.offset).take (P.cellsOf f.type)) = some x) → ∃ y, Own w (here w) t .sh (cs.drop off) y [])
  | .int k => by
    refine ⟨fun {tid fuel cs x} hF h => ?_, fun hF => hF.elim⟩
    obtain ⟨n, rfl, _, hw⟩ := DataW.trod_int hF.2 h
    refine ⟨n, rfl, ?_, rfl⟩
    simpa [Lit.wf] using hw
  | .bool => by
    refine ⟨fun {tid fuel cs x} hF h => ?_, fun hF => hF.elim⟩
    obtain ⟨b, rfl, _⟩ := DataW.trod_bool hF.2 h
    exact ⟨b, rfl, rfl⟩
  | .str => by
    refine ⟨fun {tid fuel cs x} hF h => ?_, fun hF => hF.elim⟩
    obtain ⟨s, rfl, _, hs⟩ := DataW.trod_string hF.2 h
    exact ⟨_, ⟨s, rfl, rfl, by simpa [maxLen] using hs⟩, rfl⟩
  | .sl e => by
    refine ⟨fun {tid fuel cs x} hF h => ?_, fun hF => hF.elim⟩
    obtain ⟨_, hsz, eid, hu, hE⟩ := hF
    rcases DataW.trod_slice hu h with ⟨rfl, _⟩ | ⟨a, len, cap, elems, rest, n, _, rfl, _, _, hlc, hcm, hel, helem, _⟩
    · exact ⟨[], Nat.zero_le _, rfl, none, 0, rfl, Nat.le_refl _, .inl rfl⟩
    · have hc := cellsOf_sz (TyF.base hE)
      rw [hc] at helem
      have hone : ∀ i, i < len → ∃ cs x, w.cells? base (a.add (i * e.sz)) e.sz = some cs ∧ DataW.trod enc P w base spare held n eid cs = some x := fun i hi => by
        have := helem i hi
        have hx : elems[i]? = some (elems[i]'(by omega)) := by simp
        rw [hx, Option.bind_eq_some_iff] at this
        obtain ⟨cs, h1, h2⟩ := this
        exact ⟨cs, _, h1, h2⟩
      have hlen : len ≤ 9223372036854775807 := by simp only [maxLen] at hcm; omega
      by_cases h0 : len = 0
      · subst h0
        exact ⟨[], Nat.zero_le _, rfl, some a, cap, rfl, Nat.zero_le _, .inl rfl⟩
      · obtain ⟨cs0, x0, g1, _⟩ := hone 0 (by omega)
        have ha0 : a.add (0 * e.sz) = a := by simp [Addr.add]
        rw [ha0] at g1
        obtain ⟨hsp, arr, et, fr, hb, _, _⟩ := cells_seg g1 hsz
        obtain ⟨b, off, sp⟩ := a
        simp only at hsp hb
        subst hsp
        have hall : ∀ i, i < len → ∃ y, off + (i + 1) * e.sz ≤ arr.size ∧ Own w (here w) e .sh (seg arr (off + i * e.sz) e.sz) y [] := fun i hi => by
          obtain ⟨cs, x, k1, k2⟩ := hone i hi
          rw [add_lit'] at k1
          obtain ⟨_, arr', et', fr', hb', hin, rfl⟩ := cells_seg k1 hsz
          rw [hb] at hb'
          cases hb'
          obtain ⟨y, hy⟩ := (trod_own (t := e)).1 hE k2
          exact ⟨y, by rw [Nat.add_mul, Nat.one_mul]; simp only at hin; omega, hy⟩
        obtain ⟨ys, hl, hys⟩ := pick_list hall
        refine ⟨ys, by rw [hl]; exact hlen, rfl, some ⟨b, off, none⟩, cap, by rw [hl], by rw [hl]; exact hlc, .inr ⟨b, off, arr, et, fr, rfl, hb, (Array.getElem?_eq_some_iff.1 hb).1, fun j hj => hys j hj⟩⟩
  | .unit => by
    refine ⟨fun {tid fuel cs x} hF h => ?_, fun {fs fuel off cs} hF hl h => ?_⟩
    · obtain ⟨hB, fs, hu, hfs⟩ := hF
      obtain ⟨xs, n, _, _, hl, _⟩ := DataW.trod_struct hu h
      rw [cellsOf_sz hB] at hl
      have : cs = [] := List.eq_nil_of_length_eq_zero hl
      subst this
      exact ⟨(), rfl, rfl⟩
    · simp only [Ty.sz, Nat.add_zero] at hl
      rw [List.drop_eq_nil_of_le (by omega)]
      exact ⟨(), rfl, rfl⟩
  | .pair a b => by
    have hF2 : ∀ {fs : List Field} {fuel off : Nat} {cs : List Value}, (TyF P (.pair a b)).2 fs off → cs.length = off + (Ty.pair a b).sz → (∀ (i : Nat) (f : Field), fs[i]? = some f → ∃ x, DataW.trod enc P w base spare held fuel f.type ((cs.drop f.offset).take (P.cellsOf f.type)) = some x) → ∃ y, Own w (here w) (.pair a b) .sh (cs.drop off) y [] := by
      intro fs fuel off cs hF hl h
      obtain ⟨f, rest, rfl, h1, h2, h3, h4⟩ := hF
      simp only [Ty.sz] at hl
      obtain ⟨x, hx⟩ := h 0 f rfl
      rw [h1, cellsOf_sz (TyF.base h3)] at hx
      obtain ⟨y1, o1⟩ := (trod_own (t := a)).1 h3 hx
      obtain ⟨y2, o2⟩ := (trod_own (t := b)).2 (cs := cs) h4 (by omega) (fun i f hf => h (i + 1) f (by simpa using hf))
      refine ⟨(y1, y2), (cs.drop off).take a.sz, cs.drop (off + a.sz), [], [], ?_, rfl, o1, o2⟩
      rw [← List.drop_drop, List.take_append_drop]
    refine ⟨fun {tid fuel cs x} hF h => ?_, hF2⟩
    obtain ⟨hB, fs, hu, hfs⟩ := hF
    obtain ⟨xs, n, _, _, hl, hxl, hx⟩ := DataW.trod_struct hu h
    rw [cellsOf_sz hB] at hl
    obtain ⟨y, hy⟩ := hF2 (fs := fs.toList) (fuel := n) (off := 0) (cs := cs) hfs (by omega) (fun i f hf => by
      have hi : i < fs.size := by have := (List.getElem?_eq_some_iff.1 hf).1; simpa using this
      have := hx i f (by simpa using hf)
      have hxi : xs[i]? = some (xs[i]'(by omega)) := by simp
      rw [hxi] at this
      exact ⟨_, this⟩)
    exact ⟨y, by simpa using hy⟩

/-- An argument that reads as data, as the walk wants it. -/
theorem arg_of_trod {t : Ty} {tid : TypeId} {r : Reach} {b0 : Nat} {v : Value} {d : DataW H} {ps : List MemPlace} (hF : (TyF P t).1 tid) (hval : Value.okWide P w r b0 tid v) (h : DataW.Trod enc P w base spare held tid v d ps) : ∃ x, AR w (here w) (.dat t x) v := by
  obtain ⟨fuel, hf⟩ := h
  obtain ⟨y, hy⟩ := (trod_own (t := t)).1 hF hf
  refine ⟨y, ?_⟩
  have key : v = mkV t v.cells.toList := by
    cases t with
    | int k => obtain ⟨hc, _⟩ := hy; simp [mkV, Ty.isAgg, hc]; simp [Value.okWide, hF.2, Cell.okWide, Cell.ok] at hval; cases v <;> simp_all [Value.cells]
    | bool => obtain ⟨b, rfl⟩ := okWide_bool hF.2 hval; rfl
    | str => obtain ⟨s, rfl⟩ := okWide_string hF.2 hval; rfl
    | sl e => obtain ⟨_, _, eid, hu, _⟩ := hF; obtain ⟨A, l, c, rfl⟩ := okWide_slice hu hval; rfl
    | unit => obtain ⟨_, fs, hu, _⟩ := hF; obtain ⟨cs, rfl, _⟩ := okWide_struct hu hval; simp [mkV, Ty.isAgg, Value.cells]
    | pair a b => obtain ⟨_, fs, hu, _⟩ := hF; obtain ⟨cs, rfl, _⟩ := okWide_struct hu hval; simp [mkV, Ty.isAgg, Value.cells]
  have := VR.dat (ρ := ρ0) (H := []) t y v.cells.toList hy
  rwa [← key] at this

end

/-- A law: its contract on data, said of the call. -/
theorem law_calls {P : Program} {f : Nat} {al : List AV} {pre : List Prop} {w : World} {us : List Value} (hen : Enters P f) (hct : Ct P f al ⟨pre, [⟨.bool, .sh, true⟩], []⟩) (hpre : ∀ p ∈ pre, p) (hl : al.length = us.length)
    (ha : ∀ (i : Nat) (v : AV) (u : Value), al[i]? = some v → us[i]? = some u → AR w (here w) v u) : Calls P f us.toArray w fun e w' => e = .returned (.bool true) ∧ Below w.heap.size w w' := by
  have h := CtS.call (vm := []) (al := al) (um := []) (us := us) (fpm := []) (w := w) (J := here w) (Ct.to hct hpre) rfl rfl (by simp) hl ha (by simp) (by simp) (fun _ h => h)
  unfold CallN at h
  rw [List.nil_append, hen] at h
  refine Calls.mono h fun e w' hb => ?_
  obtain ⟨_, rfl, us', I', fps, fpb, rfl, hk, hout, _⟩ := hb
  have hlen := hout.len
  match us', hlen with
  | [u], _ =>
    obtain ⟨cs, e1, e2⟩ := (OutOk.dat rfl).1 (hout.at_ 0 _ u rfl rfl)
    obtain ⟨rfl, _⟩ := e2
    refine ⟨by rw [e1]; rfl, ⟨hk.os, hk.tape, hk.output, hk.size, fun k hk' => hk.block k hk' (fun h => by simp at h)⟩⟩

end Go.Vee

set_option linter.unusedSimpArgs false
set_option linter.unusedVariables false
namespace Go.Vee
open Go

/-- The order of two texts. -/
def ordB : List Int → List Int → Int
  | [], [] => 0
  | [], _ :: _ => -1
  | _ :: _, [] => 1
  | x :: a, y :: b => if x < y then -1 else if y < x then 1 else ordB a b

theorem ofNat_lt {x y : Int} (hx : 0 ≤ x ∧ x ≤ 255) (hy : 0 ≤ y ∧ y ≤ 255) : UInt8.ofNat x.toNat < UInt8.ofNat y.toNat ↔ x < y := by
  rw [UInt8.lt_iff_toNat_lt, UInt8.toNat_ofNat', UInt8.toNat_ofNat']
  omega

theorem compareBytes_ord : ∀ (a b : List Int), (∀ x ∈ a, 0 ≤ x ∧ x ≤ 255) → (∀ x ∈ b, 0 ≤ x ∧ x ≤ 255) → Lib.compareBytes (Lib.bytesOf a) (Lib.bytesOf b) = ordB a b
  | [], [], _, _ => rfl
  | [], _ :: _, _, _ => rfl
  | _ :: _, [], _, _ => rfl
  | x :: a, y :: b, ha, hb => by
    have h1 := ofNat_lt (ha x (by simp)) (hb y (by simp))
    have h2 := ofNat_lt (hb y (by simp)) (ha x (by simp))
    have ih := compareBytes_ord a b (fun z hz => ha z (by simp [hz])) (fun z hz => hb z (by simp [hz]))
    show (if UInt8.ofNat x.toNat < UInt8.ofNat y.toNat then (-1 : Int) else if UInt8.ofNat y.toNat < UInt8.ofNat x.toNat then 1 else Lib.compareBytes (Lib.bytesOf a) (Lib.bytesOf b)) = if x < y then -1 else if y < x then 1 else ordB a b
    rw [ih]
    simp only [h1, h2]

theorem ordB_range : ∀ (a b : List Int), -1 ≤ ordB a b ∧ ordB a b ≤ 1
  | [], [] => by simp [ordB]
  | [], _ :: _ => by simp [ordB]
  | _ :: _, [] => by simp [ordB]
  | x :: a, y :: b => by
    have := ordB_range a b
    unfold ordB
    split
    · omega
    · split <;> omega

theorem run_bytes_dat {P : Program} {w : World} {I : Nat → Prop} {xs : List Int} {u : Value} (h : AR w I (.dat (.sl (.int .u8)) xs) u) : (Extern.Bytes.bytesOf u).run P w = .ok ⟨(Lib.bytesOf xs).toArray⟩ w ∧ ∀ x ∈ xs, 0 ≤ x ∧ x ≤ 255 := by
  obtain ⟨A, c, rfl, h1, h2, h3⟩ := VR.sl_inv h
  rcases h3 with rfl | ⟨b, off, arr, et, fr, rfl, hb, _, hc⟩
  · refine ⟨?_, by simp⟩
    cases A with
    | none => rfl
    | some ad => rfl
  · have hj : ∀ j (hj : j < xs.length), arr[off + j]? = some (.int .u8 xs[j]) ∧ 0 ≤ xs[j] ∧ xs[j] ≤ 255 := fun j hj => by
      obtain ⟨g1, g2, g3, _⟩ := hc j hj
      simp only [Ty.sz, Nat.mul_one] at g1 g2
      have : (seg arr (off + j) 1)[0]? = some (.int .u8 xs[j]) := by rw [g2]; rfl
      rw [seg_get (by omega)] at this
      exact ⟨by simpa using this, g3⟩
    refine ⟨?_, fun x hx => ?_⟩
    · have hl := Lib.run_loadBytesX (P := P) w xs ⟨b, off, none⟩ .empty (fun j x hx => by
        obtain ⟨hlt, rfl⟩ := List.getElem?_eq_some_iff.1 hx
        rw [add_lit']
        simp only [World.cell?, hb]
        have := (hj j hlt).1
        simpa using this)
      show (Extern.Bytes.loadBytes ⟨b, off, none⟩ xs.length .empty).run P w = _
      rw [hl]
      congr 1
      apply ByteArray.ext
      show (#[] : Array UInt8) ++ (Lib.bytesOf xs).toArray = (Lib.bytesOf xs).toArray
      simp
    · obtain ⟨j, hlt, rfl⟩ := List.mem_iff_getElem.1 hx
      exact (hj j hlt).2

/-- The function without a body that tells the order of two texts. -/
theorem ct_compare {P : Program} {f : FuncId} {fn : Func} (hf : P.funcs[f]? = some fn) (hname : (fn.name == "runtime.NumGoroutine") = false)
    (hb : fn.body.isNone = true) (hn : Extern.findNext fn = none) (he : Extern.find fn = some Extern.BytealgCompare.compare) (a b : List Int) (pre : List Prop) :
    Ct P f [.dat (.sl (.int .u8)) a, .dat (.sl (.int .u8)) b] ⟨pre, [⟨.int .i64, .sh, ordB a b⟩], []⟩ := by
  intro w I us fps _ hlen hfl hargs _ _ hI
  match us, hlen with
  | [u1, u2], _ =>
    have a1 := (hargs 0 _ u1 rfl rfl).1
    have a2 := (hargs 1 _ u2 rfl rfl).1
    obtain ⟨r1, k1⟩ := run_bytes_dat (P := P) a1
    obtain ⟨r2, k2⟩ := run_bytes_dat (P := P) a2
    unfold CallN
    rw [run_callFunc_extern hf hname hb hn he]
    have hr : (Extern.BytealgCompare.compare [u1, u2].toArray).run P w = .ok (.int .i64 (ordB a b)) w := by
      change Sem.run P (do pure (goInt (Extern.BytealgCompare.cmp (← Extern.Bytes.bytesOf u1) (← Extern.Bytes.bytesOf u2)))) w = _
      simp only [Sem.run_bind, Sem.run_pure, r1, r2, Result.andThen]
      rw [Lib.cmp_eq, ← compareBytes_ord a b k1 k2]
      rfl
    rw [hr]
    have hrg := ordB_range a b
    refine ⟨[.int .i64 (ordB a b)], I, [[]], [], rfl, Keeps.refl _ _, ⟨rfl, rfl, fun i o u ho hu => ?_⟩, ⟨rfl, fun i v u hv hu => by simp at hv⟩, by simp, by simp, fun _ h => h, fun b hb => ⟨hI b hb, .inl hb⟩⟩
    match i with
    | 0 =>
      cases ho; cases hu
      exact ⟨_, rfl, rfl, ⟨by show (-9223372036854775808 : Int) ≤ ordB a b; omega, by show ordB a b ≤ (9223372036854775807 : Int); omega⟩, rfl⟩
    | i + 1 => simp at ho
theorem ok_compare {P : Program} {f : FuncId} {fn : Func} (hf : P.funcs[f]? = some fn) (hname : (fn.name == "runtime.NumGoroutine") = false)
    (hb : fn.body.isNone = true) (hn : Extern.findNext fn = none) (he : Extern.find fn = some Extern.BytealgCompare.compare) (Q : List Int → List Int → Prop) (F : List Int → List Int → Int) (hF : ∀ a b, F a b = ordB a b) :
    ConOk P f ⟨false, g2 (pD (.sl (.int .u8))) (pD (.sl (.int .u8))) fun a b => .one ⟨[Q a b], [⟨.int .i64, .sh, F a b⟩], []⟩, [], false, 0⟩ :=
  ⟨fun al r hr => by
    obtain ⟨x, y, rfl, rfl⟩ := g2_some hr
    rw [hF]
    exact ct_compare hf hname hb hn he x y _, fun h => by cases h⟩
end Go.Vee

set_option linter.unusedSimpArgs false
set_option linter.unusedVariables false
namespace Go.Vee
open Go

end Go.Vee
namespace Go.Vee
open Go
end Go.Vee
namespace Go.Vee
open Go
theorem Ct.never {P : Program} {f : FuncId} {al : List AV} {pre : List Prop} {outs : List ((t : Ty) × Md × t.den)} {backs : List AV} (h : ¬ ∀ p ∈ pre, p) : Ct P f al ⟨pre, outs, backs⟩ := fun _ _ _ _ hp => absurd hp h
theorem Ct.pre {P : Program} {f : FuncId} {al : List AV} {p1 p2 : List Prop} {outs : List ((t : Ty) × Md × t.den)} {backs : List AV} (h : Ct P f al ⟨p1, outs, backs⟩) (hp : (∀ p ∈ p2, p) → ∀ p ∈ p1, p) : Ct P f al ⟨p2, outs, backs⟩ :=
  fun w I us fps h2 => h w I us fps (hp h2)
def sortI (l : List Int) : List Int := l.mergeSort fun x y => decide (x ≤ y)
end Go.Vee

