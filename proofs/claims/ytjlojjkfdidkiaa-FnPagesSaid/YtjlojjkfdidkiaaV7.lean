/-
  A law reads its arguments as data.
-/
import Derived.Test.YtjlojjkfdidkiaaV6
import Derived.ProofKit
import Derived.WalkKit
import Derived.OpenShut
import Derived.ChangeOld
import Derived.Below
import Derived.SizedLaws
import Derived.ShutString
import Derived.Lib.BytesEntry
import Derived.Laws.Externs
import Derived.Shelf.RegionOpenPlain
import Derived.Deep.LoopGhost
import Derived.Deep.RegionLaw
import Derived.Lib.Walk
import Derived.Lib.SliceRun
set_option linter.unusedSimpArgs false
set_option linter.unusedVariables false
namespace Go.Vee
open Go Go.ChangeShapes Go.WideShapes Go.ChangeAt Go.RowKit

theorem optMapM {α β : Type} {f : α → Option β} : ∀ {l : List α} {ys : List β}, l.mapM f = some ys → ys.length = l.length ∧ ∀ (i : Nat) (x : α), l[i]? = some x → ∃ y, f x = some y ∧ ys[i]? = some y
  | [], ys, h => by simp at h; subst h; simp
  | a :: l, ys, h => by
    simp only [List.mapM_cons, Option.bind_eq_bind, Option.bind_eq_some_iff, Option.pure_def, Option.some.injEq] at h
    obtain ⟨y, hy, ys', hys, rfl⟩ := h
    obtain ⟨h1, h2⟩ := optMapM hys
    refine ⟨by simp [h1], fun i x hx => ?_⟩
    cases i with
    | zero => simp at hx; subst hx; exact ⟨y, hy, rfl⟩
    | succ i => simpa using h2 i x (by simpa using hx)

section
variable {P : Program} {H : Type} {enc : TypeId × Value → H} {w : World} {base : Nat} {spare : Nat → Bool} {held : Bool}

/-- Every block that is there. -/
def here (w : World) : Nat → Prop := fun b => b < w.heap.size

theorem cellsOf_sz {t : Ty} {tid : TypeId} (h : TyB P tid t) : P.cellsOf tid = t.sz := by
  obtain ⟨i, hi, h1, _⟩ := h.info
  simp [Program.cellsOf, hi, h1]

/-- Cells that are read lie in one block. -/
theorem cells_seg {a : Addr} {n : Nat} {cs : List Value} (h : w.cells? base a n = some cs) (hn : 0 < n) : a.spot = none ∧ ∃ arr et fr, w.heap[a.block]? = some (.cells arr et fr) ∧ a.off + n ≤ arr.size ∧ cs = seg arr a.off n := by
  unfold World.cells? at h
  split at h
  · obtain ⟨h1, h2⟩ := optMapM h
    simp only [List.length_range] at h1
    have cell : ∀ i, i < n → ∃ v, w.cell? (a.add i) = some v ∧ cs[i]? = some v := fun i hi => h2 i i (by simp [hi])
    obtain ⟨v0, hv0, _⟩ := cell 0 hn
    have ha0 : a.add 0 = a := by simp [Addr.add]
    rw [ha0] at hv0
    unfold World.cell? at hv0
    split at hv0
    · rename_i arr et fr hb
      split at hv0
      · cases hv0
      · rename_i hs
        have hsp : a.spot = none := by cases hh : a.spot <;> simp_all
        obtain ⟨b, off, sp⟩ := a
        simp only at hsp hb
        subst hsp
        have cell' : ∀ i, i < n → ∃ v, arr[off + i]? = some v ∧ cs[i]? = some v := fun i hi => by
          obtain ⟨v, g1, g2⟩ := cell i hi
          rw [add_lit'] at g1
          simp [World.cell?, hb] at g1
          exact ⟨v, g1, g2⟩
        have hsz : off + n ≤ arr.size := by
          obtain ⟨v, g1, _⟩ := cell' (n - 1) (by omega)
          have := (Array.getElem?_eq_some_iff.1 g1).1
          omega
        refine ⟨rfl, arr, et, fr, hb, hsz, ?_⟩
        apply List.ext_getElem?
        intro i
        by_cases hi : i < n
        · obtain ⟨v, g1, g2⟩ := cell' i hi
          rw [g2, seg_get hi, g1]
        · rw [List.getElem?_eq_none (by omega), List.getElem?_eq_none (by rw [seg_length hsz]; omega)]
    · cases hv0
  · cases h

theorem pick_list {α : Type} {n : Nat} {p : Nat → α → Prop} (h : ∀ i, i < n → ∃ y, p i y) : ∃ ys : List α, ys.length = n ∧ ∀ i (hi : i < ys.length), p i ys[i] := by
  induction n with
  | zero => exact ⟨[], rfl, by simp⟩
  | succ n ih =>
    obtain ⟨ys, h1, h2⟩ := ih fun i hi => h i (by omega)
    obtain ⟨y, hy⟩ := h n (by omega)
    refine ⟨ys ++ [y], by simp [h1], fun i hi => ?_⟩
    by_cases hin : i < ys.length
    · rw [List.getElem_append_left hin]; exact h2 i hin
    · have : i = n := by simp [h1] at hi hin; omega
      subst this
      rw [List.getElem_append_right (by omega)]
      simpa [h1] using hy

/-- What reads as data is data. -/
theorem trod_own : ∀ {t : Ty}, (∀ {tid : TypeId} {fuel : Nat} {cs : List Value} {x : DataW H × List MemPlace}, (TyF P t).1 tid → DataW.trod enc P w base spare held fuel tid cs = some x → ∃ y, Own w (here w) t .sh cs y []) ∧
    (∀ {fs : List Field} {fuel off : Nat} {cs : List Value}, (TyF P t).2 fs off → cs.length = off + t.sz → (∀ (i : Nat) (f : Field), fs[i]? = some f → ∃ x, DataW.trod enc P w base spare held fuel f.type ((cs.drop f.offset).take (P.cellsOf f.type)) = some x) → ∃ y, Own w (here w) t .sh (cs.drop off) y [])
  | .int k => by
    refine ⟨fun {tid fuel cs x} hF h => ?_, fun hF => hF.elim⟩
    obtain ⟨n, rfl, _, hw⟩ := DataW.trod_int hF.2 h
    refine ⟨n, rfl, ?_, rfl⟩
    simpa [Lit.wf] using hw
  | .bool => by
    refine ⟨fun {tid fuel cs x} hF h => ?_, fun hF => hF.elim⟩
    obtain ⟨b, rfl, _⟩ := DataW.trod_bool hF.2 h
    exact ⟨b, rfl, rfl⟩
  | .str => by
    refine ⟨fun {tid fuel cs x} hF h => ?_, fun hF => hF.elim⟩
    obtain ⟨s, rfl, _, hs⟩ := DataW.trod_string hF.2 h
    exact ⟨_, ⟨s, rfl, rfl, by simpa [maxLen] using hs⟩, rfl⟩
  | .sl e => by
    refine ⟨fun {tid fuel cs x} hF h => ?_, fun hF => hF.elim⟩
    obtain ⟨_, hsz, eid, hu, hE⟩ := hF
    rcases DataW.trod_slice hu h with ⟨rfl, _⟩ | ⟨a, len, cap, elems, rest, n, _, rfl, _, _, hlc, hcm, hel, helem, _⟩
    · exact ⟨[], Nat.zero_le _, rfl, none, 0, rfl, Nat.le_refl _, .inl rfl⟩
    · have hc := cellsOf_sz (TyF.base hE)
      rw [hc] at helem
      have hone : ∀ i, i < len → ∃ cs x, w.cells? base (a.add (i * e.sz)) e.sz = some cs ∧ DataW.trod enc P w base spare held n eid cs = some x := fun i hi => by
        have := helem i hi
        have hx : elems[i]? = some (elems[i]'(by omega)) := by simp
        rw [hx, Option.bind_eq_some_iff] at this
        obtain ⟨cs, h1, h2⟩ := this
        exact ⟨cs, _, h1, h2⟩
      have hlen : len ≤ 9223372036854775807 := by simp only [maxLen] at hcm; omega
      by_cases h0 : len = 0
      · subst h0
        exact ⟨[], Nat.zero_le _, rfl, some a, cap, rfl, Nat.zero_le _, .inl rfl⟩
      · obtain ⟨cs0, x0, g1, _⟩ := hone 0 (by omega)
        have ha0 : a.add (0 * e.sz) = a := by simp [Addr.add]
        rw [ha0] at g1
        obtain ⟨hsp, arr, et, fr, hb, _, _⟩ := cells_seg g1 hsz
        obtain ⟨b, off, sp⟩ := a
        simp only at hsp hb
        subst hsp
        have hall : ∀ i, i < len → ∃ y, off + (i + 1) * e.sz ≤ arr.size ∧ Own w (here w) e .sh (seg arr (off + i * e.sz) e.sz) y [] := fun i hi => by
          obtain ⟨cs, x, k1, k2⟩ := hone i hi
          rw [add_lit'] at k1
          obtain ⟨_, arr', et', fr', hb', hin, rfl⟩ := cells_seg k1 hsz
          rw [hb] at hb'
          cases hb'
          obtain ⟨y, hy⟩ := (trod_own (t := e)).1 hE k2
          exact ⟨y, by rw [Nat.add_mul, Nat.one_mul]; simp only at hin; omega, hy⟩
        obtain ⟨ys, hl, hys⟩ := pick_list hall
        refine ⟨ys, by rw [hl]; exact hlen, rfl, some ⟨b, off, none⟩, cap, by rw [hl], by rw [hl]; exact hlc, .inr ⟨b, off, arr, et, fr, rfl, hb, (Array.getElem?_eq_some_iff.1 hb).1, fun j hj => hys j hj⟩⟩
  | .unit => by
    refine ⟨fun {tid fuel cs x} hF h => ?_, fun {fs fuel off cs} hF hl h => ?_⟩
    · obtain ⟨hB, fs, hu, hfs⟩ := hF
      obtain ⟨xs, n, _, _, hl, _⟩ := DataW.trod_struct hu h
      rw [cellsOf_sz hB] at hl
      have : cs = [] := List.eq_nil_of_length_eq_zero hl
      subst this
      exact ⟨(), rfl, rfl⟩
    · simp only [Ty.sz, Nat.add_zero] at hl
      rw [List.drop_eq_nil_of_le (by omega)]
      exact ⟨(), rfl, rfl⟩
  | .pair a b => by
    have hF2 : ∀ {fs : List Field} {fuel off : Nat} {cs : List Value}, (TyF P (.pair a b)).2 fs off → cs.length = off + (Ty.pair a b).sz → (∀ (i : Nat) (f : Field), fs[i]? = some f → ∃ x, DataW.trod enc P w base spare held fuel f.type ((cs.drop f.offset).take (P.cellsOf f.type)) = some x) → ∃ y, Own w (here w) (.pair a b) .sh (cs.drop off) y [] := by
      intro fs fuel off cs hF hl h
      obtain ⟨f, rest, rfl, h1, h2, h3, h4⟩ := hF
      simp only [Ty.sz] at hl
      obtain ⟨x, hx⟩ := h 0 f rfl
      rw [h1, cellsOf_sz (TyF.base h3)] at hx
      obtain ⟨y1, o1⟩ := (trod_own (t := a)).1 h3 hx
      obtain ⟨y2, o2⟩ := (trod_own (t := b)).2 (cs := cs) h4 (by omega) (fun i f hf => h (i + 1) f (by simpa using hf))
      refine ⟨(y1, y2), (cs.drop off).take a.sz, cs.drop (off + a.sz), [], [], ?_, rfl, o1, o2⟩
      rw [← List.drop_drop, List.take_append_drop]
    refine ⟨fun {tid fuel cs x} hF h => ?_, hF2⟩
    obtain ⟨hB, fs, hu, hfs⟩ := hF
    obtain ⟨xs, n, _, _, hl, hxl, hx⟩ := DataW.trod_struct hu h
    rw [cellsOf_sz hB] at hl
    obtain ⟨y, hy⟩ := hF2 (fs := fs.toList) (fuel := n) (off := 0) (cs := cs) hfs (by omega) (fun i f hf => by
      have hi : i < fs.size := by have := (List.getElem?_eq_some_iff.1 hf).1; simpa using this
      have := hx i f (by simpa using hf)
      have hxi : xs[i]? = some (xs[i]'(by omega)) := by simp
      rw [hxi] at this
      exact ⟨_, this⟩)
    exact ⟨y, by simpa using hy⟩

/-- An argument that reads as data, as the walk wants it. -/
theorem arg_of_trod {t : Ty} {tid : TypeId} {r : Reach} {b0 : Nat} {v : Value} {d : DataW H} {ps : List MemPlace} (hF : (TyF P t).1 tid) (hval : Value.okWide P w r b0 tid v) (h : DataW.Trod enc P w base spare held tid v d ps) : ∃ x, AR w (here w) (.dat t x) v := by
  obtain ⟨fuel, hf⟩ := h
  obtain ⟨y, hy⟩ := (trod_own (t := t)).1 hF hf
  refine ⟨y, ?_⟩
  have key : v = mkV t v.cells.toList := by
    cases t with
    | int k => obtain ⟨hc, _⟩ := hy; simp [mkV, Ty.isAgg, hc]; simp [Value.okWide, hF.2, Cell.okWide, Cell.ok] at hval; cases v <;> simp_all [Value.cells]
    | bool => obtain ⟨b, rfl⟩ := okWide_bool hF.2 hval; rfl
    | str => obtain ⟨s, rfl⟩ := okWide_string hF.2 hval; rfl
    | sl e => obtain ⟨_, _, eid, hu, _⟩ := hF; obtain ⟨A, l, c, rfl⟩ := okWide_slice hu hval; rfl
    | unit => obtain ⟨_, fs, hu, _⟩ := hF; obtain ⟨cs, rfl, _⟩ := okWide_struct hu hval; simp [mkV, Ty.isAgg, Value.cells]
    | pair a b => obtain ⟨_, fs, hu, _⟩ := hF; obtain ⟨cs, rfl, _⟩ := okWide_struct hu hval; simp [mkV, Ty.isAgg, Value.cells]
  have := VR.dat (ρ := ρ0) (H := []) t y v.cells.toList hy
  rwa [← key] at this

end

/-- A law: its contract on data, said of the call. -/
theorem law_calls {P : Program} {f : Nat} {al : List AV} {pre : List Prop} {w : World} {us : List Value} (hen : Enters P f) (hct : Ct P f al ⟨pre, [⟨.bool, .sh, true⟩], []⟩) (hpre : ∀ p ∈ pre, p) (hl : al.length = us.length)
    (ha : ∀ (i : Nat) (v : AV) (u : Value), al[i]? = some v → us[i]? = some u → AR w (here w) v u) : Calls P f us.toArray w fun e w' => e = .returned (.bool true) ∧ Below w.heap.size w w' := by
  have h := CtS.call (vm := []) (al := al) (um := []) (us := us) (fpm := []) (w := w) (J := here w) (Ct.to hct hpre) rfl rfl (by simp) hl ha (by simp) (by simp) (fun _ h => h)
  unfold CallN at h
  rw [List.nil_append, hen] at h
  refine Calls.mono h fun e w' hb => ?_
  obtain ⟨_, rfl, us', I', fps, fpb, rfl, hk, hout, _⟩ := hb
  have hlen := hout.len
  match us', hlen with
  | [u], _ =>
    obtain ⟨cs, e1, e2⟩ := (OutOk.dat rfl).1 (hout.at_ 0 _ u rfl rfl)
    obtain ⟨rfl, _⟩ := e2
    refine ⟨by rw [e1]; rfl, ⟨hk.os, hk.tape, hk.output, hk.size, fun k hk' => hk.block k hk' (fun h => by simp at h)⟩⟩

end Go.Vee

set_option linter.unusedSimpArgs false
set_option linter.unusedVariables false
namespace Go.Vee
open Go

end Go.Vee

set_option linter.unusedSimpArgs false
set_option linter.unusedVariables false
namespace Go.Vee
open Go

end Go.Vee
namespace Go.Vee
open Go
end Go.Vee
namespace Go.Vee
open Go
end Go.Vee

namespace Go.Vee
open Go
/-- A region's operations, by its number. -/
def regOf (id : Nat) : Code → Option (Array Oper)
  | .region i ops _ => if i = id then some ops else none
  | .seq a b => match regOf id a with | some x => some x | none => regOf id b
  | .cond _ x y => match regOf id x with | some x => some x | none => regOf id y
  | .block _ c => regOf id c
  | .loop c => regOf id c
  | _ => none
section
variable {τ : Env} {O : Opt} {ops : Array Oper} {n i : Nat} {l : List Bool} {k r : Sch} {top : Bool}
def takeOk (τ : Env) (ops : Array Oper) (l : List Bool) (i : Nat) : Bool := match ops[i]? with | some o => firstL τ ops l i o | none => false
theorem sk_take (h1 : (takeOk τ ops l i && Region.free .any ops l.toArray i && (Region.ready .any ops l.toArray).contains i) = true) (h2 : chkSch τ ops k n (l.set i true) true = true) : chkSch τ ops (.take i k) (n + 1) l top = true := by
  simp only [chkSch, h2, Bool.and_true]
  rw [← h1]
  unfold takeOk
  rfl
theorem sk_alt (h1 : ((!top || (Region.ready .any ops l.toArray).all fun j => (Sch.alt i k r).alts.contains j) && (!top || !(Region.ready .any ops l.toArray).isEmpty) && (ops[i]?).isSome) = true) (h2 : chkSch τ ops k n (l.set i true) true = true) (h3 : chkSch τ ops r (n + 1) l false = true) : chkSch τ ops (.alt i k r) (n + 1) l top = true := by
  show ((_ && _) && _) = true
  rw [h1, h2, h3]; rfl
theorem cO_seq {a b : Code} (h1 : chkO τ O a = true) (h2 : chkO τ O b = true) : chkO τ O (.seq a b) = true := by show (_ && _) = true; rw [h1, h2]; rfl
theorem cO_reg {ops' : Array Oper} (he : ops = ops') (h1 : (O.rg i).isSome = false) (h2 : O.o i = false) (h3 : Region.noSelect ops' = true) (h4 : O.dg i = none) (h5 : chkSch τ ops' (O.sc i) ops'.size (List.replicate ops'.size false) true = true) : chkO τ O (.region i ops true) = true := by
  subst he
  simp only [chkO, h1, h2, h3, h4, h5, Bool.false_or, Bool.false_eq_true, if_false, Bool.and_self]
end
end Go.Vee

