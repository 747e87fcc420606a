/-
  The invariant between an abstract state and a world, and how it goes on, is proved here.
-/
import Derived.Test.YtjlojjkfdidkiaaV1
set_option linter.unusedSimpArgs false
set_option linter.unusedVariables false
namespace Go.Vee
open Go

/-- A root in memory: a variable's first cell; a row's header, and the blocks that it owns. -/
structure RC where
  b : Nat
  off : Nat
  hdr : Value
  fp : List Nat

def mkV (t : Ty) (cs : List Value) : Value := if t.isAgg then .agg cs.toArray else cs.headD default

/-- What an abstract value says of a value. -/
inductive VR (w : World) (I : Nat → Prop) (ρ : Nat → RC) (H : Heap) : AV → Value → Prop
  | junk (v : Value) : VR w I ρ H .junk v
  | lb (b : Bool) : VR w I ρ H (.lb b) (.bool b)
  | dat (t : Ty) (x : t.den) (cs : List Value) (h : Own w I t .sh cs x []) : VR w I ρ H (.dat t x) (mkV t cs)
  | ref (e : Ty) (r ver : Nat) (p : List Stp) (lo n : Nat) (A : Option Addr) (c : Nat) (hr : r < H.length) (hn : n ≤ 9223372036854775807) (hnc : n ≤ c)
      (h : ∀ v' e' m xs, hget H r = some (.row v' e' m xs) → ver ≤ v' ∧ ((hops p = 0 ∨ (v' = ver ∧ okM e' m = true)) → ∃ B c0 len l, walk w (.sl e') [(ρ r).hdr] none p = some (.sl e, [.slice B len c0], l) ∧
        lo + n ≤ len ∧ (0 < n → A = B.map (fun a => a.add (lo * e.sz))) ∧ (lo = 0 ∧ n = len → A = B ∧ c = c0))) : VR w I ρ H (.ref e r ver p lo n) (.slice A n c)
  | ptr (r ver : Nat) (p : List Stp) (b off : Nat) (hr : r < H.length)
      (h : ∀ v' e' m xs, hget H r = some (.row v' e' m xs) → ver ≤ v' ∧ ((hops p - 1 = 0 ∨ (v' = ver ∧ okM e' m = true)) → ∃ t cs, walk w (.sl e') [(ρ r).hdr] none p = some (t, cs, some (b, off)))) :
      VR w I ρ H (.ptr r ver p) (.pointer (some ⟨b, off, none⟩))
  | bptr (r off : Nat) (hr : r < H.length) : VR w I ρ H (.bptr r off) (.pointer (some ⟨(ρ r).b, (ρ r).off + off, none⟩))
  | dptr (t : Ty) (x : t.den) (b off : Nat) (arr : Array Value) (et : TypeId) (fr : Nat × Nat) (hb : w.heap[b]? = some (.cells arr et fr)) (hi : I b) (hs : off + t.sz ≤ arr.size)
      (h : Own w I t .sh (seg arr off t.sz) x []) : VR w I ρ H (.dptr t x) (.pointer (some ⟨b, off, none⟩))
  | nilS : VR w I ρ H .nilS (.slice none 0 0)
  | nilP : VR w I ρ H .nilP (.pointer none)
  | agg (vs : List AV) (cs : List Value) (hl : vs.length = cs.length) (h1 : ∀ u ∈ cs, u.oneCell' = true) (h : ∀ (i : Nat) (v : AV) (u : Value), vs[i]? = some v → cs[i]? = some u → VR w I ρ H v u) : VR w I ρ H (.agg vs) (.agg cs.toArray)
  | tup (vs : List AV) (cs : List Value) (hl : vs.length = cs.length) (h : ∀ (i : Nat) (v : AV) (u : Value), vs[i]? = some v → cs[i]? = some u → VR w I ρ H v u) : VR w I ρ H (.tup vs) (.tuple cs.toArray)
  | clo (f : Nat) (vs : List AV) (cs : List Value) (hl : vs.length = cs.length) (h : ∀ (i : Nat) (v : AV) (u : Value), vs[i]? = some v → cs[i]? = some u → VR w I ρ H v u) : VR w I ρ H (.clo f vs) (.func (.func f) #[] cs.toArray)

/-- How a row may have come on: as it was; or written, what was known of headers inside it being given up. -/
def RowStep (w w' : World) (hdr : Value) (e : Ty) (m0 m : Md) (v v' : Nat) : Prop :=
  v ≤ v' ∧ (okM e m = true → okM e m0 = true) ∧ ((∀ p r, walk w (.sl e) [hdr] none p = some r → walk w' (.sl e) [hdr] none p = some r) ∨
    ((okM e m = true → e.hasSl = true → v < v') ∧ ∀ p t cs l, hops p ≤ 1 → walk w (.sl e) [hdr] none p = some (t, cs, l) → ∃ cs', walk w' (.sl e) [hdr] none p = some (t, cs', l)))

theorem walk_noSl {w : World} : ∀ (p : List Stp) {t : Ty} {cs : List Value} {l : Option (Nat × Nat)} {r}, t.hasSl = false → walk w t cs l p = some r → hops p = 0 ∧ r.1.hasSl = false
  | [], t, cs, l, r, ht, h => by
    have : r = (t, cs, l) := by cases t <;> simpa [walk, eq_comm] using h
    subst this
    exact ⟨rfl, ht⟩
  | s :: p, t, cs, l, r, ht, h => by
    cases t with
    | pair a b =>
      simp only [Ty.hasSl, Bool.or_eq_false_iff] at ht
      cases s with
      | fst => exact walk_noSl p ht.1 (by simpa [walk] using h)
      | snd => exact walk_noSl p ht.2 (by simpa [walk] using h)
      | idx i => simp [walk] at h
    | sl e => simp [Ty.hasSl] at ht
    | int k => simp [walk] at h
    | bool => simp [walk] at h
    | str => simp [walk] at h
    | unit => simp [walk] at h

theorem walk_sl {w : World} {e : Ty} {hdr : Value} {l : Option (Nat × Nat)} {p : List Stp} {r} (h : walk w (.sl e) [hdr] l p = some r) : p = [] ∧ r = (.sl e, [hdr], l) ∨
    ∃ i q b off n c arr et fr, p = .idx i :: q ∧ hdr = .slice (some ⟨b, off, none⟩) n c ∧ w.heap[b]? = some (.cells arr et fr) ∧ i < n ∧ walk w e (seg arr (off + i * e.sz) e.sz) (some (b, off + i * e.sz)) q = some r := by
  cases p with
  | nil => left; exact ⟨rfl, by simpa [walk, eq_comm] using h⟩
  | cons s q =>
    right
    cases s with
    | fst => simp [walk] at h
    | snd => simp [walk] at h
    | idx i =>
      cases hdr with
      | slice A n c =>
        cases A with
        | none => simp [walk] at h
        | some ad =>
          obtain ⟨b, off, sp⟩ := ad
          cases sp with
          | some _ => simp [walk] at h
          | none =>
            simp only [walk] at h
            split at h
            · rename_i arr et fr hb
              split at h
              · rename_i hlt
                exact ⟨i, q, b, off, n, c, arr, et, fr, rfl, rfl, hb, hlt, h⟩
              · cases h
            · cases h
      | _ => simp [walk] at h

/-- How memory and roots may have come on. -/
structure Ext (w w' : World) (I I' : Nat → Prop) (ρ ρ' : Nat → RC) (H H' : Heap) : Prop where
  hI : ∀ b, I b → w'.heap[b]? = w.heap[b]?
  hII : ∀ b, I b → I' b
  len : H.length ≤ H'.length
  rc : ∀ r, r < H.length → (ρ' r).b = (ρ r).b ∧ (ρ' r).off = (ρ r).off ∧ (ρ' r).hdr = (ρ r).hdr
  row : ∀ r, r < H.length → ∀ v' e m xs, hget H' r = some (.row v' e m xs) → ∃ v m0 xs0, hget H r = some (.row v e m0 xs0) ∧ RowStep w w' (ρ r).hdr e m0 m v v'

theorem VR.ext {w w' : World} {I I' : Nat → Prop} {ρ ρ' : Nat → RC} {H H' : Heap} (E : Ext w w' I I' ρ ρ' H H') {v : AV} {u : Value} (h : VR w I ρ H v u) : VR w' I' ρ' H' v u := by
  induction h with
  | junk v => exact .junk v
  | lb b => exact .lb b
  | dat t x cs h => exact .dat t x cs (Own.frame E.hI E.hII h (by simp))
  | ref e r ver p lo n A c hr hn hnc h =>
    refine .ref e r ver p lo n A c (Nat.lt_of_lt_of_le hr E.len) hn hnc fun v' e' m xs hg => ?_
    obtain ⟨v, m0, xs0, hg0, hle, hmm, hst⟩ := E.row r hr v' e' m xs hg
    obtain ⟨h1, h2⟩ := h v e' m0 xs0 hg0
    refine ⟨Nat.le_trans h1 hle, fun hc => ?_⟩
    rw [(E.rc r hr).2.2]
    by_cases h0 : hops p = 0
    · obtain ⟨B, c0, len, l, hw, hrest⟩ := h2 (.inl h0)
      rcases walk_sl hw with ⟨rfl, he⟩ | ⟨i, q, _, _, _, _, _, _, _, rfl, _⟩
      · exact ⟨B, c0, len, l, by simpa [walk] using hw, hrest⟩
      · simp [hops] at h0
    · obtain ⟨hv, hom⟩ := hc.resolve_left h0
      subst hv
      have hvv : v = v' := by omega
      subst hvv
      obtain ⟨B, c0, len, l, hw, hrest⟩ := h2 (.inr ⟨rfl, hmm hom⟩)
      rcases hst with hst | ⟨hst, _⟩
      · exact ⟨B, c0, len, l, hst _ _ hw, hrest⟩
      · by_cases hs : e'.hasSl = true
        · exact absurd (hst hom hs) (by omega)
        · rcases walk_sl hw with ⟨rfl, he⟩ | ⟨i, q, _, _, _, _, _, _, _, rfl, _, _, _, hw'⟩
          · simp [hops] at h0
          · have := (walk_noSl q (by simpa using hs) hw').2
            simp [Ty.hasSl] at this
  | ptr r ver p b off hr h =>
    refine .ptr r ver p b off (Nat.lt_of_lt_of_le hr E.len) fun v' e' m xs hg => ?_
    obtain ⟨v, m0, xs0, hg0, hle, hmm, hst⟩ := E.row r hr v' e' m xs hg
    obtain ⟨h1, h2⟩ := h v e' m0 xs0 hg0
    refine ⟨Nat.le_trans h1 hle, fun hc => ?_⟩
    rw [(E.rc r hr).2.2]
    by_cases h0 : hops p - 1 = 0
    · obtain ⟨t, cs, hw⟩ := h2 (.inl h0)
      rcases hst with hst | ⟨_, hst⟩
      · exact ⟨t, cs, hst _ _ hw⟩
      · obtain ⟨cs', hw'⟩ := hst p t cs _ (by omega) hw
        exact ⟨t, cs', hw'⟩
    · obtain ⟨hv, hom⟩ := hc.resolve_left h0
      subst hv
      have hvv : v = v' := by omega
      subst hvv
      obtain ⟨t, cs, hw⟩ := h2 (.inr ⟨rfl, hmm hom⟩)
      rcases hst with hst | ⟨hst, _⟩
      · exact ⟨t, cs, hst _ _ hw⟩
      · by_cases hs : e'.hasSl = true
        · exact absurd (hst hom hs) (by omega)
        · rcases walk_sl hw with ⟨rfl, he⟩ | ⟨i, q, _, _, _, _, _, _, _, rfl, _, _, _, hw'⟩
          · simp [hops] at h0
          · have := (walk_noSl q (by simpa using hs) hw').1
            simp [hops, this] at h0
  | bptr r off hr =>
    rw [← (E.rc r hr).1, ← (E.rc r hr).2.1]
    exact .bptr r off (Nat.lt_of_lt_of_le hr E.len)
  | dptr t x b off arr et fr hb hi hs h => exact .dptr t x b off arr et fr ((E.hI b hi).trans hb) (E.hII b hi) hs (Own.frame E.hI E.hII h (by simp))
  | nilS => exact .nilS
  | nilP => exact .nilP
  | agg vs cs hl h1 h ih => exact .agg vs cs hl h1 ih
  | tup vs cs hl h ih => exact .tup vs cs hl ih
  | clo f vs cs hl h ih => exact .clo f vs cs hl ih

def tfp (ρ : Nat → RC) (r : Nat) : Root → List Nat
  | .box _ => [(ρ r).b]
  | .row .. => (ρ r).fp
  | .gh _ => []

def RootOk (w : World) (I : Nat → Prop) (ρ : Nat → RC) (H : Heap) (r : Nat) : Root → Prop
  | .box cs => ∃ arr et, w.heap[(ρ r).b]? = some (.cells arr et (0, 0)) ∧ (ρ r).off + cs.length ≤ arr.size ∧
      ∀ (i : Nat) (v : AV), cs[i]? = some v → ∃ u, arr[(ρ r).off + i]? = some u ∧ u.oneCell' = true ∧ VR w I ρ H v u
  | .row _ e m xs => Own w I (.sl e) (.ow m) [(ρ r).hdr] xs (ρ r).fp
  | .gh cs => ∃ us : List Value, (ρ r).hdr = .agg us.toArray ∧ cs.length = us.length ∧ ∀ (i : Nat) (v : AV) (u : Value), cs[i]? = some v → us[i]? = some u → u.oneCell' = true ∧ VR w I ρ H v u

/-- Of the blocks that were there at the call: which may be written; which were shared. -/
structure Bnd where
  wr : Nat → Prop
  rd : Nat → Prop
  /-- What came in to be written. -/
  gh : Value := .nilIface

/-- What an abstract state says of a frame and a world. 'w0': the world at the call; 'F0': the blocks that the call may write. -/
structure Inv (w0 : World) (F0 : Bnd) (s : St) (a : Act) (w : World) (I : Nat → Prop) (ρ : Nat → RC) : Prop where
  defers : a.defers = []
  len : a.tmps.size = s.fr.length
  slots : ∀ (i : Nat) (v : AV), s.fr[i]? = some v → ∃ u, a.tmps[i]? = some u ∧ VR w I ρ s.H v u
  roots : ∀ r o, hget s.H r = some o → RootOk w I ρ s.H r o
  nodup : ∀ r o, hget s.H r = some o → (tfp ρ r o).Nodup
  disj : ∀ r o r' o', r ≠ r' → hget s.H r = some o → hget s.H r' = some o' → ∀ b ∈ tfp ρ r o, b ∉ tfp ρ r' o'
  imm : ∀ b, I b → b < w.heap.size
  immF : ∀ b, I b → w0.heap.size ≤ b ∨ F0.rd b ∨ F0.wr b
  sep : ∀ r o, hget s.H r = some o → ∀ b ∈ tfp ρ r o, ¬ I b ∧ b < w.heap.size ∧ (w0.heap.size ≤ b ∨ F0.wr b)
  os : w.os = w0.os
  tape : w.tape = w0.tape
  output : w.output = w0.output
  size : w0.heap.size ≤ w.heap.size
  frame : ∀ b, b < w0.heap.size → ¬ F0.wr b → w.heap[b]? = w0.heap[b]?
  keep : ∀ r cs, hget s.H r = some (.box cs) → ∀ arr0 et0 fr0, w0.heap[(ρ r).b]? = some (.cells arr0 et0 fr0) → ∃ arr et, w.heap[(ρ r).b]? = some (.cells arr et (0, 0)) ∧ Near arr0 arr (ρ r).off cs.length
  ghost : ∀ r cs, hget s.H r = some (.gh cs) → (ρ r).hdr = F0.gh

theorem hget_some {H : Heap} {r : Nat} {o : Root} : hget H r = some o ↔ H[r]? = some (some o) := by
  unfold hget
  rw [List.getD_eq_getElem?_getD]
  cases h : H[r]? with
  | none => simp
  | some x => simp

theorem hget_lt {H : Heap} {r : Nat} {o : Root} (h : hget H r = some o) : r < H.length := by
  have := hget_some.1 h
  exact (List.getElem?_eq_some_iff.1 this).1

theorem hget_app {H : Heap} {o : Root} {r : Nat} : hget (H ++ [some o]) r = if r = H.length then some o else hget H r := by
  unfold hget
  simp only [List.getD_eq_getElem?_getD]
  by_cases h : r = H.length
  · subst h; simp
  · simp only [h, if_false]
    by_cases hlt : r < H.length
    · rw [List.getElem?_append_left hlt]
    · rw [List.getElem?_eq_none (by simp; omega), List.getElem?_eq_none (by omega)]

theorem hget_set {H : Heap} {o : Option Root} {r k : Nat} (hr : r < H.length) : hget (H.set r o) k = if k = r then o else hget H k := by
  unfold hget
  simp only [List.getD_eq_getElem?_getD, List.getElem?_set]
  by_cases h : r = k
  · subst h; simp [hr]
  · simp [h, Ne.symm h]

theorem Inv.lt {w0 w : World} {F0 : Bnd} {s : St} {a : Act} {I : Nat → Prop} {ρ : Nat → RC} (h : Inv w0 F0 s a w I ρ) {r : Nat} {o : Root} (hr : hget s.H r = some o) : ∀ b ∈ tfp ρ r o, b < w.heap.size :=
  fun b hb => (h.sep r o hr b hb).2.1

theorem RootOk.ext {w w' : World} {I I' : Nat → Prop} {ρ ρ' : Nat → RC} {H H' : Heap} {r : Nat} {o : Root} (E : Ext w w' I I' ρ ρ' H H') (hr : r < H.length) (hf : (ρ' r).fp = (ρ r).fp)
    (h : RootOk w I ρ H r o) (hb : ∀ b ∈ tfp ρ r o, w'.heap[b]? = w.heap[b]?) : RootOk w' I' ρ' H' r o := by
  obtain ⟨e1, e2, e3⟩ := E.rc r hr
  cases o with
  | box cs =>
    obtain ⟨arr, et, h1, h2, h3⟩ := h
    refine ⟨arr, et, by rw [e1]; exact (hb _ (by simp [tfp])).trans h1, by rw [e2]; exact h2, fun i v hv => ?_⟩
    obtain ⟨u, hu, h4, h5⟩ := h3 i v hv
    exact ⟨u, by rw [e2]; exact hu, h4, h5.ext E⟩
  | row v e m xs =>
    simp only [RootOk, e3, hf] at h ⊢
    exact Own.frame E.hI E.hII h (by simpa [tfp] using hb)
  | gh cs =>
    obtain ⟨us, h1, h2, h3⟩ := h
    exact ⟨us, e3.trans h1, h2, fun i v u hv hu => ⟨(h3 i v u hv hu).1, (h3 i v u hv hu).2.ext E⟩⟩

theorem tfp_ext {w w' : World} {I I' : Nat → Prop} {ρ ρ' : Nat → RC} {H H' : Heap} {r : Nat} {o : Root} (E : Ext w w' I I' ρ ρ' H H') (hr : r < H.length) (hf : (ρ' r).fp = (ρ r).fp) : tfp ρ' r o = tfp ρ r o := by
  cases o <;> simp [tfp, (E.rc r hr).1, hf]

theorem walk_flat {w w' : World} : ∀ (q : List Stp) {t : Ty} {cs cs2 : List Value} {l : Option (Nat × Nat)} {t' cs' l'}, hops q = 0 → walk w t cs l q = some (t', cs', l') → ∃ cs2', walk w' t cs2 l q = some (t', cs2', l')
  | [], t, cs, cs2, l, t', cs', l', _, h => by
    have : (t, cs, l) = (t', cs', l') := by cases t <;> simpa [walk] using h
    cases this
    exact ⟨cs2, by cases t <;> simp [walk]⟩
  | st :: q, t, cs, cs2, l, t', cs', l', h0, h => by
    cases t with
    | pair a b =>
      cases st with
      | fst => simp only [walk] at h ⊢; exact walk_flat q (by simpa [hops] using h0) h
      | snd => simp only [walk] at h ⊢; exact walk_flat q (by simpa [hops] using h0) h
      | idx i => simp [hops] at h0
    | sl e => cases st <;> simp [hops, walk] at h0 h
    | int k => simp [walk] at h
    | bool => simp [walk] at h
    | str => simp [walk] at h
    | unit => simp [walk] at h

/-- A row under its header. -/
theorem RowStep.flat {w w' : World} {I' : Nat → Prop} {hdr : Value} {e : Ty} {m0 m : Md} {xs' : List e.den} {fp' : List Nat} {v v' : Nat} (ho : Own w' I' (.sl e) (.ow m) [hdr] xs' fp') (h1 : okM e m = true → e.hasSl = true → v < v') (h2 : v ≤ v') (h3 : okM e m = true → okM e m0 = true) :
    RowStep w w' hdr e m0 m v v' := by
  refine ⟨h2, h3, .inr ⟨h1, fun p t cs l hp hw => ?_⟩⟩
  rcases walk_sl hw with ⟨rfl, he⟩ | ⟨i, q, b, off, n, c, arr, et, fr, rfl, rfl, hb, hlt, hwq⟩
  · cases he; exact ⟨[hdr], by simp [walk]⟩
  · rcases ho.2 with ⟨he, _⟩ | ⟨b', c', arr', et', fps, he, hb', _⟩
    · simp at he
    · simp only [List.cons.injEq, Value.slice.injEq, Option.some.injEq, Addr.mk.injEq, and_true] at he
      obtain ⟨⟨rfl, rfl⟩, rfl, rfl⟩ := he
      obtain ⟨cs2, hc2⟩ := walk_flat (w' := w') (cs2 := seg arr' (0 + i * e.sz) e.sz) q (by simp [hops] at hp; omega) hwq
      exact ⟨cs2, by simp only [walk, hb', hlt, if_true]; exact hc2⟩

/-- A row that lies as it was. -/
theorem RowStep.same {w w' : World} {I : Nat → Prop} {hdr : Value} {e : Ty} {m : Md} {xs : List e.den} {fp : List Nat} {v : Nat} (hI : ∀ b, I b → w'.heap[b]? = w.heap[b]?)
    (h : Own w I (.sl e) (.ow m) [hdr] xs fp) (hb : ∀ b ∈ fp, w'.heap[b]? = w.heap[b]?) : RowStep w w' hdr e m m v v := by
  cases hm : okM e m with
  | true => exact ⟨Nat.le_refl _, fun h => h, .inl fun p r hw => walk_frame hI p (by simpa [okM] using hm) h hb hw⟩
  | false => exact RowStep.flat (Own.frame hI (fun _ h => h) h hb) (fun h => by simp [hm] at h) (Nat.le_refl _) (fun h => h)
theorem RowStep.refl {w : World} {hdr : Value} {e : Ty} {m : Md} {v : Nat} : RowStep w w hdr e m m v v := ⟨Nat.le_refl _, fun h => h, .inl fun p r h => h⟩

theorem inK_iff {k : IntKind} {n : Int} : inK k n = true ↔ k.min ≤ n ∧ n ≤ k.max := by
  cases k <;> simp [inK, IntKind.min, IntKind.max, IntKind.signed, IntKind.bits]

section puts
variable {w0 w : World} {F0 : Bnd} {s : St} {a : Act} {I : Nat → Prop} {ρ : Nat → RC} {H : Heap}

theorem Inv.put (h : Inv w0 F0 s a w I ρ) {v : AV} {u : Value} (hv : VR w I ρ s.H v u) (d : Option Nat) : Inv w0 F0 (s.put d v) (a.put d u) w I ρ := by
  cases d with
  | none => exact h
  | some d =>
    refine { h with defers := h.defers, len := by simp [Act.put, St.put, h.len], slots := ?_, roots := h.roots, nodup := h.nodup, disj := h.disj, sep := h.sep, keep := h.keep, ghost := h.ghost }
    intro i x hx
    simp only [St.put, List.getElem?_set] at hx
    simp only [Act.put, Array.getElem?_setIfInBounds]
    by_cases hdi : d = i
    · subst hdi
      simp only [if_true] at hx ⊢
      split at hx
      · rename_i hlt
        cases hx
        exact ⟨u, by simp [h.len, hlt], hv⟩
      · cases hx
    · simp only [hdi, if_false] at hx ⊢
      exact h.slots i x hx

theorem VR.cst1 (v : Value) : VR w I ρ H (Vee.cst1 Alg.std v) v := by
  unfold Vee.cst1
  split
  · rename_i k n
    split
    · rename_i hk
      have h2 := inK_iff.1 hk
      exact VR.dat (.int k) n [.int k n] ⟨rfl, h2, rfl⟩
    · exact .junk _
  · exact .lb _
  · rename_i b
    split
    · rename_i hb
      exact VR.dat .str _ [.string b] ⟨⟨b, rfl, rfl, of_decide_eq_true hb⟩, rfl⟩
    · exact .junk _
  · exact .nilS
  · exact .nilP
  · exact .junk _

theorem VR.cst (v : Value) : VR w I ρ H (Vee.cst Alg.std v) v := by
  unfold Vee.cst
  split
  · rename_i cs
    split
    · rename_i h
      have : VR w I ρ H (.agg (cs.toList.map (Vee.cst1 Alg.std))) (.agg cs.toList.toArray) := by
        refine VR.agg _ cs.toList (by simp) (fun u hu => List.all_eq_true.1 h u hu) fun i x u hx hu => ?_
        simp only [List.getElem?_map, hu, Option.map_some, Option.some.injEq] at hx
        subst hx
        exact VR.cst1 u
      simpa using this
    · exact .junk _
  · exact VR.cst1 _

theorem Inv.ev (h : Inv w0 F0 s a w I ρ) (x : Operand) : VR w I ρ s.H (Vee.ev Alg.std s x) (a.eval x) := by
  cases x with
  | tmp t =>
    simp only [Vee.ev, Act.eval]
    cases ht : s.fr[t]? with
    | none => simp only [List.getD_eq_getElem?_getD, ht, Option.getD_none]; exact .junk _
    | some v =>
      obtain ⟨u, hu, hv⟩ := h.slots t v ht
      simpa [List.getD_eq_getElem?_getD, ht, Array.getD_eq_getD_getElem?, hu] using hv
  | const v => exact VR.cst v
  | global g => exact .junk _
  | func f =>
    simpa [Vee.ev, Act.eval] using VR.clo (w := w) (I := I) (ρ := ρ) (H := s.H) f [] [] rfl (by simp)
end puts

end Go.Vee

set_option linter.unusedSimpArgs false
set_option linter.unusedVariables false
namespace Go.Vee
open Go

/-- Of what lay in w, only blocks of T may have turned. -/
structure Keeps (T : Nat → Prop) (w w' : World) : Prop where
  os : w'.os = w.os
  tape : w'.tape = w.tape
  output : w'.output = w.output
  size : w.heap.size ≤ w'.heap.size
  block : ∀ k, k < w.heap.size → ¬ T k → w'.heap[k]? = w.heap[k]?

theorem Keeps.refl (T : Nat → Prop) (w : World) : Keeps T w w := ⟨rfl, rfl, rfl, Nat.le_refl _, fun _ _ _ => rfl⟩
theorem Keeps.trans {T : Nat → Prop} {a b c : World} (h : Keeps T a b) (k : Keeps T b c) : Keeps T a c :=
  ⟨k.os.trans h.os, k.tape.trans h.tape, k.output.trans h.output, Nat.le_trans h.size k.size, fun i hi ht => (k.block i (Nat.lt_of_lt_of_le hi h.size) ht).trans (h.block i hi ht)⟩
theorem Keeps.mono {T T' : Nat → Prop} {a b : World} (h : Keeps T a b) (ht : ∀ k, k < a.heap.size → T k → T' k) : Keeps T' a b := ⟨h.os, h.tape, h.output, h.size, fun k hk hn => h.block k hk fun hh => hn (ht k hk hh)⟩
theorem Keeps.alloc (T : Nat → Prop) (w : World) (o : Obj) : Keeps T w (w.alloc o) := ⟨rfl, rfl, rfl, by simp, fun k hk _ => heap_alloc_old w o k hk⟩
theorem Keeps.drew (T : Nat → Prop) (w : World) : Keeps T w w.drew := ⟨rfl, rfl, rfl, Nat.le_refl _, fun _ _ _ => rfl⟩

section
variable {w0 w : World} {F0 : Bnd} {s : St} {a : Act} {I : Nat → Prop} {ρ : Nat → RC}

theorem Inv.get_lt (h : Inv w0 F0 s a w I ρ) {b : Nat} {o : Obj} (hb : w.heap[b]? = some o) : b < w.heap.size := (Array.getElem?_eq_some_iff.1 hb).1

/-- Fewer roots. -/
theorem Inv.sub (h : Inv w0 F0 s a w I ρ) {H' : Heap} (hs : ∀ r o, hget H' r = some o → hget s.H r = some o) (hl : s.H.length ≤ H'.length) : Inv w0 F0 ⟨s.fr, H'⟩ a w I ρ := by
  have E : Ext w w I I ρ ρ s.H H' := ⟨fun _ _ => rfl, fun _ h => h, hl, fun _ _ => ⟨rfl, rfl, rfl⟩, fun r _ v' e m xs hg =>
    ⟨v', m, xs, hs _ _ hg, RowStep.refl⟩⟩
  exact { h with
    slots := fun i v hv => let ⟨u, h1, h2⟩ := h.slots i v hv; ⟨u, h1, h2.ext E⟩
    roots := fun r o hr => (h.roots r o (hs r o hr)).ext E (hget_lt (hs r o hr)) rfl fun _ _ => rfl
    nodup := fun r o hr => h.nodup r o (hs r o hr)
    disj := fun r o r' o' hne hr hr' => h.disj r o r' o' hne (hs r o hr) (hs r' o' hr')
    sep := fun r o hr => h.sep r o (hs r o hr)
    keep := fun r cs hr => h.keep r cs (hs r _ hr)
    ghost := fun r cs hr => h.ghost r cs (hs r _ hr) }

theorem Inv.kill (h : Inv w0 F0 s a w I ρ) (r : Nat) : Inv w0 F0 ⟨s.fr, s.H.set r none⟩ a w I ρ := by
  refine h.sub (fun k o hk => ?_) (by simp)
  by_cases hr : r < s.H.length
  · rw [hget_set hr] at hk
    split at hk
    · cases hk
    · exact hk
  · rwa [List.set_eq_of_length_le (by omega)] at hk

/-- Blocks that no root owns may be counted among the shared. -/
theorem Inv.share (h : Inv w0 F0 s a w I ρ) (L : Nat → Prop) (h1 : ∀ b, L b → b < w.heap.size) (h3 : ∀ b, L b → w0.heap.size ≤ b ∨ F0.rd b ∨ F0.wr b) (h2 : ∀ r o, hget s.H r = some o → ∀ b ∈ tfp ρ r o, ¬ L b) : Inv w0 F0 s a w (fun b => I b ∨ L b) ρ := by
  have E : Ext w w I (fun b => I b ∨ L b) ρ ρ s.H s.H := ⟨fun _ _ => rfl, fun _ h => .inl h, Nat.le_refl _, fun _ _ => ⟨rfl, rfl, rfl⟩, fun r _ v' e m xs hg =>
    ⟨v', m, xs, hg, RowStep.refl⟩⟩
  exact { h with
    slots := fun i v hv => let ⟨u, h1, h2⟩ := h.slots i v hv; ⟨u, h1, h2.ext E⟩
    roots := fun r o hr => (h.roots r o hr).ext E (hget_lt hr) rfl fun _ _ => rfl
    imm := fun b hb => hb.elim (h.imm b) (h1 b)
    immF := fun b hb => hb.elim (h.immF b) (h3 b)
    sep := fun r o hr b hb => ⟨fun hh => hh.elim (h.sep r o hr b hb).1 (h2 r o hr b hb), (h.sep r o hr b hb).2⟩ }

/-- The world comes on; no tracked block turns. -/
theorem Inv.world (h : Inv w0 F0 s a w I ρ) {w' : World} {T : Nat → Prop} (hk : Keeps T w w') (hI : ∀ b, I b → ¬ T b) (hT : ∀ r o, hget s.H r = some o → ∀ b ∈ tfp ρ r o, ¬ T b)
    (h0 : ∀ b, T b → b < w.heap.size → w0.heap.size ≤ b ∨ F0.wr b) : Inv w0 F0 s a w' I ρ := by
  have hblk : ∀ r o, hget s.H r = some o → ∀ b ∈ tfp ρ r o, w'.heap[b]? = w.heap[b]? := fun r o hr b hb => hk.block b (h.sep r o hr b hb).2.1 (hT r o hr b hb)
  have hIb : ∀ b, I b → w'.heap[b]? = w.heap[b]? := fun b hb => hk.block b (h.imm b hb) (hI b hb)
  have E : Ext w w' I I ρ ρ s.H s.H := ⟨hIb, fun _ h => h, Nat.le_refl _, fun _ _ => ⟨rfl, rfl, rfl⟩, fun r _ v' e m xs hg =>
    ⟨v', m, xs, hg, RowStep.same hIb (h.roots r _ hg) (hblk r _ hg)⟩⟩
  exact { h with
    slots := fun i v hv => let ⟨u, h1, h2⟩ := h.slots i v hv; ⟨u, h1, h2.ext E⟩
    roots := fun r o hr => (h.roots r o hr).ext E (hget_lt hr) rfl (hblk r o hr)
    imm := fun b hb => Nat.lt_of_lt_of_le (h.imm b hb) hk.size
    sep := fun r o hr b hb => ⟨(h.sep r o hr b hb).1, Nat.lt_of_lt_of_le (h.sep r o hr b hb).2.1 hk.size, (h.sep r o hr b hb).2.2⟩
    os := hk.os.trans h.os
    tape := hk.tape.trans h.tape
    output := hk.output.trans h.output
    size := Nat.le_trans h.size hk.size
    frame := fun b hb hf => by
      by_cases ht : T b
      · exact ((h0 b ht (Nat.lt_of_lt_of_le hb h.size)).elim (fun q => absurd q (by omega)) (fun q => absurd q hf))
      · exact (hk.block b (Nat.lt_of_lt_of_le hb h.size) ht).trans (h.frame b hb hf)
    keep := fun r cs hr arr0 et0 fr0 hb0 => by
      obtain ⟨arr, et, h1, h2⟩ := h.keep r cs hr arr0 et0 fr0 hb0
      exact ⟨arr, et, (hblk r _ hr _ (by simp [tfp])).trans h1, h2⟩ }

def upd (ρ : Nat → RC) (r : Nat) (c : RC) : Nat → RC := fun k => if k = r then c else ρ k

/-- A root more. -/
theorem Inv.add (h : Inv w0 F0 s a w I ρ) (o : Root) (c : RC) (hok : RootOk w I (upd ρ s.H.length c) (s.H ++ [some o]) s.H.length o)
    (hnd : (tfp (upd ρ s.H.length c) s.H.length o).Nodup)
    (hd : ∀ b ∈ tfp (upd ρ s.H.length c) s.H.length o, ¬ I b ∧ b < w.heap.size ∧ (w0.heap.size ≤ b ∨ F0.wr b) ∧ ∀ r o', hget s.H r = some o' → b ∉ tfp ρ r o')
    (hkeep : ∀ cs, o = .box cs → ∀ arr0 et0 fr0, w0.heap[c.b]? = some (.cells arr0 et0 fr0) → ∃ arr et, w.heap[c.b]? = some (.cells arr et (0, 0)) ∧ Near arr0 arr c.off cs.length) (hgh : ∀ cs, o = .gh cs → c.hdr = F0.gh := by intro _ hh; cases hh) :
    Inv w0 F0 ⟨s.fr, s.H ++ [some o]⟩ a w I (upd ρ s.H.length c) := by
  have hup : ∀ r, r < s.H.length → upd ρ s.H.length c r = ρ r := fun r hr => by simp [upd, Nat.ne_of_lt hr]
  have E : Ext w w I I ρ (upd ρ s.H.length c) s.H (s.H ++ [some o]) := ⟨fun _ _ => rfl, fun _ h => h, by simp, fun r hr => by simp [hup r hr], fun r hr v' e m xs hg => by
    rw [hget_app, if_neg (Nat.ne_of_lt hr)] at hg
    exact ⟨v', m, xs, hg, RowStep.refl⟩⟩
  have cases2 : ∀ r o', hget (s.H ++ [some o]) r = some o' → (r = s.H.length ∧ o' = o) ∨ (r < s.H.length ∧ hget s.H r = some o' ∧ tfp (upd ρ s.H.length c) r o' = tfp ρ r o') := fun r o' hr => by
    rw [hget_app] at hr
    split at hr
    · rename_i e; cases hr; exact .inl ⟨e, rfl⟩
    · have hlt := hget_lt hr
      exact .inr ⟨hlt, hr, tfp_ext E hlt (by rw [hup r hlt])⟩
  exact { h with
    slots := fun i v hv => let ⟨u, h1, h2⟩ := h.slots i v hv; ⟨u, h1, h2.ext E⟩
    roots := fun r o' hr => by
      rcases cases2 r o' hr with ⟨rfl, rfl⟩ | ⟨hlt, hr', _⟩
      · exact hok
      · exact (h.roots r o' hr').ext E hlt (by rw [hup r hlt]) fun _ _ => rfl
    nodup := fun r o' hr => by
      rcases cases2 r o' hr with ⟨rfl, rfl⟩ | ⟨hlt, hr', e⟩
      · exact hnd
      · rw [e]; exact h.nodup r o' hr'
    disj := fun r o1 r' o2 hne hr hr' b hb hb' => by
      rcases cases2 r o1 hr with ⟨rfl, rfl⟩ | ⟨hlt, hr1, e⟩
      · rcases cases2 r' o2 hr' with ⟨rfl, rfl⟩ | ⟨hlt', hr2, e'⟩
        · exact hne rfl
        · exact (hd b hb).2.2.2 r' o2 hr2 (e' ▸ hb')
      · rcases cases2 r' o2 hr' with ⟨rfl, rfl⟩ | ⟨hlt', hr2, e'⟩
        · exact (hd b hb').2.2.2 r o1 hr1 (e ▸ hb)
        · exact h.disj r o1 r' o2 hne hr1 hr2 b (e ▸ hb) (e' ▸ hb')
    sep := fun r o' hr b hb => by
      rcases cases2 r o' hr with ⟨rfl, rfl⟩ | ⟨hlt, hr', e⟩
      · exact ⟨(hd b hb).1, (hd b hb).2.1, (hd b hb).2.2.1⟩
      · exact h.sep r o' hr' b (e ▸ hb)
    keep := fun r cs hr arr0 et0 fr0 hb0 => by
      rcases cases2 r _ hr with ⟨rfl, e⟩ | ⟨hlt, hr', e⟩
      · simp only [upd, if_true] at hb0 ⊢
        exact hkeep cs e.symm arr0 et0 fr0 hb0
      · rw [hup r hlt] at hb0 ⊢
        exact h.keep r cs hr' arr0 et0 fr0 hb0
    ghost := fun r cs hr => by
      rcases cases2 r _ hr with ⟨rfl, e⟩ | ⟨hlt, hr', e⟩
      · simp only [upd, if_true]
        exact hgh cs e.symm
      · rw [hup r hlt]
        exact h.ghost r cs hr' }

/-- A variable made. -/
theorem Inv.addBox (h : Inv w0 F0 s a w I ρ) (cs : List AV) (vs : List Value) (et : TypeId) (hl : cs.length = vs.length) (h1 : ∀ u ∈ vs, u.oneCell' = true)
    (hv : ∀ (i : Nat) (v : AV) (u : Value), cs[i]? = some v → vs[i]? = some u → VR w I ρ s.H v u) :
    ∃ ρ', Inv w0 F0 ⟨s.fr, s.H ++ [some (.box cs)]⟩ a (w.alloc (.cells vs.toArray et)) I ρ' ∧
      VR (w.alloc (.cells vs.toArray et)) I ρ' (s.H ++ [some (.box cs)]) (.bptr s.H.length 0) (.pointer (some ⟨w.heap.size, 0, none⟩)) := by
  have hw := h.world (Keeps.alloc (fun _ => False) w (.cells vs.toArray et)) (fun _ _ h => h) (fun _ _ _ _ _ h => h) (fun _ h => h.elim)
  have hnew : (w.alloc (.cells vs.toArray et)).heap[w.heap.size]? = some (.cells vs.toArray et (0, 0)) := heap_alloc_new w _
  have E : Ext w (w.alloc (.cells vs.toArray et)) I I ρ (upd ρ s.H.length ⟨w.heap.size, 0, .nilIface, []⟩) s.H (s.H ++ [some (.box cs)]) := ⟨fun b hb => heap_alloc_old w _ b (h.imm b hb), fun _ h => h, by simp,
    fun r hr => by simp [upd, Nat.ne_of_lt hr], fun r hr v' e m xs hg => by
      rw [hget_app, if_neg (Nat.ne_of_lt hr)] at hg
      exact ⟨v', m, xs, hg, RowStep.same (fun b hb => heap_alloc_old w _ b (h.imm b hb)) (h.roots r _ hg) fun b hb => heap_alloc_old w _ b (h.sep r _ hg b hb).2.1⟩⟩
  refine ⟨_, hw.add (.box cs) ⟨w.heap.size, 0, .nilIface, []⟩ ?_ (by simp [tfp]) ?_ (fun _ _ arr0 et0 fr0 hb0 => absurd (Array.getElem?_eq_some_iff.1 hb0).1 (by have := h.size; simp; omega)), ?_⟩
  · refine ⟨vs.toArray, et, by simpa [upd] using hnew, by simp [upd, hl], fun i v hi => ?_⟩
    have hi' : i < vs.length := by have := (List.getElem?_eq_some_iff.1 hi).1; omega
    refine ⟨vs[i], by simp [upd, hi'], h1 _ (List.getElem_mem hi'), (hv i v vs[i] hi (by simp [hi'])).ext E⟩
  · intro b hb
    simp [tfp, upd] at hb
    subst hb
    refine ⟨fun hh => absurd (h.imm _ hh) (by omega), by simp, .inl h.size, fun r o' hr hb => absurd (h.sep r o' hr _ hb).2.1 (by omega)⟩
  · have := VR.bptr (w := w.alloc (.cells vs.toArray et)) (I := I) (ρ := upd ρ s.H.length ⟨w.heap.size, 0, .nilIface, []⟩) (H := s.H ++ [some (.box cs)]) s.H.length 0 (by simp)
    simpa [upd] using this

/-- A row made; what it owns may have been written. -/
theorem Inv.addRow (h : Inv w0 F0 s a w I ρ) {w' : World} (e : Ty) (m : Md) (xs : List e.den) (hdr : Value) (fp : List Nat)
    (hk : Keeps (fun b => b ∈ fp) w w') (ho : Own w' I (.sl e) (.ow m) [hdr] xs fp) (hnd : fp.Nodup)
    (hf : ∀ b ∈ fp, ¬ I b ∧ (w0.heap.size ≤ b ∨ F0.wr b) ∧ ∀ r o, hget s.H r = some o → b ∉ tfp ρ r o) :
    ∃ ρ', Inv w0 F0 ⟨s.fr, s.H ++ [some (.row 0 e m xs)]⟩ a w' I ρ' ∧ VR w' I ρ' (s.H ++ [some (.row 0 e m xs)]) (.ref e s.H.length 0 [] 0 xs.length) hdr := by
  have hw := h.world hk (fun b hb hh => (hf b hh).1 hb) (fun r o hr b hb hh => (hf b hh).2.2 r o hr hb) (fun b hb _ => (hf b hb).2.1)
  have hlt := ho.lt
  refine ⟨_, hw.add (.row 0 e m xs) ⟨0, 0, hdr, fp⟩ (by simpa [RootOk, upd] using ho) (by simpa [tfp, upd] using hnd) ?_ (fun _ hh => by cases hh), ?_⟩
  · intro b hb
    have hb' : b ∈ fp := by simpa [tfp, upd] using hb
    exact ⟨(hf b hb').1, hlt b hb', (hf b hb').2.1, (hf b hb').2.2⟩
  · have hshape : ∃ A c, hdr = .slice A xs.length c ∧ xs.length ≤ c := by
      rcases ho.2 with ⟨he, hx, _⟩ | ⟨b, c, arr, et, fps, he, _, hc, _⟩
      · exact ⟨none, 0, by simp at he; simp [he, hx]⟩
      · exact ⟨_, c, by simpa using he, hc⟩
    obtain ⟨A, c, rfl, hnc⟩ := hshape
    refine .ref e s.H.length 0 [] 0 xs.length A c (by simp) ho.1 hnc fun v' e' m' xs' hg => ?_
    rw [hget_app, if_pos rfl] at hg
    cases hg
    refine ⟨Nat.le_refl _, fun _ => ⟨A, c, xs.length, none, by simp [walk, upd], by omega, fun _ => ?_, fun _ => ⟨rfl, rfl⟩⟩⟩
    cases A with
    | none => rfl
    | some a => simp [Addr.add]
end

end Go.Vee

set_option linter.unusedSimpArgs false
set_option linter.unusedVariables false
namespace Go.Vee
open Go

theorem Keeps.setRow (w : World) (b : Nat) (arr : Array Value) (T : Nat → Prop) (hT : T b) : Keeps T w (w.setRow b arr) :=
  ⟨rfl, rfl, rfl, by simp, fun k _ hk => setRow_other w b k arr (fun h => hk (h ▸ hT))⟩

/-- A row of cells with a part laid anew. -/
def lay (arr : Array Value) (off : Nat) (vs : List Value) : Array Value := (arr.toList.take off ++ vs ++ arr.toList.drop (off + vs.length)).toArray

theorem lay_size {arr : Array Value} {off : Nat} {vs : List Value} (h : off + vs.length ≤ arr.size) : (lay arr off vs).size = arr.size := by
  simp [lay]; omega

theorem lay_get {arr : Array Value} {off : Nat} {vs : List Value} (h : off + vs.length ≤ arr.size) (i : Nat) :
    (lay arr off vs)[i]? = if off ≤ i ∧ i < off + vs.length then vs[i - off]? else arr[i]? := by
  simp only [lay, List.getElem?_toArray]
  by_cases h1 : i < off
  · rw [List.append_assoc, List.getElem?_append_left (by simp; omega), List.getElem?_take, if_pos h1, if_neg (by omega)]
    simp
  · by_cases h2 : i < off + vs.length
    · rw [List.append_assoc, List.getElem?_append_right (by simp; omega), List.getElem?_append_left (by simp; omega), if_pos (by omega)]
      simp
      congr 1
      omega
    · rw [List.getElem?_append_right (by simp; omega), List.getElem?_drop, if_neg (by omega)]
      simp
      congr 1
      omega

theorem lay_near {arr : Array Value} {off n : Nat} {vs : List Value} (h : off + vs.length ≤ arr.size) (hn : vs.length = n) : Near arr (lay arr off vs) off n :=
  ⟨lay_size h, fun i hi => by rw [lay_get h, if_neg (by omega)]⟩

theorem lay_seg {arr : Array Value} {off n : Nat} {vs : List Value} (h : off + vs.length ≤ arr.size) (hn : vs.length = n) : seg (lay arr off vs) off n = vs := by
  subst hn
  apply List.ext_getElem?
  intro j
  by_cases hj : j < vs.length
  · rw [seg_get hj, lay_get h, if_pos (by omega)]
    simp
  · have hl := seg_length (arr := lay arr off vs) (i := off) (n := vs.length) (by rw [lay_size h]; exact h)
    rw [List.getElem?_eq_none (l := seg _ _ _) (by omega), List.getElem?_eq_none (by omega)]

theorem putCs_length : ∀ (vs cs : List AV) (off : Nat), (putCs cs off vs).length = cs.length
  | [], _, _ => rfl
  | v :: vs, cs, off => by simp [putCs, putCs_length vs]

theorem putCs_get : ∀ (vs cs : List AV) (off i : Nat), off + vs.length ≤ cs.length → (putCs cs off vs)[i]? = if off ≤ i ∧ i < off + vs.length then vs[i - off]? else cs[i]?
  | [], cs, off, i, h => by simp [putCs]; omega
  | v :: vs, cs, off, i, h => by
    simp only [putCs]
    rw [putCs_get vs _ _ _ (by simp at h ⊢; omega)]
    simp only [List.length_cons] at h ⊢
    by_cases h1 : off + 1 ≤ i ∧ i < off + 1 + vs.length
    · rw [if_pos h1, if_pos (by omega)]
      have : i - off = (i - (off + 1)) + 1 := by omega
      rw [this]; simp
    · rw [if_neg h1]
      by_cases h2 : i = off
      · subst h2
        rw [if_pos (by omega)]
        have hi : i < cs.length := by omega
        simp [hi]
      · rw [if_neg (by omega), List.getElem?_set, if_neg (Ne.symm h2)]

section
variable {w0 w : World} {F0 : Bnd} {s : St} {a : Act} {I : Nat → Prop} {ρ : Nat → RC}

/-- A variable's cells are written. -/
theorem Inv.setBox (h : Inv w0 F0 s a w I ρ) {r : Nat} {cs : List AV} (hr : hget s.H r = some (.box cs)) (off : Nat) (vs : List AV) (us : List Value) (hl : vs.length = us.length) (hoff : off + vs.length ≤ cs.length)
    (h1 : ∀ u ∈ us, u.oneCell' = true) (hv : ∀ (i : Nat) (v : AV) (u : Value), vs[i]? = some v → us[i]? = some u → VR w I ρ s.H v u) :
    ∃ arr et, w.heap[(ρ r).b]? = some (.cells arr et (0, 0)) ∧ (ρ r).off + off + us.length ≤ arr.size ∧
      Inv w0 F0 ⟨s.fr, s.H.set r (some (.box (putCs cs off vs)))⟩ a (w.setRow (ρ r).b (lay arr ((ρ r).off + off) us)) I ρ := by
  obtain ⟨arr, et, hb, hsz, hcell⟩ := h.roots r _ hr
  have hrl := hget_lt hr
  refine ⟨arr, et, hb, by omega, ?_⟩
  have hfit : (ρ r).off + off + us.length ≤ arr.size := by omega
  have hnb : (w.setRow (ρ r).b (lay arr ((ρ r).off + off) us)).heap[(ρ r).b]? = some (.cells (lay arr ((ρ r).off + off) us) et (0, 0)) := setRow_heap w _ arr _ et _ hb
  have hsep := h.sep r _ hr (ρ r).b (by simp [tfp])
  have hIb : ∀ b, I b → (w.setRow (ρ r).b (lay arr ((ρ r).off + off) us)).heap[b]? = w.heap[b]? := fun b hb' => setRow_other w _ _ _ (fun e => hsep.1 (e ▸ hb'))
  have hoth : ∀ r' o, r' ≠ r → hget s.H r' = some o → ∀ b ∈ tfp ρ r' o, (w.setRow (ρ r).b (lay arr ((ρ r).off + off) us)).heap[b]? = w.heap[b]? := fun r' o hne hr' b hb' =>
    setRow_other w _ _ _ (fun e => h.disj r' o r _ hne hr' hr b hb' (by simp [tfp, e]))
  have E : Ext w (w.setRow (ρ r).b (lay arr ((ρ r).off + off) us)) I I ρ ρ s.H (s.H.set r (some (.box (putCs cs off vs)))) := ⟨hIb, fun _ h => h, by simp, fun _ _ => ⟨rfl, rfl, rfl⟩, fun r' _ v' e m xs hg => by
    rw [hget_set hrl] at hg
    split at hg
    · cases hg
    · rename_i hne
      exact ⟨v', m, xs, hg, RowStep.same hIb (h.roots r' _ hg) (hoth r' _ hne hg)⟩⟩
  have cases2 : ∀ r' o, hget (s.H.set r (some (.box (putCs cs off vs)))) r' = some o → (r' = r ∧ o = .box (putCs cs off vs)) ∨ (r' ≠ r ∧ hget s.H r' = some o) := fun r' o hr' => by
    rw [hget_set hrl] at hr'
    split at hr'
    · rename_i e; cases hr'; exact .inl ⟨e, rfl⟩
    · rename_i e; exact .inr ⟨e, hr'⟩
  exact { h with
    slots := fun i v hv => let ⟨u, h1, h2⟩ := h.slots i v hv; ⟨u, h1, h2.ext E⟩
    roots := fun r' o hr' => by
      rcases cases2 r' o hr' with ⟨rfl, rfl⟩ | ⟨hne, hr2⟩
      · refine ⟨_, et, hnb, by rw [lay_size hfit, putCs_length]; exact hsz, fun i v hi => ?_⟩
        rw [putCs_get _ _ _ _ hoff] at hi
        rw [lay_get hfit]
        by_cases hin : off ≤ i ∧ i < off + vs.length
        · rw [if_pos hin] at hi
          rw [if_pos (by omega)]
          have hlt : i - off < us.length := by omega
          have he : (ρ r').off + i - ((ρ r').off + off) = i - off := by omega
          refine ⟨us[i - off], by rw [he]; simp [hlt], h1 _ (List.getElem_mem hlt), (hv (i - off) v _ hi (by simp [hlt])).ext E⟩
        · rw [if_neg hin] at hi
          rw [if_neg (by omega)]
          obtain ⟨u, hu, h4, h5⟩ := hcell i v hi
          exact ⟨u, hu, h4, h5.ext E⟩
      · exact (h.roots r' o hr2).ext E (hget_lt hr2) rfl (hoth r' o hne hr2)
    nodup := fun r' o hr' => by
      rcases cases2 r' o hr' with ⟨rfl, rfl⟩ | ⟨hne, hr2⟩
      · simp [tfp]
      · exact h.nodup r' o hr2
    disj := fun r1 o1 r2 o2 hne hr1 hr2 b hb1 hb2 => by
      rcases cases2 r1 o1 hr1 with ⟨rfl, rfl⟩ | ⟨hne1, hr1'⟩
      · rcases cases2 r2 o2 hr2 with ⟨rfl, rfl⟩ | ⟨hne2, hr2'⟩
        · exact hne rfl
        · exact h.disj _ _ _ _ hne hr hr2' b (by simpa [tfp] using hb1) hb2
      · rcases cases2 r2 o2 hr2 with ⟨rfl, rfl⟩ | ⟨hne2, hr2'⟩
        · exact h.disj _ _ _ _ hne hr1' hr b hb1 (by simpa [tfp] using hb2)
        · exact h.disj _ _ _ _ hne hr1' hr2' b hb1 hb2
    imm := fun b hb' => by simpa using h.imm b hb'
    sep := fun r' o hr' b hb' => by
      rcases cases2 r' o hr' with ⟨rfl, rfl⟩ | ⟨hne, hr2⟩
      · have : b = (ρ r').b := by simpa [tfp] using hb'
        subst this
        simpa using hsep
      · simpa using h.sep r' o hr2 b hb'
    size := by simpa using h.size
    frame := fun b hb' hf => by
      by_cases e : b = (ρ r).b
      · subst e
        exact (hsep.2.2.elim (fun q => absurd q (by omega)) (fun q => absurd q hf))
      · exact (setRow_other w _ _ _ e).trans (h.frame b hb' hf)
    keep := fun r' cs' hr' arr0 et0 fr0 hb0 => by
      rcases cases2 r' _ hr' with ⟨rfl, e⟩ | ⟨hne, hr2⟩
      · cases e
        obtain ⟨arr', et', hb', hn⟩ := h.keep r' cs hr arr0 et0 fr0 hb0
        rw [hb] at hb'
        cases hb'
        refine ⟨_, _, hnb, ⟨(lay_size hfit).trans hn.size, fun i hi => ?_⟩⟩
        rw [putCs_length] at hi
        rw [lay_get hfit, if_neg (by omega)]
        exact hn.same i hi
      · obtain ⟨arr', et', hb', hn⟩ := h.keep r' cs' hr2 arr0 et0 fr0 hb0
        exact ⟨arr', et', (hoth r' _ hne hr2 _ (by simp [tfp])).trans hb', hn⟩
    ghost := fun r' cs' hr' => by
      rcases cases2 r' _ hr' with ⟨rfl, e⟩ | ⟨hne, hr2⟩
      · cases e
      · exact h.ghost r' cs' hr2 }

end
end Go.Vee

set_option linter.unusedSimpArgs false
set_option linter.unusedVariables false
namespace Go.Vee
open Go

/-- 'Own.lens' for a row whose header is in hand. -/
theorem Own.lensRow {w : World} {I : Nat → Prop} {e : Ty} {m1 : Md} {x : List e.den} {hdr : Value} {fp : List Nat} {i : Nat} {q : List Stp}
    {l' : Option (Nat × Nat)} {t' t2 : Ty} {m' : Md} {x' : t'.den} {cs' : List Value}
    (hnd : fp.Nodup) (h : Own w I (.sl e) (.ow m1) [hdr] x fp) (hg : getAt Alg.std (.sl e) (.ow m1) x (.idx i :: q) = some ⟨t', m', x'⟩)
    (hw : walk w (.sl e) [hdr] none (.idx i :: q) = some (t2, cs', l')) :
    ∃ b' off' fp1 arr0 et0, l' = some (b', off') ∧ t2 = t' ∧ Own w I t' m' cs' x' fp1 ∧ fp1.Nodup ∧ (∀ k ∈ fp1, k ∈ fp) ∧ b' ∉ fp1 ∧ b' ∈ fp ∧
      w.heap[b']? = some (.cells arr0 et0 (0, 0)) ∧ cs' = seg arr0 off' t'.sz ∧ off' + t'.sz ≤ arr0.size ∧
      ∀ (w' : World) (I' : Nat → Prop) (arr1 : Array Value) (et1 : TypeId) (y : t'.den) (fp2 : List Nat) (x2 : List e.den),
        (∀ k, I k → w'.heap[k]? = w.heap[k]?) → (∀ k, I k → I' k) →
        (∀ k, k ≠ b' → (k ∈ fp ∧ k ∉ fp1) → w'.heap[k]? = w.heap[k]?) →
        w'.heap[b']? = some (.cells arr1 et1 (0, 0)) → Near arr0 arr1 off' t'.sz →
        Own w' I' t' m' (seg arr1 off' t'.sz) y fp2 → fp2.Nodup → (∀ k ∈ fp2, k ∈ fp → k ∈ fp1) → b' ∉ fp2 →
        setAt Alg.std (.sl e) (.ow m1) x (.idx i :: q) t' m' y = some x2 →
        ∃ fp3, Own w' I' (.sl e) (.ow m1) [hdr] x2 fp3 ∧ fp3.Nodup ∧ (∀ k ∈ fp3, (k ∈ fp ∧ k ∉ fp1) ∨ k ∈ fp2) ∧
          (∀ b off n c arr, hdr = .slice (some ⟨b, off, none⟩) n c → w.heap[b]? = some arr → ∃ a1 a2 t1 t2, arr = .cells a1 t1 (0, 0) ∧ w'.heap[b]? = some (.cells a2 t2 (0, 0))) := by
  rcases h.2 with ⟨hh, rfl, rfl⟩ | ⟨b1, c, arrs, ets, fps, hc, hb1, h1, h2, h3, h4, rfl, hel⟩
  · cases hh; simp [walk] at hw
  · cases hc
    simp only [walk, hb1, Nat.zero_add] at hw
    split at hw
    · rename_i hlt
      simp only [getAt, getL_std _ _ _ hlt] at hg
      rw [List.nodup_cons] at hnd
      obtain ⟨hb1n, hnf⟩ := hnd
      obtain ⟨hnj, hdj⟩ := nodup_flatten.1 hnf
      have hin : ∀ j, j < List.length x → j * e.sz + e.sz ≤ arrs.size := fun j hj => by
        have : (j + 1) * e.sz ≤ c * e.sz := Nat.mul_le_mul_right _ (by omega)
        rw [Nat.add_mul, Nat.one_mul] at this
        omega
      have hb1i : b1 ∉ fps.getD i [] := fun hh => hb1n (mem_flatten_getD.2 ⟨i, hh⟩)
      obtain ⟨b', off', fp1, arr0, et0, rfl, ee, ho, hfp1nd, hsub, hbn, hwh, hh0, hcs', hsz', hlens⟩ := Own.lens q hb1 (hin i hlt) rfl hb1i (hnj i) (hel i hlt) hg hw
      refine ⟨b', off', fp1, arr0, et0, rfl, ee, ho, hfp1nd, fun k hk => List.mem_cons_of_mem _ (mem_flatten_getD.2 ⟨i, hsub k hk⟩), hbn, ?_, hh0, hcs', hsz', ?_⟩
      · rcases hwh with ⟨e, _⟩ | h5
        · simp [e]
        · exact List.mem_cons_of_mem _ (mem_flatten_getD.2 ⟨i, h5⟩)
      · intro w' I' arr1 et1 y fp2 x2 hI hII hk hb1' hn ho' hnd2 hd hbb' hs
        simp only [setAt, getL_std _ _ _ hlt] at hs
        split at hs
        · rename_i z hz
          cases hs
          have hb1fp1 : b1 ∉ fp1 := fun hh => hb1i (hsub _ hh)
          have hb1fp2 : b1 ∉ fp2 := fun hh => hb1fp1 (hd b1 hh (by simp))
          obtain ⟨fp3, arrb, etb, g1, g2, g3, g4, g5⟩ := hlens w' I' arr1 et1 y fp2 z hI hII
            (fun k hkb hkk => hk k hkb (by
              rcases hkk with q | q
              · exact ⟨List.mem_cons_of_mem _ (mem_flatten_getD.2 ⟨i, q.1⟩), q.2⟩
              · subst q; exact ⟨by simp, hb1fp1⟩))
            hb1' hn ho' hnd2 (fun k hk2 hkf => hd k hk2 (List.mem_cons_of_mem _ (mem_flatten_getD.2 ⟨i, hkf⟩))) hb1fp2 hbb' hz
          have hb3 : b1 ∉ fp3 := fun hh => by
            rcases g5 b1 hh with q | q
            · exact hb1i q.1
            · exact hb1fp2 q
          have hfi : i < fps.length := by omega
          have hzero : (arrb.size = c * e.sz) := by rw [g2.size, h3]
          refine ⟨b1 :: (fps.set i fp3).flatten, ?_, ?_, ?_, ?_⟩
          · refine ⟨by simpa [Alg.std] using h.1, .inr ⟨b1, c, arrb, etb, fps.set i fp3, by simp [Alg.std], g1, by simpa [Alg.std] using h1, h2, hzero, by simp [Alg.std, h4], rfl, ?_⟩⟩
            intro j hj
            have hj' : j < List.length x := by simpa [Alg.std] using hj
            rw [getD_set hfi]
            by_cases hji : j = i
            · subst hji
              simp only [if_true]
              have : (Alg.std.setL x j z)[j]'hj = z := by simp [Alg.std]
              rw [this]
              exact g3
            · simp only [hji, if_false]
              have : (Alg.std.setL x i z)[j]'hj = x[j]'hj' := by simp [Alg.std, Ne.symm hji]
              rw [this]
              have hsg : seg arrb (j * e.sz) e.sz = seg arrs (j * e.sz) e.sz := by
                refine g2.seg ?_
                rcases Nat.lt_or_gt_of_ne hji with q | q
                · left
                  have : (j + 1) * e.sz ≤ i * e.sz := Nat.mul_le_mul_right _ q
                  rw [Nat.add_mul, Nat.one_mul] at this
                  exact this
                · right
                  have : (i + 1) * e.sz ≤ j * e.sz := Nat.mul_le_mul_right _ q
                  rw [Nat.add_mul, Nat.one_mul] at this
                  exact this
              rw [hsg]
              refine Own.frame hI hII (hel j hj') fun q hq => hk q ?_ ⟨List.mem_cons_of_mem _ (mem_flatten_getD.2 ⟨j, hq⟩), fun hq1 => hdj j i hji q hq (hsub q hq1)⟩
              rintro rfl
              rcases hwh with ⟨e, _⟩ | h5
              · exact hb1n (mem_flatten_getD.2 ⟨j, e ▸ hq⟩)
              · exact hdj j i hji _ hq h5
          · rw [List.nodup_cons]
            refine ⟨fun hh => ?_, nodup_flatten.2 ⟨fun j => ?_, fun j k hjk q hq hq2 => ?_⟩⟩
            · obtain ⟨j, hj⟩ := mem_flatten_getD.1 hh
              rw [getD_set hfi] at hj
              split at hj
              · exact hb3 hj
              · exact hb1n (mem_flatten_getD.2 ⟨j, hj⟩)
            · rw [getD_set hfi]
              split
              · exact g4
              · exact hnj j
            · rw [getD_set hfi] at hq hq2
              have key : ∀ j, j ≠ i → q ∈ fp3 → q ∉ fps.getD j [] := fun j hji h3 hj => by
                rcases g5 q h3 with r | r
                · exact hdj i j (Ne.symm hji) q r.1 hj
                · exact hdj i j (Ne.symm hji) q (hsub q (hd q r (List.mem_cons_of_mem _ (mem_flatten_getD.2 ⟨j, hj⟩)))) hj
              split at hq
              · split at hq2
                · omega
                · exact key k (by assumption) hq hq2
              · split at hq2
                · exact key j (by assumption) hq2 hq
                · exact hdj j k hjk q hq hq2
          · intro k hk3
            rcases List.mem_cons.1 hk3 with rfl | hk3
            · exact .inl ⟨by simp, hb1fp1⟩
            · obtain ⟨j, hj⟩ := mem_flatten_getD.1 hk3
              rw [getD_set hfi] at hj
              split at hj
              · exact (g5 k hj).imp (fun q => ⟨List.mem_cons_of_mem _ (mem_flatten_getD.2 ⟨i, q.1⟩), q.2⟩) id
              · rename_i hji
                exact .inl ⟨List.mem_cons_of_mem _ (mem_flatten_getD.2 ⟨j, hj⟩), fun hq1 => hdj j i hji k hj (hsub k hq1)⟩
          · intro b off n c2 ob hq hob
            cases hq
            rw [hb1] at hob
            cases hob
            exact ⟨_, _, _, _, rfl, g1⟩
        · cases hs
    · cases hw

end Go.Vee

set_option linter.unusedSimpArgs false
set_option linter.unusedVariables false
namespace Go.Vee
open Go

section
variable {w0 w : World} {F0 : Bnd} {s : St} {a : Act} {I : Nat → Prop} {ρ : Nat → RC}

/-- A place in a row; the row when the place is written. -/
theorem Inv.rowAtX (h : Inv w0 F0 s a w I ρ) {r v : Nat} {e : Ty} {m : Md} {xs : List e.den} {i : Nat} {q : List Stp} (hr : hget s.H r = some (.row v e m xs))
    {l' : Option (Nat × Nat)} {t' t2 : Ty} {m' : Md} {x' : t'.den} {cs' : List Value}
    (hg : getAt Alg.std (.sl e) (.ow m) xs (.idx i :: q) = some ⟨t', m', x'⟩) (hw : walk w (.sl e) [(ρ r).hdr] none (.idx i :: q) = some (t2, cs', l')) :
    ∃ b' off' fp1 arr0 et0, l' = some (b', off') ∧ t2 = t' ∧ Own w I t' m' cs' x' fp1 ∧ fp1.Nodup ∧ (∀ k ∈ fp1, k ∈ (ρ r).fp) ∧ b' ∉ fp1 ∧ b' ∈ (ρ r).fp ∧
      w.heap[b']? = some (.cells arr0 et0 (0, 0)) ∧ cs' = seg arr0 off' t'.sz ∧ off' + t'.sz ≤ arr0.size ∧
      ∀ (w' : World) (arr1 : Array Value) (et1 : TypeId) (y : t'.den) (fp2 : List Nat) (xs2 : List e.den),
        Keeps (fun k => k = b' ∨ k ∈ fp1) w w' → w'.heap[b']? = some (.cells arr1 et1 (0, 0)) → Near arr0 arr1 off' t'.sz → Own w' I t' m' (seg arr1 off' t'.sz) y fp2 → fp2.Nodup →
        (∀ k ∈ fp2, k ∈ fp1 ∨ (k ∉ (ρ r).fp ∧ ¬ I k ∧ (w0.heap.size ≤ k ∨ F0.wr k) ∧ ∀ r' o, r' ≠ r → hget s.H r' = some o → k ∉ tfp ρ r' o)) →
        setAt Alg.std (.sl e) (.ow m) xs (.idx i :: q) t' m' y = some xs2 →
        ∃ ρ', Inv w0 F0 ⟨s.fr, s.H.set r (some (.row (if e.hasSl then v + 1 else v) e m xs2))⟩ a w' I ρ' ∧ Ext w w' I I ρ ρ' s.H (s.H.set r (some (.row (if e.hasSl then v + 1 else v) e m xs2))) ∧
          (∀ k, k ≠ r → ρ' k = ρ k) ∧ ∀ k ∈ (ρ' r).fp, (k ∈ (ρ r).fp ∧ k ∉ fp1) ∨ k ∈ fp2 := by
  have hok : Own w I (.sl e) (.ow m) [(ρ r).hdr] xs (ρ r).fp := h.roots r _ hr
  have hnd : (ρ r).fp.Nodup := h.nodup r _ hr
  have hrl := hget_lt hr
  have hsep := h.sep r _ hr
  obtain ⟨b', off', fp1, arr0, et0, rfl, e2, ho, hnd1, hsub, hbn, hbin, hh0, hcs', hsz', hlens⟩ := Own.lensRow hnd hok hg hw
  refine ⟨b', off', fp1, arr0, et0, rfl, e2, ho, hnd1, hsub, hbn, hbin, hh0, hcs', hsz', ?_⟩
  intro w' arr1 et1 y fp2 xs2 hk hb1 hn ho2 hnd2 hfp2 hs
  have hTin : ∀ k, (k = b' ∨ k ∈ fp1) → k ∈ (ρ r).fp := fun k hk => hk.elim (fun e => e ▸ hbin) (hsub k)
  have hIb : ∀ b, I b → w'.heap[b]? = w.heap[b]? := fun b hb => hk.block b (h.imm b hb) fun ht => (hsep b (by simpa [tfp] using hTin b ht)).1 hb
  have hoth : ∀ r' o, r' ≠ r → hget s.H r' = some o → ∀ b ∈ tfp ρ r' o, w'.heap[b]? = w.heap[b]? := fun r' o hne hr' b hb =>
    hk.block b (h.sep r' o hr' b hb).2.1 fun ht => h.disj r' o r _ hne hr' hr b hb (by simpa [tfp] using hTin b ht)
  have hb'2 : b' ∉ fp2 := fun hh => (hfp2 b' hh).elim hbn (fun q => q.1 hbin)
  obtain ⟨fp3, g1, g2, g3, g4⟩ := hlens w' I arr1 et1 y fp2 xs2 hIb (fun _ h => h)
    (fun k hkb hkf => hk.block k (hok.lt k hkf.1) (fun ht => ht.elim hkb hkf.2)) hb1 hn ho2 hnd2 (fun k hk2 hkf => (hfp2 k hk2).elim id (fun q => absurd hkf q.1)) hb'2 hs
  have hup : ∀ k, k ≠ r → upd ρ r ⟨(ρ r).b, (ρ r).off, (ρ r).hdr, fp3⟩ k = ρ k := fun k hk => by simp [upd, hk]
  have hur : upd ρ r ⟨(ρ r).b, (ρ r).off, (ρ r).hdr, fp3⟩ r = ⟨(ρ r).b, (ρ r).off, (ρ r).hdr, fp3⟩ := by simp [upd]
  have hstep : RowStep w w' (ρ r).hdr e m m v (if e.hasSl then v + 1 else v) := by
    refine ⟨by split <;> omega, fun h => h, .inr ⟨fun _ hh => by simp [hh], fun p t cs l hp hwp => ?_⟩⟩
    rcases walk_sl hwp with ⟨rfl, he⟩ | ⟨j, q', b, off, n, c, arr, et, fr, rfl, hhd, hb, hlt, hwq⟩
    · cases he; exact ⟨[(ρ r).hdr], by simp [walk]⟩
    · obtain ⟨a1, a2, t1, t2', q1, q2⟩ := g4 b off n c _ hhd hb
      obtain ⟨cs2, hc2⟩ := walk_flat (w' := w') (cs2 := seg a2 (off + j * e.sz) e.sz) q' (by simp [hops] at hp; omega) hwq
      exact ⟨cs2, by rw [hhd]; simp only [walk, q2, hlt, if_true]; exact hc2⟩
  have E : Ext w w' I I ρ (upd ρ r ⟨(ρ r).b, (ρ r).off, (ρ r).hdr, fp3⟩) s.H (s.H.set r (some (.row (if e.hasSl then v + 1 else v) e m xs2))) := by
    refine ⟨hIb, fun _ h => h, by simp, fun k hk => ?_, fun r' hr' v' e' m' xs' hg' => ?_⟩
    · by_cases hkr : k = r
      · subst hkr; rw [hur]; exact ⟨rfl, rfl, rfl⟩
      · rw [hup k hkr]; exact ⟨rfl, rfl, rfl⟩
    · rw [hget_set hrl] at hg'
      split at hg'
      · rename_i hrr
        subst hrr
        cases hg'
        exact ⟨v, _, xs, hr, hstep⟩
      · rename_i hne
        exact ⟨v', m', xs', hg', RowStep.same hIb (h.roots r' _ hg') (hoth r' _ hne hg')⟩
  have cases2 : ∀ r' o, hget (s.H.set r (some (.row (if e.hasSl then v + 1 else v) e m xs2))) r' = some o → (r' = r ∧ o = .row (if e.hasSl then v + 1 else v) e m xs2) ∨ (r' ≠ r ∧ hget s.H r' = some o) := fun r' o hr' => by
    rw [hget_set hrl] at hr'
    split at hr'
    · rename_i e; cases hr'; exact .inl ⟨e, rfl⟩
    · rename_i e; exact .inr ⟨e, hr'⟩
  have htfp : ∀ r' o, r' ≠ r → hget s.H r' = some o → tfp (upd ρ r ⟨(ρ r).b, (ρ r).off, (ρ r).hdr, fp3⟩) r' o = tfp ρ r' o := fun r' o hne hr' => tfp_ext E (hget_lt hr') (by rw [hup r' hne])
  have h3 : ∀ k ∈ fp3, ¬ I k ∧ k < w'.heap.size ∧ (w0.heap.size ≤ k ∨ F0.wr k) ∧ ∀ r' o, r' ≠ r → hget s.H r' = some o → k ∉ tfp ρ r' o := fun k hk3 => by
    have hlt3 := g1.lt k hk3
    have base : k ∈ (ρ r).fp → _ := fun hkf => (⟨(hsep k (by simpa [tfp] using hkf)).1, hlt3, (hsep k (by simpa [tfp] using hkf)).2.2, fun r' o hne hr' hb => h.disj r' o r _ hne hr' hr k hb (by simpa [tfp] using hkf)⟩ :
      ¬ I k ∧ k < w'.heap.size ∧ (w0.heap.size ≤ k ∨ F0.wr k) ∧ ∀ r' o, r' ≠ r → hget s.H r' = some o → k ∉ tfp ρ r' o)
    rcases g3 k hk3 with q | q
    · exact base q.1
    · rcases hfp2 k q with q1 | q1
      · exact base (hsub k q1)
      · exact ⟨q1.2.1, hlt3, q1.2.2.1, q1.2.2.2⟩
  refine ⟨_, ?_, E, hup, fun k hk => by rw [hur] at hk; exact g3 k hk⟩
  exact { h with
    slots := fun i v hv => let ⟨u, h1, h2⟩ := h.slots i v hv; ⟨u, h1, h2.ext E⟩
    roots := fun r' o hr' => by
      rcases cases2 r' o hr' with ⟨rfl, rfl⟩ | ⟨hne, hr2⟩
      · simp only [RootOk, hur]; exact g1
      · exact (h.roots r' o hr2).ext E (hget_lt hr2) (by rw [hup r' hne]) (hoth r' o hne hr2)
    nodup := fun r' o hr' => by
      rcases cases2 r' o hr' with ⟨rfl, rfl⟩ | ⟨hne, hr2⟩
      · simpa [tfp, hur] using g2
      · rw [htfp r' o hne hr2]; exact h.nodup r' o hr2
    disj := fun r1 o1 r2 o2 hne hr1 hr2 b hb1 hb2 => by
      rcases cases2 r1 o1 hr1 with ⟨rfl, rfl⟩ | ⟨hne1, hr1'⟩
      · rcases cases2 r2 o2 hr2 with ⟨rfl, rfl⟩ | ⟨hne2, hr2'⟩
        · exact hne rfl
        · rw [htfp _ _ hne2 hr2'] at hb2
          exact (h3 b (by simpa [tfp, hur] using hb1)).2.2.2 _ _ hne2 hr2' hb2
      · rw [htfp _ _ hne1 hr1'] at hb1
        rcases cases2 r2 o2 hr2 with ⟨rfl, rfl⟩ | ⟨hne2, hr2'⟩
        · exact (h3 b (by simpa [tfp, hur] using hb2)).2.2.2 _ _ hne1 hr1' hb1
        · rw [htfp _ _ hne2 hr2'] at hb2
          exact h.disj _ _ _ _ hne hr1' hr2' b hb1 hb2
    imm := fun b hb' => Nat.lt_of_lt_of_le (h.imm b hb') hk.size
    sep := fun r' o hr' b hb' => by
      rcases cases2 r' o hr' with ⟨rfl, rfl⟩ | ⟨hne, hr2⟩
      · have := h3 b (by simpa [tfp, hur] using hb')
        exact ⟨this.1, this.2.1, this.2.2.1⟩
      · rw [htfp _ _ hne hr2] at hb'
        have := h.sep r' o hr2 b hb'
        exact ⟨this.1, Nat.lt_of_lt_of_le this.2.1 hk.size, this.2.2⟩
    os := hk.os.trans h.os
    tape := hk.tape.trans h.tape
    output := hk.output.trans h.output
    size := Nat.le_trans h.size hk.size
    frame := fun b hb' hf => by
      by_cases ht : b = b' ∨ b ∈ fp1
      · have := (hsep b (by simpa [tfp] using hTin b ht)).2.2
        exact this.elim (fun q => absurd q (by omega)) (fun q => absurd q hf)
      · exact (hk.block b (Nat.lt_of_lt_of_le hb' h.size) ht).trans (h.frame b hb' hf)
    keep := fun r' cs' hr' arr0 et0 fr0 hb0 => by
      rcases cases2 r' _ hr' with ⟨rfl, e⟩ | ⟨hne, hr2⟩
      · cases e
      · rw [hup r' hne] at hb0 ⊢
        obtain ⟨arr', et', hb', hn⟩ := h.keep r' cs' hr2 arr0 et0 fr0 hb0
        exact ⟨arr', et', (hoth r' _ hne hr2 _ (by simp [tfp])).trans hb', hn⟩
    ghost := fun r' cs' hr' => by
      rcases cases2 r' _ hr' with ⟨rfl, e⟩ | ⟨hne, hr2⟩
      · cases e
      · rw [hup r' hne]
        exact h.ghost r' cs' hr2 }

theorem Inv.rowAt (h : Inv w0 F0 s a w I ρ) {r v : Nat} {e : Ty} {m : Md} {xs : List e.den} {i : Nat} {q : List Stp} (hr : hget s.H r = some (.row v e m xs))
    {l' : Option (Nat × Nat)} {t' t2 : Ty} {m' : Md} {x' : t'.den} {cs' : List Value}
    (hg : getAt Alg.std (.sl e) (.ow m) xs (.idx i :: q) = some ⟨t', m', x'⟩) (hw : walk w (.sl e) [(ρ r).hdr] none (.idx i :: q) = some (t2, cs', l')) :
    ∃ b' off' fp1 arr0 et0, l' = some (b', off') ∧ t2 = t' ∧ Own w I t' m' cs' x' fp1 ∧ fp1.Nodup ∧ (∀ k ∈ fp1, k ∈ (ρ r).fp) ∧ b' ∉ fp1 ∧ b' ∈ (ρ r).fp ∧
      w.heap[b']? = some (.cells arr0 et0 (0, 0)) ∧ cs' = seg arr0 off' t'.sz ∧ off' + t'.sz ≤ arr0.size ∧
      ∀ (w' : World) (arr1 : Array Value) (et1 : TypeId) (y : t'.den) (fp2 : List Nat) (xs2 : List e.den),
        Keeps (fun k => k = b' ∨ k ∈ fp1) w w' → w'.heap[b']? = some (.cells arr1 et1 (0, 0)) → Near arr0 arr1 off' t'.sz → Own w' I t' m' (seg arr1 off' t'.sz) y fp2 → fp2.Nodup →
        (∀ k ∈ fp2, k ∈ fp1 ∨ (k ∉ (ρ r).fp ∧ ¬ I k ∧ (w0.heap.size ≤ k ∨ F0.wr k) ∧ ∀ r' o, r' ≠ r → hget s.H r' = some o → k ∉ tfp ρ r' o)) →
        setAt Alg.std (.sl e) (.ow m) xs (.idx i :: q) t' m' y = some xs2 →
        ∃ ρ', Inv w0 F0 ⟨s.fr, s.H.set r (some (.row (if e.hasSl then v + 1 else v) e m xs2))⟩ a w' I ρ' ∧ Ext w w' I I ρ ρ' s.H (s.H.set r (some (.row (if e.hasSl then v + 1 else v) e m xs2))) := by
  obtain ⟨b', off', fp1, arr0, et0, q1, q2, q3, q4, q5, q6, q7, q8, q9, q10, q11⟩ := h.rowAtX hr hg hw
  refine ⟨b', off', fp1, arr0, et0, q1, q2, q3, q4, q5, q6, q7, q8, q9, q10, fun w' arr1 et1 y fp2 xs2 k1 k2 k3 k4 k5 k6 k7 => ?_⟩
  obtain ⟨ρ', z1, z2, _⟩ := q11 w' arr1 et1 y fp2 xs2 k1 k2 k3 k4 k5 k6 k7
  exact ⟨ρ', z1, z2⟩

end
end Go.Vee

