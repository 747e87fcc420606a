import Derived.Test.YtcdlgemhmmkneaaVD
set_option linter.unusedSimpArgs false
set_option linter.unusedVariables false
namespace Go.Vee
open Go

/-- A root in memory: a variable's first cell; a row's header, and the blocks that it owns. -/
structure RC where
  b : Nat
  off : Nat
  hdr : Value
  fp : List Nat

def mkV (t : Ty) (cs : List Value) : Value := if t.isAgg then .agg cs.toArray else cs.headD default

/-- What an abstract value says of a value. -/
inductive VR (w : World) (I : Nat → Prop) (ρ : Nat → RC) (H : Heap) : AV → Value → Prop
  | junk (v : Value) : VR w I ρ H .junk v
  | lb (b : Bool) : VR w I ρ H (.lb b) (.bool b)
  | dat (t : Ty) (x : t.den) (cs : List Value) (h : Own w I t .sh cs x []) : VR w I ρ H (.dat t x) (mkV t cs)
  | ref (e : Ty) (r ver : Nat) (p : List Stp) (lo n : Nat) (A : Option Addr) (c : Nat) (hr : r < H.length) (hn : n ≤ 9223372036854775807) (hnc : n ≤ c)
      (h : ∀ v' e' m xs, hget H r = some (.row v' e' m xs) → ver ≤ v' ∧ ((hops p = 0 ∨ v' = ver) → ∃ B c0 len l, walk w (.sl e') [(ρ r).hdr] none p = some (.sl e, [.slice B len c0], l) ∧
        lo + n ≤ len ∧ (0 < n → A = B.map (fun a => a.add (lo * e.sz))) ∧ (lo = 0 ∧ n = len → A = B ∧ c = c0))) : VR w I ρ H (.ref e r ver p lo n) (.slice A n c)
  | ptr (r ver : Nat) (p : List Stp) (b off : Nat) (hr : r < H.length)
      (h : ∀ v' e' m xs, hget H r = some (.row v' e' m xs) → ver ≤ v' ∧ ((hops p - 1 = 0 ∨ v' = ver) → ∃ t cs, walk w (.sl e') [(ρ r).hdr] none p = some (t, cs, some (b, off)))) :
      VR w I ρ H (.ptr r ver p) (.pointer (some ⟨b, off, none⟩))
  | bptr (r off : Nat) (hr : r < H.length) : VR w I ρ H (.bptr r off) (.pointer (some ⟨(ρ r).b, (ρ r).off + off, none⟩))
  | dptr (t : Ty) (x : t.den) (b off : Nat) (arr : Array Value) (et : TypeId) (fr : Nat × Nat) (hb : w.heap[b]? = some (.cells arr et fr)) (hi : I b) (hs : off + t.sz ≤ arr.size)
      (h : Own w I t .sh (seg arr off t.sz) x []) : VR w I ρ H (.dptr t x) (.pointer (some ⟨b, off, none⟩))
  | nilS : VR w I ρ H .nilS (.slice none 0 0)
  | nilP : VR w I ρ H .nilP (.pointer none)
  | agg (vs : List AV) (cs : List Value) (hl : vs.length = cs.length) (h1 : ∀ u ∈ cs, u.oneCell' = true) (h : ∀ (i : Nat) (v : AV) (u : Value), vs[i]? = some v → cs[i]? = some u → VR w I ρ H v u) : VR w I ρ H (.agg vs) (.agg cs.toArray)
  | tup (vs : List AV) (cs : List Value) (hl : vs.length = cs.length) (h : ∀ (i : Nat) (v : AV) (u : Value), vs[i]? = some v → cs[i]? = some u → VR w I ρ H v u) : VR w I ρ H (.tup vs) (.tuple cs.toArray)
  | clo (f : Nat) (vs : List AV) (cs : List Value) (hl : vs.length = cs.length) (h : ∀ (i : Nat) (v : AV) (u : Value), vs[i]? = some v → cs[i]? = some u → VR w I ρ H v u) : VR w I ρ H (.clo f vs) (.func (.func f) #[] cs.toArray)

/-- How a row may have come on: as it was; or written, what was known of headers inside it being given up. -/
def RowStep (w w' : World) (hdr : Value) (e : Ty) (v v' : Nat) : Prop :=
  v ≤ v' ∧ ((∀ p r, walk w (.sl e) [hdr] none p = some r → walk w' (.sl e) [hdr] none p = some r) ∨
    ((e.hasSl = true → v < v') ∧ ∀ p t cs l, hops p ≤ 1 → walk w (.sl e) [hdr] none p = some (t, cs, l) → ∃ cs', walk w' (.sl e) [hdr] none p = some (t, cs', l)))

theorem walk_noSl {w : World} : ∀ (p : List Stp) {t : Ty} {cs : List Value} {l : Option (Nat × Nat)} {r}, t.hasSl = false → walk w t cs l p = some r → hops p = 0 ∧ r.1.hasSl = false
  | [], t, cs, l, r, ht, h => by
    have : r = (t, cs, l) := by cases t <;> simpa [walk, eq_comm] using h
    subst this
    exact ⟨rfl, ht⟩
  | s :: p, t, cs, l, r, ht, h => by
    cases t with
    | pair a b =>
      simp only [Ty.hasSl, Bool.or_eq_false_iff] at ht
      cases s with
      | fst => exact walk_noSl p ht.1 (by simpa [walk] using h)
      | snd => exact walk_noSl p ht.2 (by simpa [walk] using h)
      | idx i => simp [walk] at h
    | sl e => simp [Ty.hasSl] at ht
    | int k => simp [walk] at h
    | bool => simp [walk] at h
    | str => simp [walk] at h
    | unit => simp [walk] at h

theorem walk_sl {w : World} {e : Ty} {hdr : Value} {l : Option (Nat × Nat)} {p : List Stp} {r} (h : walk w (.sl e) [hdr] l p = some r) : p = [] ∧ r = (.sl e, [hdr], l) ∨
    ∃ i q b off n c arr et fr, p = .idx i :: q ∧ hdr = .slice (some ⟨b, off, none⟩) n c ∧ w.heap[b]? = some (.cells arr et fr) ∧ i < n ∧ walk w e (seg arr (off + i * e.sz) e.sz) (some (b, off + i * e.sz)) q = some r := by
  cases p with
  | nil => left; exact ⟨rfl, by simpa [walk, eq_comm] using h⟩
  | cons s q =>
    right
    cases s with
    | fst => simp [walk] at h
    | snd => simp [walk] at h
    | idx i =>
      cases hdr with
      | slice A n c =>
        cases A with
        | none => simp [walk] at h
        | some ad =>
          obtain ⟨b, off, sp⟩ := ad
          cases sp with
          | some _ => simp [walk] at h
          | none =>
            simp only [walk] at h
            split at h
            · rename_i arr et fr hb
              split at h
              · rename_i hlt
                exact ⟨i, q, b, off, n, c, arr, et, fr, rfl, rfl, hb, hlt, h⟩
              · cases h
            · cases h
      | _ => simp [walk] at h

/-- How memory and roots may have come on. -/
structure Ext (w w' : World) (I I' : Nat → Prop) (ρ ρ' : Nat → RC) (H H' : Heap) : Prop where
  hI : ∀ b, I b → w'.heap[b]? = w.heap[b]?
  hII : ∀ b, I b → I' b
  len : H.length ≤ H'.length
  rc : ∀ r, r < H.length → (ρ' r).b = (ρ r).b ∧ (ρ' r).off = (ρ r).off ∧ (ρ' r).hdr = (ρ r).hdr
  row : ∀ r, r < H.length → ∀ v' e m xs, hget H' r = some (.row v' e m xs) → ∃ v m0 xs0, hget H r = some (.row v e m0 xs0) ∧ RowStep w w' (ρ r).hdr e v v'

theorem VR.ext {w w' : World} {I I' : Nat → Prop} {ρ ρ' : Nat → RC} {H H' : Heap} (E : Ext w w' I I' ρ ρ' H H') {v : AV} {u : Value} (h : VR w I ρ H v u) : VR w' I' ρ' H' v u := by
  induction h with
  | junk v => exact .junk v
  | lb b => exact .lb b
  | dat t x cs h => exact .dat t x cs (Own.frame E.hI E.hII h (by simp))
  | ref e r ver p lo n A c hr hn hnc h =>
    refine .ref e r ver p lo n A c (Nat.lt_of_lt_of_le hr E.len) hn hnc fun v' e' m xs hg => ?_
    obtain ⟨v, m0, xs0, hg0, hle, hst⟩ := E.row r hr v' e' m xs hg
    obtain ⟨h1, h2⟩ := h v e' m0 xs0 hg0
    refine ⟨Nat.le_trans h1 hle, fun hc => ?_⟩
    rw [(E.rc r hr).2.2]
    by_cases h0 : hops p = 0
    · obtain ⟨B, c0, len, l, hw, hrest⟩ := h2 (.inl h0)
      rcases walk_sl hw with ⟨rfl, he⟩ | ⟨i, q, _, _, _, _, _, _, _, rfl, _⟩
      · exact ⟨B, c0, len, l, by simpa [walk] using hw, hrest⟩
      · simp [hops] at h0
    · have hv : v' = ver := hc.resolve_left h0
      subst hv
      have hvv : v = v' := by omega
      subst hvv
      obtain ⟨B, c0, len, l, hw, hrest⟩ := h2 (.inr rfl)
      rcases hst with hst | ⟨hst, _⟩
      · exact ⟨B, c0, len, l, hst _ _ hw, hrest⟩
      · by_cases hs : e'.hasSl = true
        · exact absurd (hst hs) (by omega)
        · rcases walk_sl hw with ⟨rfl, he⟩ | ⟨i, q, _, _, _, _, _, _, _, rfl, _, _, _, hw'⟩
          · simp [hops] at h0
          · have := (walk_noSl q (by simpa using hs) hw').2
            simp [Ty.hasSl] at this
  | ptr r ver p b off hr h =>
    refine .ptr r ver p b off (Nat.lt_of_lt_of_le hr E.len) fun v' e' m xs hg => ?_
    obtain ⟨v, m0, xs0, hg0, hle, hst⟩ := E.row r hr v' e' m xs hg
    obtain ⟨h1, h2⟩ := h v e' m0 xs0 hg0
    refine ⟨Nat.le_trans h1 hle, fun hc => ?_⟩
    rw [(E.rc r hr).2.2]
    by_cases h0 : hops p - 1 = 0
    · obtain ⟨t, cs, hw⟩ := h2 (.inl h0)
      rcases hst with hst | ⟨_, hst⟩
      · exact ⟨t, cs, hst _ _ hw⟩
      · obtain ⟨cs', hw'⟩ := hst p t cs _ (by omega) hw
        exact ⟨t, cs', hw'⟩
    · have hv : v' = ver := hc.resolve_left h0
      subst hv
      have hvv : v = v' := by omega
      subst hvv
      obtain ⟨t, cs, hw⟩ := h2 (.inr rfl)
      rcases hst with hst | ⟨hst, _⟩
      · exact ⟨t, cs, hst _ _ hw⟩
      · by_cases hs : e'.hasSl = true
        · exact absurd (hst hs) (by omega)
        · rcases walk_sl hw with ⟨rfl, he⟩ | ⟨i, q, _, _, _, _, _, _, _, rfl, _, _, _, hw'⟩
          · simp [hops] at h0
          · have := (walk_noSl q (by simpa using hs) hw').1
            simp [hops, this] at h0
  | bptr r off hr =>
    rw [← (E.rc r hr).1, ← (E.rc r hr).2.1]
    exact .bptr r off (Nat.lt_of_lt_of_le hr E.len)
  | dptr t x b off arr et fr hb hi hs h => exact .dptr t x b off arr et fr ((E.hI b hi).trans hb) (E.hII b hi) hs (Own.frame E.hI E.hII h (by simp))
  | nilS => exact .nilS
  | nilP => exact .nilP
  | agg vs cs hl h1 h ih => exact .agg vs cs hl h1 ih
  | tup vs cs hl h ih => exact .tup vs cs hl ih
  | clo f vs cs hl h ih => exact .clo f vs cs hl ih

def tfp (ρ : Nat → RC) (r : Nat) : Root → List Nat
  | .box _ => [(ρ r).b]
  | .row .. => (ρ r).fp

def RootOk (w : World) (I : Nat → Prop) (ρ : Nat → RC) (H : Heap) (r : Nat) : Root → Prop
  | .box cs => ∃ arr et, w.heap[(ρ r).b]? = some (.cells arr et (0, 0)) ∧ (ρ r).off + cs.length ≤ arr.size ∧
      ∀ (i : Nat) (v : AV), cs[i]? = some v → ∃ u, arr[(ρ r).off + i]? = some u ∧ u.oneCell' = true ∧ VR w I ρ H v u
  | .row _ e m xs => Own w I (.sl e) (.ow m) [(ρ r).hdr] xs (ρ r).fp

/-- Of the blocks that were there at the call: which may be written; which were shared. -/
structure Bnd where
  wr : Nat → Prop
  rd : Nat → Prop

/-- What an abstract state says of a frame and a world. 'w0': the world at the call; 'F0': the blocks that the call may write. -/
structure Inv (w0 : World) (F0 : Bnd) (s : St) (a : Act) (w : World) (I : Nat → Prop) (ρ : Nat → RC) : Prop where
  defers : a.defers = []
  len : a.tmps.size = s.fr.length
  slots : ∀ (i : Nat) (v : AV), s.fr[i]? = some v → ∃ u, a.tmps[i]? = some u ∧ VR w I ρ s.H v u
  roots : ∀ r o, hget s.H r = some o → RootOk w I ρ s.H r o
  nodup : ∀ r o, hget s.H r = some o → (tfp ρ r o).Nodup
  disj : ∀ r o r' o', r ≠ r' → hget s.H r = some o → hget s.H r' = some o' → ∀ b ∈ tfp ρ r o, b ∉ tfp ρ r' o'
  imm : ∀ b, I b → b < w.heap.size
  immF : ∀ b, I b → w0.heap.size ≤ b ∨ F0.rd b
  sep : ∀ r o, hget s.H r = some o → ∀ b ∈ tfp ρ r o, ¬ I b ∧ b < w.heap.size ∧ (w0.heap.size ≤ b ∨ F0.wr b)
  os : w.os = w0.os
  tape : w.tape = w0.tape
  output : w.output = w0.output
  size : w0.heap.size ≤ w.heap.size
  frame : ∀ b, b < w0.heap.size → ¬ F0.wr b → w.heap[b]? = w0.heap[b]?
  keep : ∀ r cs, hget s.H r = some (.box cs) → ∀ arr0 et0 fr0, w0.heap[(ρ r).b]? = some (.cells arr0 et0 fr0) → ∃ arr et, w.heap[(ρ r).b]? = some (.cells arr et (0, 0)) ∧ Near arr0 arr (ρ r).off cs.length

theorem hget_some {H : Heap} {r : Nat} {o : Root} : hget H r = some o ↔ H[r]? = some (some o) := by
  unfold hget
  rw [List.getD_eq_getElem?_getD]
  cases h : H[r]? with
  | none => simp
  | some x => simp

theorem hget_lt {H : Heap} {r : Nat} {o : Root} (h : hget H r = some o) : r < H.length := by
  have := hget_some.1 h
  exact (List.getElem?_eq_some_iff.1 this).1

theorem hget_app {H : Heap} {o : Root} {r : Nat} : hget (H ++ [some o]) r = if r = H.length then some o else hget H r := by
  unfold hget
  simp only [List.getD_eq_getElem?_getD]
  by_cases h : r = H.length
  · subst h; simp
  · simp only [h, if_false]
    by_cases hlt : r < H.length
    · rw [List.getElem?_append_left hlt]
    · rw [List.getElem?_eq_none (by simp; omega), List.getElem?_eq_none (by omega)]

theorem hget_set {H : Heap} {o : Option Root} {r k : Nat} (hr : r < H.length) : hget (H.set r o) k = if k = r then o else hget H k := by
  unfold hget
  simp only [List.getD_eq_getElem?_getD, List.getElem?_set]
  by_cases h : r = k
  · subst h; simp [hr]
  · simp [h, Ne.symm h]

theorem Inv.lt {w0 w : World} {F0 : Bnd} {s : St} {a : Act} {I : Nat → Prop} {ρ : Nat → RC} (h : Inv w0 F0 s a w I ρ) {r : Nat} {o : Root} (hr : hget s.H r = some o) : ∀ b ∈ tfp ρ r o, b < w.heap.size :=
  fun b hb => (h.sep r o hr b hb).2.1

theorem RootOk.ext {w w' : World} {I I' : Nat → Prop} {ρ ρ' : Nat → RC} {H H' : Heap} {r : Nat} {o : Root} (E : Ext w w' I I' ρ ρ' H H') (hr : r < H.length) (hf : (ρ' r).fp = (ρ r).fp)
    (h : RootOk w I ρ H r o) (hb : ∀ b ∈ tfp ρ r o, w'.heap[b]? = w.heap[b]?) : RootOk w' I' ρ' H' r o := by
  obtain ⟨e1, e2, e3⟩ := E.rc r hr
  cases o with
  | box cs =>
    obtain ⟨arr, et, h1, h2, h3⟩ := h
    refine ⟨arr, et, by rw [e1]; exact (hb _ (by simp [tfp])).trans h1, by rw [e2]; exact h2, fun i v hv => ?_⟩
    obtain ⟨u, hu, h4, h5⟩ := h3 i v hv
    exact ⟨u, by rw [e2]; exact hu, h4, h5.ext E⟩
  | row v e m xs =>
    simp only [RootOk, e3, hf] at h ⊢
    exact Own.frame E.hI E.hII h (by simpa [tfp] using hb)

theorem tfp_ext {w w' : World} {I I' : Nat → Prop} {ρ ρ' : Nat → RC} {H H' : Heap} {r : Nat} {o : Root} (E : Ext w w' I I' ρ ρ' H H') (hr : r < H.length) (hf : (ρ' r).fp = (ρ r).fp) : tfp ρ' r o = tfp ρ r o := by
  cases o <;> simp [tfp, (E.rc r hr).1, hf]

/-- A row that lies as it was. -/
theorem RowStep.same {w w' : World} {I : Nat → Prop} {hdr : Value} {e : Ty} {m : Md} {xs : List e.den} {fp : List Nat} {v : Nat} (hI : ∀ b, I b → w'.heap[b]? = w.heap[b]?)
    (h : Own w I (.sl e) (.ow m) [hdr] xs fp) (hb : ∀ b ∈ fp, w'.heap[b]? = w.heap[b]?) : RowStep w w' hdr e v v :=
  ⟨Nat.le_refl _, .inl fun p r hw => walk_frame hI p h hb hw⟩

theorem inK_iff {k : IntKind} {n : Int} : inK k n = true ↔ k.min ≤ n ∧ n ≤ k.max := by
  cases k <;> simp [inK, IntKind.min, IntKind.max, IntKind.signed, IntKind.bits]

section puts
variable {w0 w : World} {F0 : Bnd} {s : St} {a : Act} {I : Nat → Prop} {ρ : Nat → RC} {H : Heap}

theorem Inv.put (h : Inv w0 F0 s a w I ρ) {v : AV} {u : Value} (hv : VR w I ρ s.H v u) (d : Option Nat) : Inv w0 F0 (s.put d v) (a.put d u) w I ρ := by
  cases d with
  | none => exact h
  | some d =>
    refine { h with defers := h.defers, len := by simp [Act.put, St.put, h.len], slots := ?_, roots := h.roots, nodup := h.nodup, disj := h.disj, sep := h.sep, keep := h.keep }
    intro i x hx
    simp only [St.put, List.getElem?_set] at hx
    simp only [Act.put, Array.getElem?_setIfInBounds]
    by_cases hdi : d = i
    · subst hdi
      simp only [if_true] at hx ⊢
      split at hx
      · rename_i hlt
        cases hx
        exact ⟨u, by simp [h.len, hlt], hv⟩
      · cases hx
    · simp only [hdi, if_false] at hx ⊢
      exact h.slots i x hx

theorem VR.cst1 (v : Value) : VR w I ρ H (Vee.cst1 Alg.std v) v := by
  unfold Vee.cst1
  split
  · rename_i k n
    split
    · rename_i hk
      have h2 := inK_iff.1 hk
      exact VR.dat (.int k) n [.int k n] ⟨rfl, h2, rfl⟩
    · exact .junk _
  · exact .lb _
  · rename_i b
    split
    · rename_i hb
      exact VR.dat .str _ [.string b] ⟨⟨b, rfl, rfl, of_decide_eq_true hb⟩, rfl⟩
    · exact .junk _
  · exact .nilS
  · exact .nilP
  · exact .junk _

theorem VR.cst (v : Value) : VR w I ρ H (Vee.cst Alg.std v) v := by
  unfold Vee.cst
  split
  · rename_i cs
    split
    · rename_i h
      have : VR w I ρ H (.agg (cs.toList.map (Vee.cst1 Alg.std))) (.agg cs.toList.toArray) := by
        refine VR.agg _ cs.toList (by simp) (fun u hu => List.all_eq_true.1 h u hu) fun i x u hx hu => ?_
        simp only [List.getElem?_map, hu, Option.map_some, Option.some.injEq] at hx
        subst hx
        exact VR.cst1 u
      simpa using this
    · exact .junk _
  · exact VR.cst1 _

theorem Inv.ev (h : Inv w0 F0 s a w I ρ) (x : Operand) : VR w I ρ s.H (Vee.ev Alg.std s x) (a.eval x) := by
  cases x with
  | tmp t =>
    simp only [Vee.ev, Act.eval]
    cases ht : s.fr[t]? with
    | none => simp only [List.getD_eq_getElem?_getD, ht, Option.getD_none]; exact .junk _
    | some v =>
      obtain ⟨u, hu, hv⟩ := h.slots t v ht
      simpa [List.getD_eq_getElem?_getD, ht, Array.getD_eq_getD_getElem?, hu] using hv
  | const v => exact VR.cst v
  | global g => exact .junk _
  | func f =>
    simpa [Vee.ev, Act.eval] using VR.clo (w := w) (I := I) (ρ := ρ) (H := s.H) f [] [] rfl (by simp)
end puts

end Go.Vee
