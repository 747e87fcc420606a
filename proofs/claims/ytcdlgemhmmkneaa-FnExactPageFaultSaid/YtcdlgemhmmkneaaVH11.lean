import Derived.Test.YtcdlgemhmmkneaaVH10
import Derived.Laws.MakeOwn
set_option linter.unusedSimpArgs false
set_option linter.unusedVariables false
namespace Go.Vee
open Go

/-- Where no slice lies in it, the mode is not asked. -/
theorem Own.flat {w : World} {I : Nat → Prop} : ∀ {t : Ty} {m : Md} {cs : List Value} {x : t.den} {fp : List Nat}, t.hasSl = false → Own w I t m cs x fp → fp = [] ∧ ∀ (w' : World) (I' : Nat → Prop) (m' : Md), Own w' I' t m' cs x []
  | .int _, _, _, _, _, _, h => ⟨h.2.2, fun _ _ _ => ⟨h.1, h.2.1, rfl⟩⟩
  | .bool, _, _, _, _, _, h => ⟨h.2, fun _ _ _ => ⟨h.1, rfl⟩⟩
  | .str, _, _, _, _, _, h => ⟨h.2, fun _ _ _ => ⟨h.1, rfl⟩⟩
  | .sl e, _, _, _, _, hs, h => by simp [Ty.hasSl] at hs
  | .unit, _, _, _, _, _, h => ⟨h.2, fun _ _ _ => ⟨h.1, rfl⟩⟩
  | .pair a b, m, _, _, _, hs, h => by
    simp only [Ty.hasSl, Bool.or_eq_false_iff] at hs
    obtain ⟨c1, c2, f1, f2, rfl, rfl, h1, h2⟩ := h
    obtain ⟨rfl, g1⟩ := Own.flat hs.1 h1
    obtain ⟨rfl, g2⟩ := Own.flat hs.2 h2
    exact ⟨rfl, fun w' I' m' => ⟨c1, c2, [], [], rfl, rfl, g1 _ _ _, g2 _ _ _⟩⟩

theorem packM_okc : ∀ {t : Ty} {hm : Md} {l : List AV} {H : Heap} {k : Pk t}, packM Alg.std t hm l H = some k → ∃ pre, l = pre ++ k.l ∧ pre.length = t.sz ∧ ∀ v ∈ pre, okc v = true
  | .unit, hm, l, H, k, h => by simp [packM] at h; subst h; exact ⟨[], by simp [Ty.sz]⟩
  | .pair a b, hm, l, H, k, h => by
    simp only [packM] at h
    split at h
    · rename_i k1 h1
      split at h
      · rename_i k2 h2
        cases h
        obtain ⟨p1, e1, l1, o1⟩ := packM_okc h1
        obtain ⟨p2, e2, l2, o2⟩ := packM_okc h2
        refine ⟨p1 ++ p2, ?_, by simp [Ty.sz, l1, l2], fun v hv => (List.mem_append.1 hv).elim (o1 v) (o2 v)⟩
        change l = (p1 ++ p2) ++ k2.l
        rw [e1, e2, List.append_assoc]
      · cases h
    · cases h
  | .sl e, hm, [], H, k, h => by simp [packM] at h
  | .sl e, hm, v :: l, H, k, h => by
    simp only [packM] at h
    split at h
    · split at h
      · cases h; exact ⟨[_], rfl, rfl, by simp [okc]⟩
      · cases h
    · cases h; exact ⟨[_], rfl, rfl, by simp [okc]⟩
    · split at h
      · split at h
        · cases h; exact ⟨[_], rfl, rfl, by simp [okc]⟩
        · cases h
      · cases h
    · cases h
  | .int k0, hm, [], H, k, h => by simp [packM] at h
  | .int k0, hm, v :: l, H, k, h => by
    cases v with
    | dat t x =>
      simp only [packM] at h
      split at h
      · cases h; exact ⟨[_], rfl, rfl, by simp [okc]⟩
      · cases h
    | _ => simp [packM] at h
  | .bool, hm, [], H, k, h => by simp [packM] at h
  | .bool, hm, v :: l, H, k, h => by
    cases v with
    | dat t x =>
      simp only [packM] at h
      split at h
      · cases h; exact ⟨[_], rfl, rfl, by simp [okc]⟩
      · cases h
    | lb b => simp [packM] at h; subst h; exact ⟨[_], rfl, rfl, by simp [okc]⟩
    | _ => simp [packM] at h
  | .str, hm, [], H, k, h => by simp [packM] at h
  | .str, hm, v :: l, H, k, h => by
    cases v with
    | dat t x =>
      simp only [packM] at h
      split at h
      · cases h; exact ⟨[_], rfl, rfl, by simp [okc]⟩
      · cases h
    | _ => simp [packM] at h

section
variable {P : Program} {w0 w : World} {F0 : Bnd} {s : St} {a : Act} {I : Nat → Prop} {ρ : Nat → RC} {H : Heap} {o : Oper} {K : St → Prop} {Q : Exit → Act → World → Prop}

/-- A value that packs: its cells. -/
theorem VR.packed {v : AV} {u : Value} {t : Ty} {hm : Md} {HH : Heap} {k : Pk t} (h : VR w I ρ HH v u) (hp : packM Alg.std t hm (cellsOf v) H = some k) (hl : k.l = []) : ∃ us, u.cells = us.toArray ∧ us.length = t.sz ∧ VRs w I ρ HH (cellsOf v) us := by
  obtain ⟨pre, e, l, ok⟩ := packM_okc hp
  rw [hl, List.append_nil] at e
  obtain ⟨us, h1, h2⟩ := h.cells (by rw [e]; simpa using ok)
  exact ⟨us, h1, by rw [← h2.len, e, l], h2⟩

/-- A row made out of packed parts and of new memory. -/
theorem Inv.newRow (h : Inv w0 F0 s a w I ρ) {w' : World} {H' : Heap} (hsub : ∀ r o, hget H' r = some o → hget s.H r = some o) (hlen : H'.length = s.H.length)
    (e : Ty) (m : Md) (xs : List e.den) (hdr : Value) (fp : List Nat) (hk : Keeps (fun b => b ∈ fp) w w') (ho : Own w' I (.sl e) (.ow m) [hdr] xs fp) (hnd : fp.Nodup)
    (hsrc : ∀ b ∈ fp, w.heap.size ≤ b ∨ ∃ r o, hget s.H r = some o ∧ hget H' r = none ∧ b ∈ tfp ρ r o) :
    ∃ ρ', Inv w0 F0 ⟨s.fr, H' ++ [some (.row 0 e m xs)]⟩ a w' I ρ' ∧ VR w' I ρ' (H' ++ [some (.row 0 e m xs)]) (.ref e H'.length 0 [] 0 xs.length) hdr := by
  have h' := h.sub hsub (Nat.le_of_eq hlen.symm)
  refine h'.addRow e m xs hdr fp hk ho hnd fun b hb => ?_
  rcases hsrc b hb with hn | ⟨r, o, g1, g2, g3⟩
  · refine ⟨fun hh => absurd (h.imm b hh) (by omega), .inl (Nat.le_trans h.size hn), fun r o hr hb => absurd (h'.sep r o hr b hb).2.1 (by omega)⟩
  · obtain ⟨q1, q2, q3⟩ := h.sep r o g1 b g3
    refine ⟨q1, q3, fun r' o' hr' hb' => ?_⟩
    have hne : r ≠ r' := by rintro rfl; rw [g2] at hr'; cases hr'
    exact h.disj r o r' o' hne g1 (hsub _ _ hr') b g3 hb'

/-- Elements packed. -/
structure PackedL (w : World) (I : Nat → Prop) (ρ : Nat → RC) (H H' : Heap) (e : Ty) (m : Md) (xs : List e.den) (cells : List Value) (fps : List (List Nat)) : Prop where
  len : cells.length = xs.length * e.sz
  fl : fps.length = xs.length
  own : ∀ j (h : j < xs.length), Own w I e m ((cells.drop (j * e.sz)).take e.sz) (xs[j]'h) (fps.getD j [])
  nd : fps.flatten.Nodup
  sub : ∀ r o, hget H' r = some o → hget H r = some o
  hl : H'.length = H.length
  src : ∀ b ∈ fps.flatten, ∃ r o, hget H r = some o ∧ hget H' r = none ∧ b ∈ tfp ρ r o
  one : ∀ u ∈ cells, u.oneCell' = true

theorem PackedL.cast {e : Ty} {m m' : Md} {H' : Heap} {xs : List e.den} {cells : List Value} {fps : List (List Nat)} (h : PackedL w I ρ H H' e m xs cells fps) (hs : e.hasSl = false ∨ m' = m) : PackedL w I ρ H H' e m' xs cells fps := by
  rcases hs with hs | rfl
  · refine { h with own := fun j hj => ?_ }
    obtain ⟨h1, h2⟩ := (h.own j hj).flat hs
    rw [h1]
    exact h2 _ _ _
  · exact h

theorem joinM_some {e : Ty} {m n k : Md} (h : joinM e m n = some k) : (e.hasSl = false ∨ k = m) ∧ (e.hasSl = false ∨ k = n) := by
  unfold joinM at h
  split at h
  · split at h
    · rename_i e; cases h; subst e; exact ⟨.inr rfl, .inr rfl⟩
    · cases h
  · rename_i hs
    exact ⟨.inl (by simpa using hs), .inl (by simpa using hs)⟩

theorem PackedL.nil {e : Ty} {m : Md} : PackedL w I ρ H H e m [] [] [] := ⟨by simp, rfl, by simp, by simp, fun _ _ h => h, rfl, by simp, by simp⟩

theorem PackedL.cons {HH H H1 H2 : Heap} (R : Roots w I ρ HH) (hH : ∀ r o, hget H r = some o → hget HH r = some o) {e : Ty} {m : Md} {x : e.den} {xs : List e.den} {us cells : List Value} {fp : List Nat} {fps : List (List Nat)} (h1 : ∀ u ∈ us, u.oneCell' = true)
    (p : Packed w I ρ H H1 e m x us fp) (q : PackedL w I ρ H1 H2 e m xs cells fps) : PackedL w I ρ H H2 e m (x :: xs) (us ++ cells) (fp :: fps) := by
  have hl := p.own.len
  refine ⟨by simp [hl, q.len, Nat.add_mul, Nat.add_comm], by simp [q.fl], fun j hj => ?_, ?_, fun r o hr => p.sub r o (q.sub r o hr), q.hl.trans p.len, fun b hb => ?_, fun u hu => (List.mem_append.1 hu).elim (h1 u) (q.one u)⟩
  · cases j with
    | zero => simp only [Nat.zero_mul, List.drop_zero, List.take_left' hl]; exact p.own
    | succ j =>
      have : ((us ++ cells).drop ((j + 1) * e.sz)).take e.sz = (cells.drop (j * e.sz)).take e.sz := by
        rw [List.drop_append, List.drop_eq_nil_of_le (by rw [hl, Nat.add_mul]; omega), List.nil_append]
        congr 2
        rw [hl, Nat.add_mul]; omega
      rw [this]
      exact q.own j (by simpa using hj)
  · rw [List.flatten_cons, List.nodup_append]
    refine ⟨p.nd, q.nd, fun b hb c hc hbc => ?_⟩
    subst hbc
    obtain ⟨r, o, g1, g2, g3⟩ := p.src b hb
    obtain ⟨r', o', g4, g5, g6⟩ := q.src b hc
    have hne : r ≠ r' := by rintro rfl; rw [g2] at g4; cases g4
    exact R.disj r o r' o' hne (hH _ _ g1) (hH _ _ (p.sub _ _ g4)) b g3 g6
  · rw [List.flatten_cons] at hb
    rcases List.mem_append.1 hb with hb | hb
    · obtain ⟨r, o, g1, g2, g3⟩ := p.src b hb
      refine ⟨r, o, g1, ?_, g3⟩
      cases hk : hget H2 r with
      | none => rfl
      | some o' => have := q.sub r o' hk; rw [g2] at this; cases this
    · obtain ⟨r, o, g1, g2, g3⟩ := q.src b hb
      exact ⟨r, o, p.sub r o g1, g2, g3⟩

theorem packEs_spec {HH : Heap} (R : Roots w I ρ HH) {e : Ty} : ∀ {vs : List AV} {us : List Value} {H : Heap} {m : Md} {xs : List e.den} {H' : Heap} {ps : List Prop},
    (∀ r o, hget H r = some o → hget HH r = some o) → vs.length = us.length → (∀ (i : Nat) (v : AV) (u : Value), vs[i]? = some v → us[i]? = some u → VR w I ρ HH v u) →
    packEs Alg.std e vs H = some (m, xs, H', ps) → (∀ p ∈ ps, p) →
    ∃ (cs : List (List Value)) (fps : List (List Nat)), us.map (·.cells) = cs.map (·.toArray) ∧ (∀ c ∈ cs, c.length = e.sz) ∧ xs.length = vs.length ∧ PackedL w I ρ H H' e m xs cs.flatten fps
  | [], us, H, m, xs, H', ps, hH, hl, hv, hp, hq => by
    simp [packEs] at hp
    obtain ⟨rfl, rfl, rfl, rfl⟩ := hp
    have : us = [] := List.eq_nil_of_length_eq_zero (by simpa using hl.symm)
    subst this
    exact ⟨[], [], rfl, by simp, rfl, PackedL.nil⟩
  | v :: vs, [], H, m, xs, H', ps, hH, hl, hv, hp, hq => by simp at hl
  | v :: vs, u :: us, H, m, xs, H', ps, hH, hl, hv, hp, hq => by
    simp only [packEs] at hp
    split at hp
    · rename_i m1 x1 H1 p1 hk
      have hvu := hv 0 v u rfl rfl
      obtain ⟨c, hc, hcl, hcv⟩ := hvu.packed hk rfl
      have base : (∀ p ∈ p1, p) → ∃ fp, Packed w I ρ H H1 e m1 x1 c fp := fun hpp => by
        obtain ⟨u1, u2, fp, e1, hv2, pk⟩ := packM_spec HH R hH hcv hk hpp
        have hu2 : u2 = [] := List.eq_nil_of_length_eq_zero (by have := hv2.len; simpa using this.symm)
        subst hu2
        rw [List.append_nil] at e1
        subst e1
        exact ⟨fp, pk⟩
      split at hp
      · cases hp
        obtain ⟨fp, pk⟩ := base hq
        have : us = [] := List.eq_nil_of_length_eq_zero (by simpa using hl.symm)
        subst this
        refine ⟨[c], [fp], by simp [hc], by simpa using hcl, rfl, ?_⟩
        have := PackedL.cons R hH hcv.one pk PackedL.nil
        simpa using this
      · rename_i v2 vs'
        split at hp
        · rename_i m' xs' H2 q hk2
          split at hp
          · rename_i mj hj
            cases hp
            obtain ⟨fp, pk⟩ := base fun p hp => hq p (by simp [hp])
            obtain ⟨cs, fps, g1, g2, g3, g4⟩ := packEs_spec R (us := us) (fun r o h => hH r o (pk.sub r o h)) (by simpa using hl) (fun i v u h1 h2 => hv (i + 1) v u (by simpa using h1) (by simpa using h2)) hk2 (fun p hp => hq p (by simp [hp]))
            obtain ⟨j1, j2⟩ := joinM_some hj
            refine ⟨c :: cs, fp :: fps, by simp [hc, g1], by simpa [hcl] using g2, by simp [g3], ?_⟩
            have pk' : Packed w I ρ H H1 e m x1 c fp := by
              rcases j1 with hs | rfl
              · obtain ⟨f0, f1⟩ := pk.own.flat hs
                exact { pk with own := by rw [f0]; exact f1 _ _ _ }
              · exact pk
            have := PackedL.cons R hH hcv.one pk' (g4.cast j2)
            simpa using this
          · cases hp
        · cases hp
    · cases hp

end
end Go.Vee
