import Derived.Test.YtcdlgemhmmkneaaVH16
set_option linter.unusedSimpArgs false
set_option linter.unusedVariables false
namespace Go.Vee
open Go

section
variable {P : Program} {w0 w : World} {F0 : Bnd} {s : St} {a : Act} {I J : Nat → Prop} {ρ : Nat → RC} {H : Heap} {o : Oper} {K : St → Prop} {Q : Exit → Act → World → Prop}

/-- A part of a shared slice. -/
theorem Own.cut {e : Ty} {B : Option Addr} {len c0 : Nat} {y : List e.den} (h : Own w J (.sl e) .sh [.slice B len c0] y []) {lo n : Nat} {A : Option Addr} {c : Nat} (hl : lo + n ≤ y.length) (hnc : n ≤ c) (hA : 0 < n → A = B.map (fun a => a.add (lo * e.sz))) :
    Own w J (.sl e) .sh [.slice A n c] ((y.drop lo).take n) [] := by
  obtain ⟨h1, _, B', c', he, hc, h2⟩ := h
  simp only [List.cons.injEq, Value.slice.injEq, and_true] at he
  obtain ⟨rfl, rfl, rfl⟩ := he
  have hzl : ((y.drop lo).take n).length = n := by simp; omega
  refine ⟨by omega, rfl, A, c, by rw [hzl], by omega, ?_⟩
  by_cases hn : n = 0
  · subst hn; exact .inl (by simp)
  · right
    have hA := hA (by omega)
    rcases h2 with rfl | ⟨b, off, arr, et, fr, rfl, hb, hi, hel⟩
    · simp at hl; omega
    · refine ⟨b, off + lo * e.sz, arr, et, fr, by simp [hA, add_lit'], hb, hi, fun j hj => ?_⟩
      rw [hzl] at hj
      obtain ⟨g1, g2⟩ := hel (lo + j) (by omega)
      have e1 : off + lo * e.sz + (j + 1) * e.sz = off + (lo + j + 1) * e.sz := by rw [Nat.add_assoc lo j 1, Nat.add_mul lo]; omega
      have e2 : off + lo * e.sz + j * e.sz = off + (lo + j) * e.sz := by rw [Nat.add_mul lo]; omega
      rw [e1, e2]
      refine ⟨g1, ?_⟩
      simpa using g2

/-- A slice in memory, read as shared. -/
theorem Inv.refShare (h : Inv w0 F0 s a w I ρ) (hJ : ∀ b, I b → J b) {e : Ty} {r ver : Nat} {p : List Stp} {lo n : Nat} {u : Value} (hv : VR w I ρ s.H (.ref e r ver p lo n) u) {m : Md} {y : List e.den} (hr : readRef Alg.std s.H e r ver p = some (m, y))
    (hroot : ∀ r o, hget s.H r = some o → ∀ b ∈ tfp ρ r o, J b) : Own w J (.sl e) .sh [u] (Alg.std.subL y lo n) [] := by
  obtain ⟨A, c, B, c0, l, fp', e', m', xs, v, rfl, hnc, hg, hle, hver, hw, q1, q2, q3, hown, hsub, hget⟩ := h.ref hv hr
  have h1 : Own w J (.sl e) (.ow m) [.slice B y.length c0] y fp' := Own.frame (fun _ _ => rfl) hJ hown (fun _ _ => rfl)
  exact (h1.share fun b hb => hroot r _ hg b (by simpa [tfp] using hsub b hb)).cut q1 hnc q2

theorem asSl_spec (h : Inv w0 F0 s a w I ρ) (hJ : ∀ b, I b → J b) {e : Ty} {v : AV} {u : Value} {x : List e.den} (hv : VR w I ρ s.H v u) (hs : asSl Alg.std s.H e v = some x)
    (hroot : pureV v = false → ∀ r o, hget s.H r = some o → ∀ b ∈ tfp ρ r o, J b) : Own w J (.sl e) .sh [u] x [] := by
  unfold asSl at hs
  split at hs
  · obtain ⟨e1, e2⟩ := castD_some hs
    subst e1
    subst e2
    obtain ⟨cs, ho, rfl⟩ := hv.dat_inv
    have ho' : Own w J (.sl e) .sh cs _ [] := Own.frame (fun _ _ => rfl) hJ ho (fun _ _ => rfl)
    obtain ⟨_, _, A, c, rfl, _, _⟩ := id ho
    exact ho'
  · split at hs
    · rename_i hrd
      obtain ⟨e1, e2⟩ := castD_some hs
      cases e1
      subst e2
      exact h.refShare hJ hv hrd (hroot rfl)
    · cases hs
  · cases hs
    cases hv
    exact ⟨Nat.zero_le _, rfl, none, 0, rfl, Nat.le_refl _, .inl rfl⟩
  · cases hs

theorem packD_spec (h : Inv w0 F0 s a w I ρ) (hJ : ∀ b, I b → J b) : ∀ {t : Ty} {l l' : List AV} {us : List Value} {x : t.den}, VRs w I ρ s.H l us → packD Alg.std s.H t l = some (x, l') →
    ((∃ v ∈ l, pureV v = false) → ∀ r o, hget s.H r = some o → ∀ b ∈ tfp ρ r o, J b) → ∃ u1 u2, us = u1 ++ u2 ∧ VRs w I ρ s.H l' u2 ∧ (∀ v ∈ l', v ∈ l) ∧ Own w J t .sh u1 x []
  | .unit, l, l', us, x, hv, hp, _ => by
    simp [packD] at hp
    obtain ⟨rfl, rfl⟩ := hp
    exact ⟨[], us, rfl, hv, fun _ h => h, rfl, rfl⟩
  | .pair t1 t2, l, l', us, x, hv, hp, hr => by
    simp only [packD] at hp
    split at hp
    · rename_i x1 l1 h1
      split at hp
      · rename_i y1 l2 h2
        cases hp
        obtain ⟨u1, u2, rfl, hv1, hm1, o1⟩ := packD_spec h hJ hv h1 hr
        obtain ⟨u3, u4, rfl, hv2, hm2, o2⟩ := packD_spec h hJ hv1 h2 (fun ⟨v, hv, hp⟩ => hr ⟨v, hm1 v hv, hp⟩)
        exact ⟨u1 ++ u3, u4, by simp, hv2, fun v hv => hm1 v (hm2 v hv), u1, u3, [], [], rfl, rfl, o1, o2⟩
      · cases hp
    · cases hp
  | .sl e, [], l', us, x, hv, hp, hr => by simp [packD] at hp
  | .sl e, v :: l, l', us, x, hv, hp, hr => by
    match us, hv.len with
    | u :: us, _ =>
    have hvu := hv.at_ 0 v u rfl rfl
    simp only [packD] at hp
    split at hp
    · rename_i x' hs
      cases hp
      exact ⟨[u], us, rfl, hv.drop 1, fun _ h => List.mem_cons_of_mem _ h, asSl_spec h hJ hvu hs fun hp => hr ⟨v, by simp, hp⟩⟩
    · cases hp
  | .int k0, [], l', us, x, hv, hp, hr => by simp [packD] at hp
  | .int k0, v :: l, l', us, x, hv, hp, hr => by
    match us, hv.len with
    | u :: us, _ =>
    have hvu := hv.at_ 0 v u rfl rfl
    cases v with
    | dat t y =>
      simp only [packD] at hp
      split at hp
      · rename_i y' hy
        cases hp
        obtain ⟨e1, e2⟩ := castD_some hy
        subst e1
        subst e2
        obtain ⟨rfl, h2⟩ := hvu.int_inv
        exact ⟨[_], us, rfl, hv.drop 1, fun _ h => List.mem_cons_of_mem _ h, rfl, h2, rfl⟩
      · cases hp
    | _ => simp [packD] at hp
  | .bool, [], l', us, x, hv, hp, hr => by simp [packD] at hp
  | .bool, v :: l, l', us, x, hv, hp, hr => by
    match us, hv.len with
    | u :: us, _ =>
    have hvu := hv.at_ 0 v u rfl rfl
    cases v with
    | dat t y =>
      simp only [packD] at hp
      split at hp
      · rename_i y' hy
        cases hp
        obtain ⟨e1, e2⟩ := castD_some hy
        subst e1
        subst e2
        have := hvu.bool_inv
        subst this
        exact ⟨[_], us, rfl, hv.drop 1, fun _ h => List.mem_cons_of_mem _ h, rfl, rfl⟩
      · cases hp
    | lb b =>
      simp [packD] at hp
      obtain ⟨rfl, rfl⟩ := hp
      have := lb_dat hvu
      subst this
      exact ⟨[_], us, rfl, hv.drop 1, fun _ h => List.mem_cons_of_mem _ h, rfl, rfl⟩
    | _ => simp [packD] at hp
  | .str, [], l', us, x, hv, hp, hr => by simp [packD] at hp
  | .str, v :: l, l', us, x, hv, hp, hr => by
    match us, hv.len with
    | u :: us, _ =>
    have hvu := hv.at_ 0 v u rfl rfl
    cases v with
    | dat t y =>
      simp only [packD] at hp
      split at hp
      · rename_i y' hy
        cases hp
        obtain ⟨e1, e2⟩ := castD_some hy
        subst e1
        subst e2
        obtain ⟨b, rfl, h1, h2⟩ := hvu.str_inv
        exact ⟨[_], us, rfl, hv.drop 1, fun _ h => List.mem_cons_of_mem _ h, ⟨b, rfl, h1, h2⟩, rfl⟩
      · cases hp
    | _ => simp [packD] at hp

/-! ## Arguments -/
def ρ0 : Nat → RC := fun _ => ⟨0, 0, .nilIface, []⟩
/-- An argument: data, no root. -/
abbrev AR (w : World) (I : Nat → Prop) (v : AV) (u : Value) : Prop := VR w I ρ0 [] v u

theorem AR.to {v : AV} {u : Value} (h : AR w I v u) (ρ : Nat → RC) (H : Heap) : VR w I ρ H v u :=
  VR.ext (ρ := ρ0) (H := []) ⟨fun _ _ => rfl, fun _ h => h, by simp, fun r hr => by simp at hr, fun r hr => by simp at hr⟩ h

theorem VR.pure : ∀ {v : AV} {u : Value}, VR w I ρ H v u → pureV v = true → AR w I v u := by
  intro v u h hp
  cases h <;> simp [pureV] at hp
  case dat t x cs ho => exact .dat t x cs ho
  case lb b => exact .lb b
  case dptr t x b off arr et fr hb hi hs h => exact .dptr t x b off arr et fr hb hi hs h
  case nilS => exact .nilS
  case nilP => exact .nilP
  case clo f vs cs hl h =>
    cases vs with
    | nil => exact .clo f [] cs hl (by simp)
    | cons v vs => simp [pureV] at hp

/-- A variable's cells. -/
theorem Inv.boxCells (h : Inv w0 F0 s a w I ρ) {r : Nat} {cs : List AV} (hr : hget s.H r = some (.box cs)) (off : Nat) (ho : off ≤ cs.length) :
    ∃ arr et, w.heap[(ρ r).b]? = some (.cells arr et (0, 0)) ∧ (ρ r).off + cs.length ≤ arr.size ∧ VRs w I ρ s.H (cs.drop off) (seg arr ((ρ r).off + off) (cs.length - off)) := by
  obtain ⟨arr, et, hb, hfit, hcell⟩ := h.roots r _ hr
  have hin : (ρ r).off + off + (cs.length - off) ≤ arr.size := by omega
  refine ⟨arr, et, hb, hfit, ?_, fun u hu => ?_, fun i v u hv hu => ?_⟩
  · rw [seg_length hin]; simp
  · obtain ⟨i, hi, rfl⟩ := List.getElem_of_mem hu
    rw [seg_length hin] at hi
    have hlt : off + i < cs.length := by omega
    obtain ⟨u', hu', h1, _⟩ := hcell (off + i) cs[off + i] (by simp [hlt])
    have : (seg arr ((ρ r).off + off) (cs.length - off))[i]? = some u' := by rw [seg_get hi, ← hu']; congr 1; omega
    rw [List.getElem?_eq_getElem (by rw [seg_length hin]; exact hi)] at this
    cases this
    exact h1
  · have hi : i < cs.length - off := by have := (List.getElem?_eq_some_iff.1 hu).1; rwa [seg_length hin] at this
    rw [List.getElem?_drop] at hv
    obtain ⟨u', hu', _, h2⟩ := hcell (off + i) v hv
    rw [seg_get hi] at hu
    have : (ρ r).off + off + i = (ρ r).off + (off + i) := by omega
    rw [this, hu'] at hu
    cases hu
    exact h2

theorem VR.bptr_inv {r off : Nat} {u : Value} (h : VR w I ρ H (.bptr r off) u) : u = .pointer (some ⟨(ρ r).b, (ρ r).off + off, none⟩) ∧ r < H.length := by
  cases h; exact ⟨rfl, by assumption⟩

theorem AR.agg_mk {t : Ty} {x : t.den} {cs : List Value} (ha : t.isAgg = true) (ho : Own w J t .sh cs x []) : AR w J (.dat t x) (.agg cs.toArray) := by
  have := VR.dat (ρ := ρ0) (H := []) t x cs ho
  simpa [mkV, ha] using this

theorem argD_spec (h : Inv w0 F0 s a w I ρ) (hJ : ∀ b, I b → J b) {te pe : Option Ty} {v v' : AV} {lent : Bool} {u : Value} (hv : VR w I ρ s.H v u) (hs : argD Alg.std s.H te pe v = some (v', lent))
    (hroot : lent = true → ∀ r o, hget s.H r = some o → ∀ b ∈ tfp ρ r o, J b) : AR w J v' u := by
  have up : ∀ {t : Ty} {x : t.den} {cs : List Value}, Own w I t .sh cs x [] → Own w J t .sh cs x [] := fun ho => Own.frame (fun _ _ => rfl) hJ ho (fun _ _ => rfl)
  unfold argD at hs
  split at hs
  · cases hs
    obtain ⟨cs, ho, rfl⟩ := hv.dat_inv
    exact .dat _ _ cs (up ho)
  · cases hs
    have := lb_dat hv
    subst this
    exact VR.bool
  · cases hs
    cases hv
    rename_i b off arr et fr hb hi hsz ho
    exact .dptr _ _ b off arr et fr hb (hJ b hi) hsz (up ho)
  · split at hs
    · rename_i hrd
      cases hs
      have ho := h.refShare hJ hv hrd (hroot rfl)
      exact .dat _ _ [u] ho
    · cases hs
  · split at hs
    · rename_i e m xs v0 hrow
      split at hs
      · rename_i t m' x hg
        cases hs
        obtain ⟨hr, hver⟩ := rowAt_spec hrow
        cases hv
        rename_i b off hrl hc
        obtain ⟨hle, hw⟩ := hc _ _ _ _ hr
        obtain ⟨t2, cs, hw⟩ := hw hver
        rcases walk_sl hw with ⟨rfl, he⟩ | ⟨i, q, _, _, _, _, _, _, _, rfl, _⟩
        · cases he
        · obtain ⟨b', off', fp1, arr0, et0, e1, e2, hown, _, hsub, _, hbin, hh0, hcs, hsz, _⟩ := h.rowAt hr hg hw
          cases e1
          subst e2
          subst hcs
          have hJr := fun b hb => hroot rfl _ _ hr b (by simpa [tfp] using hb)
          refine .dptr _ _ b off arr0 et0 (0, 0) hh0 (hJr b hbin) hsz ?_
          have h1 : Own w J t2 m' (seg arr0 off t2.sz) x fp1 := Own.frame (fun _ _ => rfl) hJ hown (fun _ _ => rfl)
          exact h1.share fun c hc => hJr c (hsub c hc)
      · cases hs
    · cases hs
  · rename_i r off
    split at hs
    · rename_i cs t hr
      split at hs
      · rename_i hle0
        split at hs
        · rename_i x l' hp
          cases hs
          obtain ⟨rfl, hrl⟩ := hv.bptr_inv
          obtain ⟨arr, et, hb, hfit, hcs⟩ := h.boxCells hr _ (Nat.le_trans (Nat.le_add_right _ _) hle0)
          obtain ⟨u1, u2, he, _, _, hown⟩ := packD_spec h hJ hcs hp (fun _ => hroot rfl)
          have hl1 := hown.len
          have hin : (ρ r).off + off + (cs.length - off) ≤ arr.size := by omega
          have hle : t.sz ≤ cs.length - off := by omega
          have : u1 = seg arr ((ρ r).off + off) t.sz := by
            have h1 : u1 = (seg arr ((ρ r).off + off) (cs.length - off)).take t.sz := by rw [he, List.take_left' hl1]
            rw [h1]
            simp only [seg, List.take_take]
            congr 1
            omega
          subst this
          exact .dptr t x _ _ arr et (0, 0) hb (hroot rfl r _ hr _ (by simp [tfp])) (by omega) hown
        · cases hs
      · cases hs
    · cases hs
  · rename_i vs
    split at hs
    · rename_i te
      split at hs
      · rename_i hagg
        split at hs
        · rename_i x hp
          cases hs
          cases hv
          rename_i cs h1 hl hc
          obtain ⟨u1, u2, he, hv2, _, hown⟩ := packD_spec h hJ (⟨hl, h1, hc⟩ : VRs w I ρ s.H vs cs) hp (fun ⟨v, hv, hp⟩ => hroot (by simp; exact ⟨v, hv, hp⟩))
          have hu2 : u2 = [] := List.eq_nil_of_length_eq_zero (by have := hv2.len; simpa using this.symm)
          subst hu2
          rw [List.append_nil] at he
          subst he
          have := AR.agg_mk hagg hown
          exact this
        · cases hs
      · cases hs
    · cases hs
  · split at hs
    · rename_i e
      cases hs
      cases hv
      have ho : Own w J (.sl e) .sh [.slice none 0 0] [] [] := ⟨Nat.zero_le _, rfl, none, 0, rfl, Nat.le_refl _, .inl rfl⟩
      exact .dat (.sl e) [] [.slice none 0 0] ho
    · cases hs
  · cases hs

end
end Go.Vee
