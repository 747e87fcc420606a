/-
  Calls are shown to do what the contracts say.
-/
import Derived.Test.YtjlojjkfdidkiaaV4
set_option linter.unusedSimpArgs false
set_option linter.unusedVariables false
namespace Go.Vee
open Go

section
variable {P : Program} {w0 w : World} {F0 : Bnd} {s : St} {a : Act} {I J : Nat → Prop} {ρ : Nat → RC} {H : Heap} {o : Oper} {K : St → Prop} {Q : Exit → Act → World → Prop}

/-- A part of a shared slice. -/
theorem Own.cut {e : Ty} {B : Option Addr} {len c0 : Nat} {y : List e.den} (h : Own w J (.sl e) .sh [.slice B len c0] y []) {lo n : Nat} {A : Option Addr} {c : Nat} (hl : lo + n ≤ y.length) (hnc : n ≤ c) (hA : 0 < n → A = B.map (fun a => a.add (lo * e.sz))) :
    Own w J (.sl e) .sh [.slice A n c] ((y.drop lo).take n) [] := by
  obtain ⟨h1, _, B', c', he, hc, h2⟩ := h
  simp only [List.cons.injEq, Value.slice.injEq, and_true] at he
  obtain ⟨rfl, rfl, rfl⟩ := he
  have hzl : ((y.drop lo).take n).length = n := by simp; omega
  refine ⟨by omega, rfl, A, c, by rw [hzl], by omega, ?_⟩
  by_cases hn : n = 0
  · subst hn; exact .inl (by simp)
  · right
    have hA := hA (by omega)
    rcases h2 with rfl | ⟨b, off, arr, et, fr, rfl, hb, hi, hel⟩
    · simp at hl; omega
    · refine ⟨b, off + lo * e.sz, arr, et, fr, by simp [hA, add_lit'], hb, hi, fun j hj => ?_⟩
      rw [hzl] at hj
      obtain ⟨g1, g2⟩ := hel (lo + j) (by omega)
      have e1 : off + lo * e.sz + (j + 1) * e.sz = off + (lo + j + 1) * e.sz := by rw [Nat.add_assoc lo j 1, Nat.add_mul lo]; omega
      have e2 : off + lo * e.sz + j * e.sz = off + (lo + j) * e.sz := by rw [Nat.add_mul lo]; omega
      rw [e1, e2]
      refine ⟨g1, ?_⟩
      simpa using g2

/-- A slice in memory, read as shared. -/
theorem Inv.refShare (h : Inv w0 F0 s a w I ρ) (hJ : ∀ b, I b → J b) {e : Ty} {r ver : Nat} {p : List Stp} {lo n : Nat} {u : Value} (hv : VR w I ρ s.H (.ref e r ver p lo n) u) {m : Md} {y : List e.den} (hr : readRef Alg.std s.H e r ver p = some (m, y))
    (hroot : ∀ r o, hget s.H r = some o → ∀ b ∈ tfp ρ r o, J b) : Own w J (.sl e) .sh [u] (Alg.std.subL y lo n) [] := by
  obtain ⟨A, c, B, c0, l, fp', e', m', xs, v, rfl, hnc, hg, hle, hver, hw, q1, q2, q3, hown, hsub, hget⟩ := h.ref hv hr
  have h1 : Own w J (.sl e) (.ow m) [.slice B y.length c0] y fp' := Own.frame (fun _ _ => rfl) hJ hown (fun _ _ => rfl)
  exact (h1.share (by simpa [okM] using (readRef_0 hr).2) fun b hb => hroot r _ hg b (by simpa [tfp] using hsub b hb)).cut q1 hnc q2

theorem asSl_spec (h : Inv w0 F0 s a w I ρ) (hJ : ∀ b, I b → J b) {e : Ty} {v : AV} {u : Value} {x : List e.den} (hv : VR w I ρ s.H v u) (hs : asSl Alg.std s.H e v = some x)
    (hroot : pureV v = false → ∀ r o, hget s.H r = some o → ∀ b ∈ tfp ρ r o, J b) : Own w J (.sl e) .sh [u] x [] := by
  unfold asSl at hs
  split at hs
  · obtain ⟨e1, e2⟩ := castD_some hs
    subst e1
    subst e2
    obtain ⟨cs, ho, rfl⟩ := hv.dat_inv
    have ho' : Own w J (.sl e) .sh cs _ [] := Own.frame (fun _ _ => rfl) hJ ho (fun _ _ => rfl)
    obtain ⟨_, _, A, c, rfl, _, _⟩ := id ho
    exact ho'
  · split at hs
    · rename_i hrd
      obtain ⟨e1, e2⟩ := castD_some hs
      cases e1
      subst e2
      exact h.refShare hJ hv hrd (hroot rfl)
    · cases hs
  · cases hs
    cases hv
    exact ⟨Nat.zero_le _, rfl, none, 0, rfl, Nat.le_refl _, .inl rfl⟩
  · cases hs

theorem packD_spec (h : Inv w0 F0 s a w I ρ) (hJ : ∀ b, I b → J b) : ∀ {t : Ty} {l l' : List AV} {us : List Value} {x : t.den}, VRs w I ρ s.H l us → packD Alg.std s.H t l = some (x, l') →
    ((∃ v ∈ l, pureV v = false) → ∀ r o, hget s.H r = some o → ∀ b ∈ tfp ρ r o, J b) → ∃ u1 u2, us = u1 ++ u2 ∧ VRs w I ρ s.H l' u2 ∧ (∀ v ∈ l', v ∈ l) ∧ Own w J t .sh u1 x []
  | .unit, l, l', us, x, hv, hp, _ => by
    simp [packD] at hp
    obtain ⟨rfl, rfl⟩ := hp
    exact ⟨[], us, rfl, hv, fun _ h => h, rfl, rfl⟩
  | .pair t1 t2, l, l', us, x, hv, hp, hr => by
    simp only [packD] at hp
    split at hp
    · rename_i x1 l1 h1
      split at hp
      · rename_i y1 l2 h2
        cases hp
        obtain ⟨u1, u2, rfl, hv1, hm1, o1⟩ := packD_spec h hJ hv h1 hr
        obtain ⟨u3, u4, rfl, hv2, hm2, o2⟩ := packD_spec h hJ hv1 h2 (fun ⟨v, hv, hp⟩ => hr ⟨v, hm1 v hv, hp⟩)
        exact ⟨u1 ++ u3, u4, by simp, hv2, fun v hv => hm1 v (hm2 v hv), u1, u3, [], [], rfl, rfl, o1, o2⟩
      · cases hp
    · cases hp
  | .sl e, [], l', us, x, hv, hp, hr => by simp [packD] at hp
  | .sl e, v :: l, l', us, x, hv, hp, hr => by
    match us, hv.len with
    | u :: us, _ =>
    have hvu := hv.at_ 0 v u rfl rfl
    simp only [packD] at hp
    split at hp
    · rename_i x' hs
      cases hp
      exact ⟨[u], us, rfl, hv.drop 1, fun _ h => List.mem_cons_of_mem _ h, asSl_spec h hJ hvu hs fun hp => hr ⟨v, by simp, hp⟩⟩
    · cases hp
  | .int k0, [], l', us, x, hv, hp, hr => by simp [packD] at hp
  | .int k0, v :: l, l', us, x, hv, hp, hr => by
    match us, hv.len with
    | u :: us, _ =>
    have hvu := hv.at_ 0 v u rfl rfl
    cases v with
    | dat t y =>
      simp only [packD] at hp
      split at hp
      · rename_i y' hy
        cases hp
        obtain ⟨e1, e2⟩ := castD_some hy
        subst e1
        subst e2
        obtain ⟨rfl, h2⟩ := hvu.int_inv
        exact ⟨[_], us, rfl, hv.drop 1, fun _ h => List.mem_cons_of_mem _ h, rfl, h2, rfl⟩
      · cases hp
    | _ => simp [packD] at hp
  | .bool, [], l', us, x, hv, hp, hr => by simp [packD] at hp
  | .bool, v :: l, l', us, x, hv, hp, hr => by
    match us, hv.len with
    | u :: us, _ =>
    have hvu := hv.at_ 0 v u rfl rfl
    cases v with
    | dat t y =>
      simp only [packD] at hp
      split at hp
      · rename_i y' hy
        cases hp
        obtain ⟨e1, e2⟩ := castD_some hy
        subst e1
        subst e2
        have := hvu.bool_inv
        subst this
        exact ⟨[_], us, rfl, hv.drop 1, fun _ h => List.mem_cons_of_mem _ h, rfl, rfl⟩
      · cases hp
    | lb b =>
      simp [packD] at hp
      obtain ⟨rfl, rfl⟩ := hp
      have := lb_dat hvu
      subst this
      exact ⟨[_], us, rfl, hv.drop 1, fun _ h => List.mem_cons_of_mem _ h, rfl, rfl⟩
    | _ => simp [packD] at hp
  | .str, [], l', us, x, hv, hp, hr => by simp [packD] at hp
  | .str, v :: l, l', us, x, hv, hp, hr => by
    match us, hv.len with
    | u :: us, _ =>
    have hvu := hv.at_ 0 v u rfl rfl
    cases v with
    | dat t y =>
      simp only [packD] at hp
      split at hp
      · rename_i y' hy
        cases hp
        obtain ⟨e1, e2⟩ := castD_some hy
        subst e1
        subst e2
        obtain ⟨b, rfl, h1, h2⟩ := hvu.str_inv
        exact ⟨[_], us, rfl, hv.drop 1, fun _ h => List.mem_cons_of_mem _ h, ⟨b, rfl, h1, h2⟩, rfl⟩
      · cases hp
    | _ => simp [packD] at hp

/-! ## Arguments -/
def ρ0 : Nat → RC := fun _ => ⟨0, 0, .nilIface, []⟩
/-- An argument: data, no root. -/
abbrev AR (w : World) (I : Nat → Prop) (v : AV) (u : Value) : Prop := VR w I ρ0 [] v u

theorem AR.to {v : AV} {u : Value} (h : AR w I v u) (ρ : Nat → RC) (H : Heap) : VR w I ρ H v u :=
  VR.ext (ρ := ρ0) (H := []) ⟨fun _ _ => rfl, fun _ h => h, by simp, fun r hr => by simp at hr, fun r hr => by simp at hr⟩ h

theorem VR.pure : ∀ {v : AV} {u : Value}, VR w I ρ H v u → pureV v = true → AR w I v u := by
  intro v u h hp
  cases h <;> simp [pureV] at hp
  case dat t x cs ho => exact .dat t x cs ho
  case lb b => exact .lb b
  case dptr t x b off arr et fr hb hi hs h => exact .dptr t x b off arr et fr hb hi hs h
  case nilS => exact .nilS
  case nilP => exact .nilP
  case clo f vs cs hl h =>
    cases vs with
    | nil => exact .clo f [] cs hl (by simp)
    | cons v vs => simp [pureV] at hp

/-- A variable's cells. -/
theorem Inv.boxCells (h : Inv w0 F0 s a w I ρ) {r : Nat} {cs : List AV} (hr : hget s.H r = some (.box cs)) (off : Nat) (ho : off ≤ cs.length) :
    ∃ arr et, w.heap[(ρ r).b]? = some (.cells arr et (0, 0)) ∧ (ρ r).off + cs.length ≤ arr.size ∧ VRs w I ρ s.H (cs.drop off) (seg arr ((ρ r).off + off) (cs.length - off)) := by
  obtain ⟨arr, et, hb, hfit, hcell⟩ := h.roots r _ hr
  have hin : (ρ r).off + off + (cs.length - off) ≤ arr.size := by omega
  refine ⟨arr, et, hb, hfit, ?_, fun u hu => ?_, fun i v u hv hu => ?_⟩
  · rw [seg_length hin]; simp
  · obtain ⟨i, hi, rfl⟩ := List.getElem_of_mem hu
    rw [seg_length hin] at hi
    have hlt : off + i < cs.length := by omega
    obtain ⟨u', hu', h1, _⟩ := hcell (off + i) cs[off + i] (by simp [hlt])
    have : (seg arr ((ρ r).off + off) (cs.length - off))[i]? = some u' := by rw [seg_get hi, ← hu']; congr 1; omega
    rw [List.getElem?_eq_getElem (by rw [seg_length hin]; exact hi)] at this
    cases this
    exact h1
  · have hi : i < cs.length - off := by have := (List.getElem?_eq_some_iff.1 hu).1; rwa [seg_length hin] at this
    rw [List.getElem?_drop] at hv
    obtain ⟨u', hu', _, h2⟩ := hcell (off + i) v hv
    rw [seg_get hi] at hu
    have : (ρ r).off + off + i = (ρ r).off + (off + i) := by omega
    rw [this, hu'] at hu
    cases hu
    exact h2

theorem VR.bptr_inv {r off : Nat} {u : Value} (h : VR w I ρ H (.bptr r off) u) : u = .pointer (some ⟨(ρ r).b, (ρ r).off + off, none⟩) ∧ r < H.length := by
  cases h; exact ⟨rfl, by assumption⟩

theorem AR.agg_mk {t : Ty} {x : t.den} {cs : List Value} (ha : t.isAgg = true) (ho : Own w J t .sh cs x []) : AR w J (.dat t x) (.agg cs.toArray) := by
  have := VR.dat (ρ := ρ0) (H := []) t x cs ho
  simpa [mkV, ha] using this

theorem argD_spec (h : Inv w0 F0 s a w I ρ) (hJ : ∀ b, I b → J b) {te pe : Option Ty} {v v' : AV} {lent : Bool} {u : Value} (hv : VR w I ρ s.H v u) (hs : argD Alg.std s.H te pe v = some (v', lent))
    (hroot : lent = true → ∀ r o, hget s.H r = some o → ∀ b ∈ tfp ρ r o, J b) : AR w J v' u := by
  have up : ∀ {t : Ty} {x : t.den} {cs : List Value}, Own w I t .sh cs x [] → Own w J t .sh cs x [] := fun ho => Own.frame (fun _ _ => rfl) hJ ho (fun _ _ => rfl)
  unfold argD at hs
  split at hs
  · cases hs
    obtain ⟨cs, ho, rfl⟩ := hv.dat_inv
    exact .dat _ _ cs (up ho)
  · cases hs
    have := lb_dat hv
    subst this
    exact VR.bool
  · cases hs
    cases hv
    rename_i b off arr et fr hb hi hsz ho
    exact .dptr _ _ b off arr et fr hb (hJ b hi) hsz (up ho)
  · split at hs
    · rename_i hrd
      cases hs
      have ho := h.refShare hJ hv hrd (hroot rfl)
      exact .dat _ _ [u] ho
    · cases hs
  · split at hs
    · rename_i e m xs v0 hrow
      split at hs
      · rename_i t m' x hg
        split at hs
        rotate_left
        · cases hs
        rename_i hokm
        cases hs
        obtain ⟨hr, hver⟩ := rowAt_spec hrow
        cases hv
        rename_i b off hrl hc
        obtain ⟨hle, hw⟩ := hc _ _ _ _ hr
        obtain ⟨t2, cs, hw⟩ := hw hver
        rcases walk_sl hw with ⟨rfl, he⟩ | ⟨i, q, _, _, _, _, _, _, _, rfl, _⟩
        · cases he
        · obtain ⟨b', off', fp1, arr0, et0, e1, e2, hown, _, hsub, _, hbin, hh0, hcs, hsz, _⟩ := h.rowAt hr hg hw
          cases e1
          subst e2
          subst hcs
          have hJr := fun b hb => hroot rfl _ _ hr b (by simpa [tfp] using hb)
          refine .dptr _ _ b off arr0 et0 (0, 0) hh0 (hJr b hbin) hsz ?_
          have h1 : Own w J t2 m' (seg arr0 off t2.sz) x fp1 := Own.frame (fun _ _ => rfl) hJ hown (fun _ _ => rfl)
          exact h1.share hokm fun c hc => hJr c (hsub c hc)
      · cases hs
    · cases hs
  · rename_i r off
    split at hs
    · rename_i cs t hr _
      split at hs
      · rename_i hle0
        split at hs
        · rename_i x l' hp
          cases hs
          obtain ⟨rfl, hrl⟩ := hv.bptr_inv
          obtain ⟨arr, et, hb, hfit, hcs⟩ := h.boxCells hr _ (Nat.le_trans (Nat.le_add_right _ _) hle0)
          obtain ⟨u1, u2, he, _, _, hown⟩ := packD_spec h hJ hcs hp (fun _ => hroot rfl)
          have hl1 := hown.len
          have hin : (ρ r).off + off + (cs.length - off) ≤ arr.size := by omega
          have hle : t.sz ≤ cs.length - off := by omega
          have : u1 = seg arr ((ρ r).off + off) t.sz := by
            have h1 : u1 = (seg arr ((ρ r).off + off) (cs.length - off)).take t.sz := by rw [he, List.take_left' hl1]
            rw [h1]
            simp only [seg, List.take_take]
            congr 1
            omega
          subst this
          exact .dptr t x _ _ arr et (0, 0) hb (hroot rfl r _ hr _ (by simp [tfp])) (by omega) hown
        · cases hs
      · cases hs
    · cases hs
  · rename_i vs
    split at hs
    · rename_i te
      split at hs
      · rename_i hagg
        split at hs
        · rename_i x hp
          cases hs
          cases hv
          rename_i cs h1 hl hc
          obtain ⟨u1, u2, he, hv2, _, hown⟩ := packD_spec h hJ (⟨hl, h1, hc⟩ : VRs w I ρ s.H vs cs) hp (fun ⟨v, hv, hp⟩ => hroot (by simp; exact ⟨v, hv, hp⟩))
          have hu2 : u2 = [] := List.eq_nil_of_length_eq_zero (by have := hv2.len; simpa using this.symm)
          subst hu2
          rw [List.append_nil] at he
          subst he
          have := AR.agg_mk hagg hown
          exact this
        · cases hs
      · cases hs
    · cases hs
  · split at hs
    · rename_i e
      cases hs
      cases hv
      have ho : Own w J (.sl e) .sh [.slice none 0 0] [] [] := ⟨Nat.zero_le _, rfl, none, 0, rfl, Nat.le_refl _, .inl rfl⟩
      exact .dat (.sl e) [] [.slice none 0 0] ho
    · cases hs
  · cases hs

end
end Go.Vee

set_option linter.unusedSimpArgs false
set_option linter.unusedVariables false
namespace Go.Vee
open Go

section
variable {P : Program} {w0 w : World} {F0 : Bnd} {s : St} {a : Act} {I J : Nat → Prop} {ρ : Nat → RC} {H : Heap} {o : Oper} {K : St → Prop} {Q : Exit → Act → World → Prop} {C : World → Prop}

/-! ## Structs of plain fields compared -/
theorem drop_pre {α : Type} {pre l : List α} : (pre ++ l).drop pre.length = l := by simp
theorem run_eqFields : ∀ {t : Ty} {fs : List Field} {off : Nat} {x y : t.den} {b : Bool} {pre pre' cs cs' : List Value}, (TyF P t).2 fs off → eqD Alg.std t x y = some b → (∀ f ∈ fs, f.name ≠ "_") → Own w I t .sh cs x [] → Own w I t .sh cs' y [] →
    pre.length = off → pre'.length = off → ∀ w', (Op.eqFields 9999 (pre ++ cs).toArray (pre' ++ cs').toArray fs).run P w' = .ok b w'
  | .unit, fs, off, x, y, b, pre, pre', cs, cs', hF, hb, hn, hx, hy, h1, h2, w' => by
    have : fs = [] := hF
    subst this
    simp [eqD] at hb
    subst hb
    simp [Op.eqFields]
  | .pair t1 t2, fs, off, x, y, b, pre, pre', cs, cs', hF, hb, hn, hx, hy, h1, h2, w' => by
    obtain ⟨f, rest, rfl, hfo, hsz, hf1, hf2⟩ := hF
    obtain ⟨c1, c2, f1, f2, rfl, hfp, hx1, hx2⟩ := hx
    obtain ⟨rfl, rfl⟩ := List.append_eq_nil_iff.1 hfp.symm
    obtain ⟨d1, d2, g1, g2, rfl, hgp, hy1, hy2⟩ := hy
    obtain ⟨rfl, rfl⟩ := List.append_eq_nil_iff.1 hgp.symm
    have l1 := hx1.len
    have l2 := hy1.len
    have p1 : (part f.type (pre ++ (c1 ++ c2)).toArray f.offset).run P w' = .ok (mkV t1 c1) w' := by
      rw [run_part hf1 (by rw [hfo, ← h1]; simp only [List.length_append]; omega), hfo, ← h1, drop_pre, List.take_left' l1]
    have p2 : (part f.type (pre' ++ (d1 ++ d2)).toArray f.offset).run P w' = .ok (mkV t1 d1) w' := by
      rw [run_part hf1 (by rw [hfo, ← h2]; simp only [List.length_append]; omega), hfo, ← h2, drop_pre, List.take_left' l2]
    have hname : f.name ≠ "_" := hn f (by simp)
    have rest2 : ∀ {r : Bool}, eqD Alg.std t2 x.2 y.2 = some r → (Op.eqFields 9999 (pre ++ (c1 ++ c2)).toArray (pre' ++ (d1 ++ d2)).toArray rest).run P w' = .ok r w' := fun hr => by
      have := run_eqFields (pre := pre ++ c1) (pre' := pre' ++ d1) (cs := c2) (cs' := d2) hf2 hr (fun f hf => hn f (by simp [hf])) hx2 hy2 (by simp [h1, l1]) (by simp [h2, l2]) w'
      simpa [List.append_assoc] using this
    have fin : ∀ {q r : Bool}, (Op.equalIn 9999 f.type (mkV t1 c1) (mkV t1 d1)).run P w' = .ok q w' → eqD Alg.std t2 x.2 y.2 = some r →
        (Op.eqFields 9999 (pre ++ (c1 ++ c2)).toArray (pre' ++ (d1 ++ d2)).toArray (f :: rest)).run P w' = .ok (if q = true then r else false) w' := fun {q r} hq hr => by
      unfold Op.eqFields
      rw [if_pos hname]
      simp only [Sem.run_bind, p1, p2, hq, Result.andThen_ok]
      cases q with
      | true => simpa using rest2 hr
      | false => simp
    cases t1 with
    | int k =>
      simp only [eqD] at hb
      split at hb
      · rename_i r hr
        cases hb
        obtain ⟨rfl, _, _⟩ := hx1
        obtain ⟨rfl, _, _⟩ := hy1
        have := fin (q := decide (x.1 = y.1)) (by
          have := run_equalIn_int w' 9998 f.type k k x.1 y.1 hf1.2
          simp only [mkV, Ty.isAgg, Bool.false_eq_true, if_false, List.headD_cons]
          rw [this]
          congr 1) hr
        exact this
      · cases hb
    | bool =>
      simp only [eqD] at hb
      split at hb
      · rename_i r hr
        cases hb
        obtain ⟨rfl, _⟩ := hx1
        obtain ⟨rfl, _⟩ := hy1
        have := fin (q := decide (x.1 = y.1)) (by
          have := run_equalIn_bool' w' 9998 f.type x.1 y.1 hf1.2
          simp only [mkV, Ty.isAgg, Bool.false_eq_true, if_false, List.headD_cons]
          rw [this]
          congr 1) hr
        exact this
      · cases hb
    | str =>
      simp only [eqD] at hb
      split at hb
      · rename_i r hr
        cases hb
        obtain ⟨⟨s1, rfl, e1, _⟩, _⟩ := hx1
        obtain ⟨⟨s2, rfl, e2, _⟩, _⟩ := hy1
        have := fin (q := decide (x.1 = y.1)) (by
          have := run_equalIn_string w' 9998 f.type s1 s2 hf1.2
          simp only [mkV, Ty.isAgg, Bool.false_eq_true, if_false, List.headD_cons]
          rw [this, bytesEq, ← e1, ← e2]) hr
        exact this
      · cases hb
    | sl e => simp [eqD] at hb
    | unit => simp [eqD] at hb
    | pair _ _ => simp [eqD] at hb
  | .int _, _, _, _, _, _, _, _, _, _, _, hb, _, _, _, _, _, _ => by simp [eqD] at hb
  | .bool, _, _, _, _, _, _, _, _, _, _, hb, _, _, _, _, _, _ => by simp [eqD] at hb
  | .str, _, _, _, _, _, _, _, _, _, _, hb, _, _, _, _, _, _ => by simp [eqD] at hb
  | .sl _, _, _, _, _, _, _, _, _, _, _, hb, _, _, _, _, _, _ => by simp [eqD] at hb

theorem ok_eqOp {op : BinOp} {t : TypeId} {x y : Operand} {yt : TypeId} (τ : Env) (G : Gam) (hE : EnvOk P τ) (h : Inv w0 F0 s a w I ρ) (ho : o.op = .binOp op t x y yt) (hq : τ.eq t = true)
    (hs : sat (stepOp Alg.std τ G o s) (fun _ s' => K s')) : Quiet P o a C (fun a' => Post w0 F0 K a' w) := by
  have hx := h.ev x
  have hy := h.ev y
  simp only [stepOp, ho, hq] at hs
  split at hs
  rotate_left
  · exact hs.elim
  rename_i T hT
  unfold eqOp at hs
  split at hs
  rotate_left
  · exact hs.elim
  rename_i hc
  simp only [Bool.and_eq_true] at hc
  obtain ⟨⟨⟨hax, hay⟩, hox⟩, hoy⟩ := hc
  split at hs
  rotate_left
  · exact hs.elim
  rename_i xd yd hpx hpy
  split at hs
  rotate_left
  · exact hs.elim
  rename_i b hb
  obtain ⟨us, hux, hvx⟩ := hx.cells hox
  obtain ⟨vs, huy, hvy⟩ := hy.cells hoy
  have hJ : ∀ b, I b → (I b ∨ ∃ r o, hget s.H r = some o ∧ b ∈ tfp ρ r o) := fun _ h => .inl h
  obtain ⟨u1, u2, rfl, hv2, _, ho1⟩ := packD_spec h hJ hvx hpx (fun _ r o hr b hb => .inr ⟨r, o, hr, hb⟩)
  obtain ⟨v1, v2, rfl, hw2, _, ho2⟩ := packD_spec h hJ hvy hpy (fun _ r o hr b hb => .inr ⟨r, o, hr, hb⟩)
  have e2 : u2 = [] := List.eq_nil_of_length_eq_zero (by have := hv2.len; simpa using this.symm)
  have e3 : v2 = [] := List.eq_nil_of_length_eq_zero (by have := hw2.len; simpa using this.symm)
  subst e2
  subst e3
  rw [List.append_nil] at hux huy
  have hxv := agg_of_cells hx hax hux
  have hyv := agg_of_cells hy hay huy
  obtain ⟨hEq1, hEq2, hEq3⟩ := hE.eq t hq
  have hF := hE.ty t T hT
  have hfs : ∃ fs, P.underlying t = some (.struct fs) ∧ (TyF P T).2 fs.toList 0 := by
    cases T with
    | pair t1 t2 => obtain ⟨_, fs, h1, h2⟩ := hF; exact ⟨fs, h1, h2⟩
    | unit => obtain ⟨_, fs, h1, h2⟩ := hF; exact ⟨fs, h1, h2⟩
    | int _ => simp [eqD] at hb
    | bool => simp [eqD] at hb
    | str => simp [eqD] at hb
    | sl _ => simp [eqD] at hb
  obtain ⟨fs, hu, hF2⟩ := hfs
  have hfo : P.fieldsOf t = fs := by simp [Program.fieldsOf, hu]
  rw [hfo] at hEq3
  have hrunE : ∀ w', (Op.equalIn 10000 t (.agg u1.toArray) (.agg v1.toArray)).run P w' = .ok b w' := fun w' => by
    rw [run_equalIn_struct w' 9999 t u1.toArray v1.toArray (by rw [hfo]; exact hu) hEq1, hfo]
    have := run_eqFields (pre := []) (pre' := []) hF2 hb hEq3 ho1 ho2 rfl rfl w'
    simpa using this
  have hg : ∀ w', (eqGuard op t x y (.agg u1.toArray) (.agg v1.toArray)).run P w' = .ok () w' := fun w' => run_eqGuard_agg w' op t x y _ _ hEq2
  split at hs
  · refine ok_done h (fun w' _ => ?_) (VR.bool (b := b)) hs
    simp only [execOp, ho, hxv, hyv, Sem.run_bind, hg, Result.andThen_ok, run_eql_struct, hrunE, Sem.run_pure]
  · refine ok_done h (fun w' _ => ?_) (VR.bool (b := !b)) hs
    simp only [execOp, ho, hxv, hyv, Sem.run_bind, hg, Result.andThen_ok, run_neq_struct, hrunE, Sem.run_pure]
  · exact hs.elim

/-! ## copy -/
theorem run_firstCells_part {size k n c : Nat} {b off : Nat} {arr : Array Value} {et : TypeId} {fr : Nat × Nat} (hb : w.heap[b]? = some (.cells arr et fr)) (hin : off + k * size ≤ arr.size) :
    (Builtin.firstCells size k (.slice (some ⟨b, off, none⟩) n c)).run P w = .ok (seg arr off (k * size)).toArray w := by
  have := (Src.block (P := P) (c := c) hb hin).now
  exact this

theorem run_copy {t t2 ty eid : TypeId} {i : TypeInfo} (ht : P.underlying t = some (.slice eid)) (hi : P.info? eid = some i) {b n c k : Nat} {cur : Array Value} {et : TypeId} {y : Value} {m : Nat} {cells : List Value}
    (hm : (Builtin.lenOf y).run P w = .ok m w) (hk : k = min n m) (hf : (Builtin.firstCells i.size k y).run P w = .ok cells.toArray w) (hb : w.heap[b]? = some (.cells cur et (0, 0))) (h1 : ∀ u ∈ cells, u.oneCell' = true) (hfit : cells.length ≤ cur.size) :
    (Builtin.copy_ #[t, t2] ty #[.slice (some ⟨b, 0, none⟩) n c, y]).run P w = .ok (.int .i64 k) (w.setRow b (lay cur 0 cells)) := by
  have hst := run_storeCells_at P b 0 et cells 0 cur w hb (by simpa using hfit) h1
  simp only [Nat.add_zero] at hst
  have hk' : Nat.min m n = k := by rw [hk]; exact Nat.min_comm m n
  simp [Builtin.copy_, run_underlying ht, sizeOf, typeInfo, hi, hm, hk', hf, hst, lay, goInt]
theorem run_copy_nil {t t2 ty eid : TypeId} {i : TypeInfo} (ht : P.underlying t = some (.slice eid)) (hi : P.info? eid = some i) {c : Nat} {y : Value} {m : Nat}
    (hm : (Builtin.lenOf y).run P w = .ok m w) {cells : Array Value} (hf : (Builtin.firstCells i.size 0 y).run P w = .ok cells w) :
    (Builtin.copy_ #[t, t2] ty #[.slice none 0 c, y]).run P w = .ok (.int .i64 0) w := by
  have hk' : Nat.min m 0 = 0 := Nat.min_zero m
  simp [Builtin.copy_, run_underlying ht, sizeOf, typeInfo, hi, hm, hk', hf, goInt]

theorem lay_seg_in {arr : Array Value} {cells : List Value} {i n : Nat} (h : cells.length ≤ arr.size) (hi : i + n ≤ cells.length) : seg (lay arr 0 cells) i n = (cells.drop i).take n := by
  simp only [seg, lay, List.take_zero, List.nil_append, Nat.zero_add]
  rw [List.drop_append_of_le_length (by omega), List.take_append_of_le_length (by simp; omega)]
theorem lay_seg_out {arr : Array Value} {cells : List Value} {i n : Nat} (h : cells.length ≤ arr.size) (hi : cells.length ≤ i) : seg (lay arr 0 cells) i n = seg arr i n := by
  simp only [seg, lay, List.take_zero, List.nil_append, Nat.zero_add]
  rw [List.drop_append, List.drop_eq_nil_of_le hi, List.nil_append, List.drop_drop]
  congr 2
  omega

theorem ok_copy {x y : Operand} {t t2 : TypeId} (τ : Env) (G : Gam) (hE : EnvOk P τ) (h : Inv w0 F0 s a w I ρ) (ho : o.op = .call { callee := .builtin .copy, args := #[x, y], argTypes := #[t, t2] })
    (hs : sat (stepOp Alg.std τ G o s) (fun _ s' => K s')) : o.wp P a w (Post w0 F0 K) Q := by
  have hxv := h.ev x
  have hyv := h.ev y
  simp only [stepOp, ho] at hs
  split at hs
  rotate_left
  · exact hs.elim
  rename_i e0 e2 hT hT2
  unfold cpOp at hs
  split at hs
  rotate_left
  · exact hs.elim
  rename_i e r ver st p lo n hxe
  split at hs
  rotate_left
  · exact hs.elim
  rename_i z hsl hz
  split at hs
  rotate_left
  · exact hs.elim
  rename_i e' m' xs v m y0 hrow hrd
  split at hs
  rotate_left
  · exact hs.elim
  rename_i y00 hc
  obtain ⟨ee, e2'⟩ := castD_some hc
  cases ee
  subst e2'
  split at hs
  rotate_left
  · exact hs.elim
  rename_i ys hset
  split at hs
  rotate_left
  · exact hs.elim
  rename_i hcond
  obtain ⟨rfl, hsz0⟩ := hcond
  obtain ⟨hn, hs⟩ := hs
  have hn : n = List.length y0 := hn
  rw [hxe] at hxv
  have hn63 : n ≤ 9223372036854775807 := by cases hxx : a.eval x <;> rw [hxx] at hxv <;> cases hxv; assumption
  have hJ : ∀ b, I b → (I b ∨ ∃ r o, hget s.H r = some o ∧ b ∈ tfp ρ r o) := fun _ h => .inl h
  have hsrc := asSl_spec h hJ hyv hz (fun _ r o hr b hb => .inr ⟨r, o, hr, hb⟩)
  obtain ⟨A, c, B, c0, l, fp0, e1, m1, xs', v', hu1, hnc, hg, hle, hver, hw, q1, q2, q3, hown0, hsub0, hget0⟩ := h.ref hxv hrd
  obtain ⟨hg', hver'⟩ := rowAt_spec hrow
  rw [hg'] at hg
  cases hg
  rcases walk_sl hw with ⟨hnil, _⟩ | ⟨i, q, _, _, _, _, _, _, _, hpq, _⟩
  · cases hnil
  cases hpq
  obtain ⟨b', off', fp1, arr0, et0, e1, e2, hown2, hnd1, hsub1, hbn, hbin, hh0, hcs, hsz, hlens⟩ := h.rowAt hg' hget0 hw
  cases e1
  obtain ⟨rfl, rfl⟩ := q3 ⟨rfl, hn⟩
  have hu : a.eval x = .slice A n c := hu1
  obtain ⟨_, _, Bz, cz, hyu, hzc, hzz⟩ := hsrc
  have hyu : a.eval y = .slice Bz z.length cz := by simpa using hyu
  obtain ⟨eid, hun, hF, _⟩ := TyF.sl (hE.ty t _ hT)
  obtain ⟨ti, hti, htsz, htz, _⟩ := (TyF.base hF).info
  have hlen : (Builtin.lenOf (a.eval y)).run P w = .ok z.length w := by rw [hyu]; simp [Builtin.lenOf]
  have hmin : Alg.std.minN n (Alg.std.lenL z) = min n z.length := rfl
  rw [hmin] at hs hset
  obtain ⟨bc, hbc⟩ := exec_builtin (P := P) (a := a) ho
  have exec : ∀ {u : Value} {w' : World}, (Builtin.copy_ #[t, t2] o.type #[a.eval x, a.eval y]).run P w = .ok u w' → (execOp a.eval o).run P w = .ok (.value u) w' := fun hr => by
    rw [hbc]; simp [builtin, hr]
  have hflat : ∀ {w1 : World} {I1 : Nat → Prop} {m2 : Md} {cs : List Value} {xx : e0.den} {fp : List Nat}, Own w1 I1 e0 m2 cs xx fp → fp = [] ∧ ∀ (w' : World) (I' : Nat → Prop) (m'' : Md), Own w' I' e0 m'' cs xx [] := fun hh => Own.flat hsl hh
  have hput : Alg.std.putL (α := e0.den) y0 0 (Alg.std.subL z 0 (min n z.length)) = z.take (min n z.length) ++ y0.drop (min n z.length) := by
    have : (z.take (min n z.length)).length = min n z.length := by simp
    simp only [Alg.std, List.take_zero, List.nil_append, List.drop_zero, Nat.zero_add, this]
  rw [hput] at hset
  -- where the slice lies in a block
  have hown3 := hown2
  rcases hown3.2 with ⟨he, hy0, hfp1⟩ | ⟨b, c2, arr, et, fps, he, hb, h1, h2, h3, h4, hfp1, hel⟩
  · -- nil
    have hA : A = none := by
      have := (List.cons.inj he).1
      injection this
    subst hA
    have hn0 : n = 0 := by rw [hn]; change y0 = [] at hy0; rw [hy0]; rfl
    subst hn0
    have hr : (Builtin.copy_ #[t, t2] o.type #[a.eval x, a.eval y]).run P w = .ok (.int .i64 0) w := by
      rw [hu]
      rw [hyu] at hlen ⊢
      cases Bz with
      | none => exact run_copy_nil (cells := #[]) hun hti hlen (by simp [Builtin.firstCells])
      | some ad => exact run_copy_nil (cells := #[]) hun hti hlen (by simp [Builtin.firstCells, loadCells, loadCellsFrom, Nat.zero_mul])
    have e0 : z.take (min 0 z.length) ++ y0.drop (min 0 z.length) = y0 := by simp
    rw [e0] at hset
    obtain ⟨ρ', h2, E⟩ := hlens w arr0 et0 y0 fp1 ys (Keeps.refl _ _) hh0 ⟨rfl, fun _ _ => rfl⟩ (by rw [← hcs]; exact hown2) hnd1 (fun k hk => .inl hk) hset
    have : (min 0 z.length) = 0 := by simp
    rw [this] at hs
    exact wp_val (exec hr) ⟨_, I, ρ', h2.put (VR.i64 (n := 0) (by omega)) o.dst, hs⟩
  · have hA : A = some ⟨b, 0, none⟩ ∧ n = List.length y0 ∧ c = c2 := by
      have := (List.cons.inj he).1
      injection this with a1 a2 a3
      exact ⟨a1, hn, a3⟩
    obtain ⟨rfl, _, rfl⟩ := hA
    generalize hk : min n z.length = k at hs hset
    have hkn : k ≤ n := by omega
    have hkz : k ≤ z.length := by omega
    have hbI : b ∈ (ρ r).fp := hsub1 b (by rw [hfp1]; simp)
    -- the cells that are copied
    obtain ⟨cells, hcl, hcr, hco⟩ : ∃ cells : List Value, cells.length = k * e0.sz ∧ (Builtin.firstCells ti.size k (a.eval y)).run P w = .ok cells.toArray w ∧ ∀ j (hj : j < k), ∀ (w' : World) (I' : Nat → Prop) (m'' : Md), Own w' I' e0 m'' ((cells.drop (j * e0.sz)).take e0.sz) (z[j]'(by omega)) [] := by
      rw [hyu, htsz]
      rcases hzz with rfl | ⟨bz, offz, arrz, etz, frz, rfl, hbz, _, helz⟩
      · have hk0 : k = 0 := by simpa using hk.symm
        subst hk0
        refine ⟨[], by simp, ?_, fun j hj => absurd hj (by omega)⟩
        cases Bz <;> simp [Builtin.firstCells, loadCells, loadCellsFrom]
      · by_cases hk0 : k = 0
        · subst hk0
          exact ⟨[], by simp, by simp [Builtin.firstCells, loadCells, loadCellsFrom], fun j hj => absurd hj (by omega)⟩
        · have hin : offz + k * e0.sz ≤ arrz.size := by
            have := (helz (k - 1) (by omega)).1
            rwa [Nat.sub_add_cancel (by omega)] at this
          refine ⟨seg arrz offz (k * e0.sz), seg_length hin, run_firstCells_part hbz hin, fun j hj w' I' m'' => ?_⟩
          rw [seg_seg (by have : (j + 1) * e0.sz ≤ k * e0.sz := Nat.mul_le_mul_right _ hj
                          rw [Nat.add_mul, Nat.one_mul] at this; exact this)]
          exact (hflat (helz j (by omega)).2).2 w' I' m''
    have hc1 : ∀ u ∈ cells, u.oneCell' = true := segs_one (n := k) (sz := e0.sz) hcl fun j hj => (hco j hj w I .sh).one
    have hfit : cells.length ≤ arr.size := by
      rw [hcl, h3]
      exact Nat.mul_le_mul_right _ (by rw [hn] at hkn; omega)
    have hr : (Builtin.copy_ #[t, t2] o.type #[a.eval x, a.eval y]).run P w = .ok (.int .i64 k) (w.setRow b (lay arr 0 cells)) := by
      rw [hu]
      exact run_copy hun hti hlen hk.symm hcr hb hc1 hfit
    have hnb : (w.setRow b (lay arr 0 cells)).heap[b]? = some (.cells (lay arr 0 cells) et (0, 0)) := setRow_heap w b arr _ et _ hb
    have hbb' : b' ≠ b := fun hh => hbn (by rw [hfp1, hh]; simp)
    have hfps : ∀ j, fps.getD j [] = [] := fun j => by
      by_cases hj : j < List.length y0
      · exact (hflat (hel j hj)).1
      · simp [List.getD_eq_getElem?_getD, List.getElem?_eq_none (show fps.length ≤ j by omega)]
    have hown' : Own (w.setRow b (lay arr 0 cells)) I (.sl e0) (.ow m) (seg arr0 off' (Ty.sl e0).sz) (z.take k ++ y0.drop k) fp1 := by
      rw [← hcs, he]
      have hl1 : (z.take k ++ y0.drop k).length = List.length y0 := by simp; omega
      refine ⟨by rw [hl1]; exact hown2.1, .inr ⟨b, c, lay arr 0 cells, et, fps, by rw [hl1], hnb, by rw [hl1]; exact h1, h2, by rw [lay_size (by simpa using hfit)]; exact h3, by rw [hl1]; exact h4, hfp1, fun j hj => ?_⟩⟩
      rw [hl1] at hj
      rw [hfps j]
      by_cases hjk : j < k
      · have hle1 : j * e0.sz + e0.sz ≤ cells.length := by
          rw [hcl]
          have : (j + 1) * e0.sz ≤ k * e0.sz := Nat.mul_le_mul_right _ hjk
          rwa [Nat.add_mul, Nat.one_mul] at this
        rw [lay_seg_in hfit hle1]
        have := hco j hjk (w.setRow b (lay arr 0 cells)) I m
        have e1 : (z.take k ++ y0.drop k)[j]'(by rw [hl1]; exact hj) = z[j]'(by omega) := by
          rw [List.getElem_append_left (by simp; omega)]; simp
        rw [e1]
        exact this
      · rw [lay_seg_out hfit (by rw [hcl]; exact Nat.mul_le_mul_right _ (by omega))]
        have := (hflat (hel j hj)).2 (w.setRow b (lay arr 0 cells)) I m
        have e1 : (z.take k ++ y0.drop k)[j]'(by rw [hl1]; exact hj) = y0[j]'hj := by
          have ht : (z.take k).length = k := by simp; omega
          rw [List.getElem_append_right (by omega)]
          simp only [List.getElem_drop, ht]
          congr 1
          omega
        rw [e1]
        exact this
    obtain ⟨ρ', h2, E⟩ := hlens (w.setRow b (lay arr 0 cells)) arr0 et0 (z.take k ++ y0.drop k) fp1 ys (Keeps.setRow w b _ _ (.inr (by rw [hfp1]; simp))) ((setRow_other w _ _ _ hbb').trans hh0) ⟨rfl, fun _ _ => rfl⟩ hown' hnd1 (fun k hk => .inl hk) hset
    exact wp_val (exec hr) ⟨_, I, ρ', h2.put (VR.i64 (n := (k : Int)) (by omega)) o.dst, hs⟩
end
end Go.Vee

set_option linter.unusedSimpArgs false
set_option linter.unusedVariables false
namespace Go.Vee
open Go

section
variable {P : Program} {w0 w : World} {F0 : Bnd} {s : St} {a : Act} {I J : Nat → Prop} {ρ : Nat → RC} {H : Heap} {o : Oper} {K : St → Prop} {Q : Exit → Act → World → Prop}

theorem mkV_one_eq {t : Ty} {cs : List Value} (h : (mkV t cs).oneCell' = true) (hl : cs.length = t.sz) : ∃ u, cs = [u] ∧ mkV t cs = u ∧ t.sz = 1 := by
  by_cases ha : t.isAgg = true
  · simp [mkV, ha, Value.oneCell'] at h
  · have hs := isAgg_sz (by simpa using ha)
    match cs, hl with
    | [c], _ => exact ⟨c, rfl, by simp [mkV, ha], hs⟩
    | [], hl => simp [hs] at hl
    | _ :: _ :: _, hl => simp [hs] at hl

theorem capD_spec (h : Inv w0 F0 s a w I ρ) (hJ : ∀ b, I b → J b) {pe : Option Ty} {v v' : AV} {u : Value} (hv : VR w I ρ s.H v u) (hs : capD Alg.std s.H pe v = some v') (hroot : pureV v = false → ∀ r o, hget s.H r = some o → ∀ b ∈ tfp ρ r o, J b) : AR w J v' u := by
  unfold capD at hs
  split at hs
  · split at hs
    · rename_i v1 l hv1
      split at hs
      · cases hs
      · rename_i hn
        cases hs
        refine argD_spec h hJ hv hv1 (fun hl => hroot ?_)
        cases hp : pureV v with
        | false => rfl
        | true => exact absurd ⟨hl, hp⟩ hn
    · cases hs
  split at hs
  · cases hs
    cases hv
    rename_i b off arr et fr hb hi hsz ho
    exact .dptr _ _ b off arr et fr hb (hJ b hi) hsz (Own.frame (fun _ _ => rfl) hJ ho (fun _ _ => rfl))
  · rename_i r off
    split at hs
    · rename_i cs hr
      obtain ⟨rfl, hrl⟩ := hv.bptr_inv
      have hlt : off < cs.length := by
        rcases Nat.lt_or_ge off cs.length with h | h
        · exact h
        · rw [List.getD_eq_getElem?_getD, List.getElem?_eq_none h] at hs
          simp at hs
      obtain ⟨arr, et, hb, hfit, hcell⟩ := h.roots r _ hr
      obtain ⟨u, hu, h1, h2⟩ := hcell off cs[off] (by simp [hlt])
      have hget : cs.getD off .junk = cs[off] := by simp [List.getD_eq_getElem?_getD, hlt]
      have hsg : seg arr ((ρ r).off + off) 1 = [u] := by
        have hh := (Array.getElem?_eq_some_iff.1 hu)
        obtain ⟨hh1, hh2⟩ := hh
        simp only [seg]
        rw [List.take_one, List.head?_drop]
        simp [hu]
      have hJb := hroot rfl r _ hr (ρ r).b (by simp [tfp])
      have fin : ∀ (t : Ty) (x : t.den), t.sz = 1 → Own w J t .sh [u] x [] → AR w J (.dptr t x) (.pointer (some ⟨(ρ r).b, (ρ r).off + off, none⟩)) := fun t x ht ho =>
        .dptr t x _ _ arr et (0, 0) hb hJb (by omega) (by rw [ht, hsg]; exact ho)
      rw [hget] at hs
      split at hs
      · rename_i t x hc
        cases hs
        rw [hc] at h2
        obtain ⟨cs', ho, rfl⟩ := h2.dat_inv
        obtain ⟨c, rfl, e2, e3⟩ := mkV_one_eq h1 ho.len
        rw [e2] at fin
        exact fin t x e3 (Own.frame (fun _ _ => rfl) hJ ho (fun _ _ => rfl))
      · rename_i b hc
        cases hs
        rw [hc] at h2
        have := lb_dat h2
        subst this
        exact fin .bool b rfl ⟨rfl, rfl⟩
      · rename_i e r' ver p lo n hc
        rw [hc] at h2
        split at hs
        · rename_i hrd
          cases hs
          exact fin (.sl e) _ rfl (h.refShare hJ h2 hrd (hroot rfl))
        · cases hs
      · cases hs
    · cases hs
  · cases hs

theorem capsD_spec (h : Inv w0 F0 s a w I ρ) (hJ : ∀ b, I b → J b) {pe : Option Ty} : ∀ {vs vs' : List AV} {us : List Value}, vs.length = us.length → (∀ (i : Nat) (v : AV) (u : Value), vs[i]? = some v → us[i]? = some u → VR w I ρ s.H v u) → capsD Alg.std s.H pe vs = some vs' →
    (vs.all pureV = false → ∀ r o, hget s.H r = some o → ∀ b ∈ tfp ρ r o, J b) → vs'.length = us.length ∧ ∀ (i : Nat) (v : AV) (u : Value), vs'[i]? = some v → us[i]? = some u → AR w J v u
  | [], vs', us, hl, hv, hs, hr => by simp [capsD] at hs; subst hs; exact ⟨hl, by simp⟩
  | v :: vs, vs', [], hl, hv, hs, hr => by simp at hl
  | v :: vs, vs', u :: us, hl, hv, hs, hr => by
    simp only [capsD] at hs
    split at hs
    · rename_i a1 as h1 h2
      cases hs
      have k1 := capD_spec h hJ (hv 0 v u rfl rfl) h1 (fun hp => hr (by simp [hp]))
      obtain ⟨k2, k3⟩ := capsD_spec h hJ (us := us) (by simpa using hl) (fun i v u hv' hu => hv (i + 1) v u (by simpa using hv') (by simpa using hu)) h2 (fun hp => hr (by simp [hp]))
      refine ⟨by simp [k2], fun i x y hx hy => ?_⟩
      cases i with
      | zero => simp at hx hy; subst hx; subst hy; exact k1
      | succ i => exact k3 i x y (by simpa using hx) (by simpa using hy)
    · cases hs

theorem argC_spec (h : Inv w0 F0 s a w I ρ) (hJ : ∀ b, I b → J b) {te pe : Option Ty} {v v' : AV} {lent : Bool} {u : Value} (hv : VR w I ρ s.H v u) (hs : argC Alg.std s.H te pe v = some (v', lent))
    (hroot : lent = true → ∀ r o, hget s.H r = some o → ∀ b ∈ tfp ρ r o, J b) : AR w J v' u := by
  unfold argC at hs
  split at hs
  · split at hs
    · rename_i k hk
      cases hs
      cases hv
      rename_i cs hl hc
      obtain ⟨k1, k2⟩ := capsD_spec h hJ hl hc hk (fun hp => hroot (by simp [hp]))
      exact .clo _ _ cs k1 k2
    · cases hs
  · exact argD_spec h hJ hv hs hroot

theorem argK_spec {kn : Bool} (h : Inv w0 F0 s a w I ρ) (hJ : ∀ b, I b → J b) {te pe : Option Ty} {v v' : AV} {lent : Bool} {u : Value} (hv : VR w I ρ s.H v u) (hs : argK Alg.std s.H kn te pe v = some (v', lent))
    (hroot : lent = true → ∀ r o, hget s.H r = some o → ∀ b ∈ tfp ρ r o, J b) : AR w J v' u := by
  unfold argK at hs
  split at hs
  · cases hs
    cases hv
    exact .nilS
  · exact argC_spec h hJ hv hs hroot

theorem argsD_spec {kn : Bool} (h : Inv w0 F0 s a w I ρ) (hJ : ∀ b, I b → J b) (τ : Env) : ∀ {os : List Operand} {ts : List TypeId} {al : List AV} {lent : Bool}, argsD Alg.std τ kn s os ts = some (al, lent) →
    (lent = true → ∀ r o, hget s.H r = some o → ∀ b ∈ tfp ρ r o, J b) → al.length = (os.map a.eval).length ∧ ∀ (i : Nat) (v : AV) (u : Value), al[i]? = some v → (os.map a.eval)[i]? = some u → AR w J v u
  | [], ts, al, lent, hs, hr => by simp [argsD] at hs; obtain ⟨rfl, _⟩ := hs; exact ⟨rfl, by simp⟩
  | o :: os, [], al, lent, hs, hr => by simp [argsD] at hs
  | o :: os, t :: ts, al, lent, hs, hr => by
    simp only [argsD] at hs
    split at hs
    · rename_i a1 b1 r1 c1 h1 h2
      cases hs
      have k1 := argK_spec h hJ (h.ev o) h1 (fun hp => hr (by simp [hp]))
      obtain ⟨k2, k3⟩ := argsD_spec h hJ τ h2 (fun hp => hr (by simp [hp]))
      refine ⟨by simpa using k2, fun i x y hx hy => ?_⟩
      cases i with
      | zero => simp at hx hy; subst hx; subst hy; exact k1
      | succ i => exact k3 i x y (by simpa using hx) (by simpa using hy)
    · cases hs

/-! ## Contracts -/
def retVal : List Value → Value
  | [v] => v
  | vs => .tuple vs.toArray

theorem flatO_iff {q : (t : Ty) × Md × t.den} : flatO q = true ↔ q.1.hasSl = false ∧ npOf q.2.1 = none := by
  unfold flatO
  cases npOf q.2.1 <;> simp
/-- One value that a function hands back: data, or a pointer to a new variable ('n': the first block that is new). -/
def OutOk (w : World) (I : Nat → Prop) (n : Nat) (t : Ty) (m : Md) (x : t.den) (u : Value) (fp : List Nat) : Prop :=
  match npOf m with
  | some m' => ∃ b off arr et fp', u = .pointer (some ⟨b, off, none⟩) ∧ n ≤ b ∧ w.heap[b]? = some (.cells arr et (0, 0)) ∧ off + t.sz ≤ arr.size ∧ Own w I t m' (seg arr off t.sz) x fp' ∧ fp = b :: fp'
  | none => ∃ cs, u = mkV t cs ∧ Own w I t m cs x fp
theorem OutOk.dat {w : World} {I : Nat → Prop} {n : Nat} {t : Ty} {m : Md} {x : t.den} {u : Value} {fp : List Nat} (hm : npOf m = none) : OutOk w I n t m x u fp ↔ ∃ cs, u = mkV t cs ∧ Own w I t m cs x fp := by unfold OutOk; rw [hm]
theorem OutOk.ptr {w : World} {I : Nat → Prop} {n : Nat} {t : Ty} {m m' : Md} {x : t.den} {u : Value} {fp : List Nat} (hm : npOf m = some m') :
    OutOk w I n t m x u fp ↔ ∃ b off arr et fp', u = .pointer (some ⟨b, off, none⟩) ∧ n ≤ b ∧ w.heap[b]? = some (.cells arr et (0, 0)) ∧ off + t.sz ≤ arr.size ∧ Own w I t m' (seg arr off t.sz) x fp' ∧ fp = b :: fp' := by unfold OutOk; rw [hm]
theorem OutOk.map {w : World} {I I' : Nat → Prop} {n : Nat} {t : Ty} {m : Md} {x : t.den} {u : Value} {fp : List Nat} (h : OutOk w I n t m x u fp)
    (ho : ∀ {m1 : Md} {cs : List Value} {fp1 : List Nat}, (m1 = m ∧ npOf m = none ∨ npOf m = some m1) → Own w I t m1 cs x fp1 → Own w I' t m1 cs x fp1) : OutOk w I' n t m x u fp := by
  cases hm : npOf m with
  | none =>
    obtain ⟨cs, e1, e2⟩ := (OutOk.dat hm).1 h
    exact (OutOk.dat hm).2 ⟨cs, e1, ho (.inl ⟨rfl, hm⟩) e2⟩
  | some m' =>
    obtain ⟨b, off, arr, et, fp', e1, e0, e2, e3, e4, rfl⟩ := (OutOk.ptr hm).1 h
    exact (OutOk.ptr hm).2 ⟨b, off, arr, et, fp', e1, e0, e2, e3, ho (.inr hm) e4, rfl⟩
/-- What a function hands back. -/
structure Outs (w : World) (I : Nat → Prop) (n : Nat) (outs : List ((t : Ty) × Md × t.den)) (us : List Value) (fps : List (List Nat)) : Prop where
  len : us.length = outs.length
  fl : fps.length = outs.length
  at_ : ∀ (i : Nat) (q : (t : Ty) × Md × t.den) (u : Value), outs[i]? = some q → us[i]? = some u → OutOk w I n q.1 q.2.1 q.2.2 u (fps.getD i [])

/-- An argument: one that may be written with the blocks that it owns; else data. -/
def ARg (w : World) (I : Nat → Prop) (v : AV) (u : Value) (fp : List Nat) : Prop :=
  match v with
  | .mv t m x => ∃ cs, u = mkV t cs ∧ Own w I t m cs x fp
  | .mp t m x => ∃ b off arr et fp', u = .pointer (some ⟨b, off, none⟩) ∧ w.heap[b]? = some (.cells arr et (0, 0)) ∧ off + t.sz ≤ arr.size ∧ Own w I t m (seg arr off t.sz) x fp' ∧ fp = b :: fp'
  | v => AR w I v u ∧ fp = []

/-- What has become of it. -/
def BackA (w w' : World) (I : Nat → Prop) (v : AV) (u : Value) (fp : List Nat) : Prop :=
  match v with
  | .mv t m x => ∃ cs, u = mkV t cs ∧ Own w' I t m cs x fp
  | .mp t m x => ∃ b off arr arr' et et' fp', u = .pointer (some ⟨b, off, none⟩) ∧ w.heap[b]? = some (.cells arr et (0, 0)) ∧ w'.heap[b]? = some (.cells arr' et' (0, 0)) ∧ Near arr arr' off t.sz ∧ off + t.sz ≤ arr.size ∧
      Own w' I t m (seg arr' off t.sz) x fp' ∧ fp = b :: fp'
  | _ => fp = []

structure Backs (w w' : World) (I : Nat → Prop) (backs : List AV) (us : List Value) (fps : List (List Nat)) : Prop where
  fl : fps.length = backs.length
  at_ : ∀ (i : Nat) (v : AV) (u : Value), backs[i]? = some v → us[i]? = some u → BackA w w' I v u (fps.getD i [])

/-- What a call comes to: of what was there only blocks of T turn; what comes back is new, of T, or shared. -/
def Back (w : World) (I : Nat → Prop) (us : List Value) (T : Nat → Prop) (r : Ret) : Ending → World → Prop := fun e w' =>
  ∃ vs I' fps fpb, e = .returned (retVal vs) ∧ Keeps T w w' ∧ Outs w' I' w.heap.size r.outs vs fps ∧ Backs w w' I' r.backs us fpb ∧ (fpb.flatten ++ fps.flatten).Nodup ∧ (∀ b ∈ fpb.flatten ++ fps.flatten, (w.heap.size ≤ b ∨ T b) ∧ ¬ I' b) ∧
    (∀ b, I b → I' b) ∧ (∀ b, I' b → b < w'.heap.size ∧ (I b ∨ w.heap.size ≤ b ∨ T b))

def CallN (P : Program) (f : FuncId) (args : Array Value) (w : World) (R : Ending → World → Prop) : Prop :=
  match (callFunc f args).run P w with
  | .ok (.enter f' args') w' => Calls P f' args' w' R
  | .ok (.value v) w' => R (.returned v) w'
  | _ => False

def Ct (P : Program) (f : FuncId) (al : List AV) (r : Ret) : Prop :=
  ∀ (w : World) (I : Nat → Prop) (us : List Value) (fps : List (List Nat)), (∀ p ∈ r.pre, p) → al.length = us.length → fps.length = al.length → (∀ (i : Nat) (v : AV) (u : Value), al[i]? = some v → us[i]? = some u → ARg w I v u (fps.getD i [])) →
    fps.flatten.Nodup → (∀ b ∈ fps.flatten, ¬ I b ∧ b < w.heap.size) → (∀ b, I b → b < w.heap.size) → CallN P f us.toArray w (Back w I us (fun b => b ∈ fps.flatten) r)

/-- What comes back is of 'S'. -/
def CtS (P : Program) (f : FuncId) (al : List AV) (S : Ret → Prop) : Prop :=
  ∀ (w : World) (I : Nat → Prop) (us : List Value) (fps : List (List Nat)), al.length = us.length → fps.length = al.length → (∀ (i : Nat) (v : AV) (u : Value), al[i]? = some v → us[i]? = some u → ARg w I v u (fps.getD i [])) →
    fps.flatten.Nodup → (∀ b ∈ fps.flatten, ¬ I b ∧ b < w.heap.size) → (∀ b, I b → b < w.heap.size) → CallN P f us.toArray w fun e w' => ∃ r, S r ∧ Back w I us (fun b => b ∈ fps.flatten) r e w'
/-- The contract of one thing, or of any. -/
def CtX (P : Program) (f : FuncId) (al : List AV) : RX → Prop
  | .one r => Ct P f al r
  | .any _ pre p r => (∀ q ∈ pre, q) → CtS P f al fun r' => ∃ y, (∀ h ∈ p y, h) ∧ r' = r y
def GOk (P : Program) (G : Gam) : Prop := ∀ f al x, G.g f al = some x → CtX P f al x
theorem CallN.mono {f : FuncId} {args : Array Value} {R R' : Ending → World → Prop} (h : ∀ e w, R e w → R' e w) (hc : CallN P f args w R) : CallN P f args w R' := by
  unfold CallN at hc ⊢
  split
  · rename_i e; rw [e] at hc; exact Calls.mono hc h
  · rename_i e; rw [e] at hc; exact h _ _ hc
  · rename_i h1 h2
    split at hc
    · rename_i e; exact (h1 _ _ _ e).elim
    · rename_i e; exact (h2 _ _ e).elim
    · exact hc
theorem Ct.to {f : FuncId} {al : List AV} {r : Ret} (h : Ct P f al r) (hp : ∀ p ∈ r.pre, p) : CtS P f al fun r' => r' = r := fun w I us fps h1 h2 h3 h4 h5 h6 => (h w I us fps hp h1 h2 h3 h4 h5 h6).mono fun _ _ hb => ⟨r, rfl, hb⟩

theorem AR.arg {v : AV} {u : Value} (h : AR w J v u) : ARg w J v u [] := by
  cases v <;> first | exact ⟨h, rfl⟩ | cases h

/-- A call's front: arguments that may be written, then data. -/
theorem CtS.call {f : FuncId} {vm al : List AV} {S : Ret → Prop} (hct : CtS P f (vm ++ al) S) {um us : List Value} {fpm : List (List Nat)} (hm : vm.length = um.length) (hfm : fpm.length = vm.length)
    (hvm : ∀ (i : Nat) (v : AV) (u : Value), vm[i]? = some v → um[i]? = some u → ARg w J v u (fpm.getD i [])) (hl : al.length = us.length) (hal : ∀ (i : Nat) (v : AV) (u : Value), al[i]? = some v → us[i]? = some u → AR w J v u)
    (hnd : fpm.flatten.Nodup) (hf : ∀ b ∈ fpm.flatten, ¬ J b ∧ b < w.heap.size) (hJ : ∀ b, J b → b < w.heap.size) : CallN P f (um ++ us).toArray w (fun e w' => ∃ r, S r ∧ Back w J (um ++ us) (fun b => b ∈ fpm.flatten) r e w') := by
  have hfl : (fpm ++ List.replicate al.length ([] : List Nat)).flatten = fpm.flatten := by simp [List.flatten_append]
  have := hct w J (um ++ us) (fpm ++ List.replicate al.length []) (by simp [hm, hl]) (by simp [hfm]) (fun i v u hv hu => by
    by_cases hi : i < vm.length
    · rw [List.getElem?_append_left hi] at hv
      rw [List.getElem?_append_left (by omega)] at hu
      have := hvm i v u hv hu
      rwa [show (fpm ++ List.replicate al.length ([] : List Nat)).getD i [] = fpm.getD i [] from by
        simp only [List.getD_eq_getElem?_getD]; rw [List.getElem?_append_left (by omega)]]
    · rw [List.getElem?_append_right (by omega)] at hv
      rw [List.getElem?_append_right (by omega), ← hm] at hu
      have := (hal _ v u hv hu).arg
      rwa [show (fpm ++ List.replicate al.length ([] : List Nat)).getD i [] = [] from by
        simp only [List.getD_eq_getElem?_getD]; rw [List.getElem?_append_right (by omega)]
        simp [List.getElem?_replicate]; split <;> rfl]) (by rw [hfl]; exact hnd) (by rw [hfl]; exact hf) hJ
  rwa [hfl] at this

end
end Go.Vee

set_option linter.unusedSimpArgs false
set_option linter.unusedVariables false
namespace Go.Vee
open Go

section
variable {P : Program} {w0 w : World} {F0 : Bnd} {s : St} {a : Act} {I J : Nat → Prop} {ρ : Nat → RC} {H : Heap} {o : Oper} {K : St → Prop} {Q : Exit → Act → World → Prop}

/-- The world comes on; some roots are gone, some rows are written. -/
theorem Inv.rows (h : Inv w0 F0 s a w I ρ) {w' : World} {T I2 : Nat → Prop} {H' : Heap} {ρ' : Nat → RC} (hk : Keeps T w w') (hIT : ∀ b, I b → ¬ T b) (hT0 : ∀ b, T b → b < w.heap.size → w0.heap.size ≤ b ∨ F0.wr b)
    (hII : ∀ b, I b → I2 b) (hI2 : ∀ b, I2 b → b < w'.heap.size ∧ (w0.heap.size ≤ b ∨ F0.rd b ∨ F0.wr b)) (hlen : H'.length = s.H.length)
    (hrc : ∀ r, (ρ' r).b = (ρ r).b ∧ (ρ' r).off = (ρ r).off ∧ (ρ' r).hdr = (ρ r).hdr)
    (hc : ∀ r o', hget H' r = some o' → (hget s.H r = some o' ∧ (ρ' r).fp = (ρ r).fp ∧ ∀ b ∈ tfp ρ r o', ¬ T b ∧ ¬ I2 b) ∨
      ∃ v e m xs v' xs', hget s.H r = some (.row v e m xs) ∧ o' = .row v' e m xs' ∧ (e.hasSl = true → v < v') ∧ v ≤ v' ∧ Own w' I2 (.sl e) (.ow m) [(ρ r).hdr] xs' (ρ' r).fp ∧ (ρ' r).fp.Nodup ∧ ∀ b ∈ (ρ' r).fp, ¬ I2 b ∧ (w0.heap.size ≤ b ∨ F0.wr b))
    (hd : ∀ r o r' o', r ≠ r' → hget H' r = some o → hget H' r' = some o' → ∀ b ∈ tfp ρ' r o, b ∉ tfp ρ' r' o') :
    Inv w0 F0 ⟨s.fr, H'⟩ a w' I2 ρ' ∧ Ext w w' I I2 ρ ρ' s.H H' := by
  have hIb : ∀ b, I b → w'.heap[b]? = w.heap[b]? := fun b hb => hk.block b (h.imm b hb) (hIT b hb)
  have hblk : ∀ r o, hget s.H r = some o → (∀ b ∈ tfp ρ r o, ¬ T b ∧ ¬ I2 b) → ∀ b ∈ tfp ρ r o, w'.heap[b]? = w.heap[b]? := fun r o hr hn b hb => hk.block b (h.sep r o hr b hb).2.1 (hn b hb).1
  have E : Ext w w' I I2 ρ ρ' s.H H' := ⟨hIb, hII, by omega, fun r _ => hrc r, fun r hr v' e m xs hg => by
    rcases hc r _ hg with ⟨g1, g2, g3⟩ | ⟨v, e1, m1, xs1, v1, xs1', g1, g2, g3, g4, g5, g6, g7⟩
    · exact ⟨v', m, xs, g1, RowStep.same hIb (h.roots r _ g1) (hblk r _ g1 g3)⟩
    · cases g2
      exact ⟨v, m, xs1, g1, RowStep.flat g5 (fun _ => g3) g4 (fun h => h)⟩⟩
  have htfp : ∀ r o, (ρ' r).fp = (ρ r).fp → tfp ρ' r o = tfp ρ r o := fun r o e => by cases o <;> simp [tfp, (hrc r).1, e]
  refine ⟨?_, E⟩
  exact { h with
    slots := fun i v hv => let ⟨u, h1, h2⟩ := h.slots i v hv; ⟨u, h1, h2.ext E⟩
    roots := fun r o hr => by
      rcases hc r _ hr with ⟨g1, g2, g3⟩ | ⟨v, e1, m1, xs1, v1, xs1', g1, rfl, g3, g4, g5, g6, g7⟩
      · exact (h.roots r o g1).ext E (hget_lt g1) g2 (hblk r o g1 g3)
      · simp only [RootOk, (hrc r).2.2]
        exact g5
    nodup := fun r o hr => by
      rcases hc r _ hr with ⟨g1, g2, g3⟩ | ⟨v, e1, m1, xs1, v1, xs1', g1, rfl, g3, g4, g5, g6, g7⟩
      · rw [htfp r o g2]; exact h.nodup r o g1
      · exact g6
    disj := hd
    imm := fun b hb => (hI2 b hb).1
    immF := fun b hb => (hI2 b hb).2
    sep := fun r o hr b hb => by
      rcases hc r _ hr with ⟨g1, g2, g3⟩ | ⟨v, e1, m1, xs1, v1, xs1', g1, rfl, g3, g4, g5, g6, g7⟩
      · rw [htfp r o g2] at hb
        exact ⟨(g3 b hb).2, Nat.lt_of_lt_of_le (h.sep r o g1 b hb).2.1 hk.size, (h.sep r o g1 b hb).2.2⟩
      · have hb' : b ∈ (ρ' r).fp := by simpa [tfp] using hb
        exact ⟨(g7 b hb').1, g5.lt b hb', (g7 b hb').2⟩
    os := hk.os.trans h.os
    tape := hk.tape.trans h.tape
    output := hk.output.trans h.output
    size := Nat.le_trans h.size hk.size
    frame := fun b hb hf => by
      by_cases ht : T b
      · exact ((hT0 b ht (Nat.lt_of_lt_of_le hb h.size)).elim (fun q => absurd q (by omega)) (fun q => absurd q hf))
      · exact (hk.block b (Nat.lt_of_lt_of_le hb h.size) ht).trans (h.frame b hb hf)
    keep := fun r cs hr arr0 et0 fr0 hb0 => by
      rcases hc r _ hr with ⟨g1, g2, g3⟩ | ⟨v, e1, m1, xs1, v1, xs1', g1, g2, _⟩
      · rw [(hrc r).1] at hb0 ⊢
        rw [(hrc r).2.1]
        obtain ⟨arr, et, h1, h2⟩ := h.keep r cs g1 arr0 et0 fr0 hb0
        exact ⟨arr, et, (hblk r _ g1 g3 _ (by simp [tfp])).trans h1, h2⟩
      · cases g2
    ghost := fun r cs hr => by
      rcases hc r _ hr with ⟨g1, g2, g3⟩ | ⟨v, e1, m1, xs1, v1, xs1', g1, g2, _⟩
      · rw [(hrc r).2.2]; exact h.ghost r cs g1
      · cases g2 }

/-- A variable that was lent is a root again. -/
theorem Inv.revive {fr : List AV} (h : Inv w0 F0 ⟨fr, H⟩ a w I ρ) {r : Nat} {cs : List AV} (hr : hget H r = none) (hl : r < H.length) {arr : Array Value} {et : TypeId} (hb : w.heap[(ρ r).b]? = some (.cells arr et (0, 0))) (hsz : (ρ r).off + cs.length ≤ arr.size)
    (hcell : ∀ (i : Nat) (v : AV), cs[i]? = some v → ∃ u, arr[(ρ r).off + i]? = some u ∧ u.oneCell' = true ∧ VR w I ρ H v u) (hfree : ¬ I (ρ r).b ∧ (w0.heap.size ≤ (ρ r).b ∨ F0.wr (ρ r).b) ∧ ∀ r' o, hget H r' = some o → (ρ r).b ∉ tfp ρ r' o)
    (hkeep : ∀ arr0 et0 fr0, w0.heap[(ρ r).b]? = some (.cells arr0 et0 fr0) → Near arr0 arr (ρ r).off cs.length) :
    Inv w0 F0 ⟨fr, H.set r (some (.box cs))⟩ a w I ρ ∧ Ext w w I I ρ ρ H (H.set r (some (.box cs))) := by
  have cases2 : ∀ r' o, hget (H.set r (some (.box cs))) r' = some o → (r' = r ∧ o = .box cs) ∨ (r' ≠ r ∧ hget H r' = some o) := fun r' o hr' => by
    rw [hget_set hl] at hr'
    split at hr'
    · rename_i e; cases hr'; exact .inl ⟨e, rfl⟩
    · rename_i e; exact .inr ⟨e, hr'⟩
  have E : Ext w w I I ρ ρ H (H.set r (some (.box cs))) := ⟨fun _ _ => rfl, fun _ h => h, by simp, fun _ _ => ⟨rfl, rfl, rfl⟩, fun r' _ v' e m xs hg => by
    rcases cases2 r' _ hg with ⟨_, e⟩ | ⟨_, hg⟩
    · cases e
    · exact ⟨v', m, xs, hg, RowStep.refl⟩⟩
  refine ⟨?_, E⟩
  exact { h with
    slots := fun i v hv => let ⟨u, h1, h2⟩ := h.slots i v hv; ⟨u, h1, h2.ext E⟩
    roots := fun r' o hr' => by
      rcases cases2 r' o hr' with ⟨rfl, rfl⟩ | ⟨hne, hr2⟩
      · exact ⟨arr, et, hb, hsz, fun i v hi => let ⟨u, h1, h2, h3⟩ := hcell i v hi; ⟨u, h1, h2, h3.ext E⟩⟩
      · exact (h.roots r' o hr2).ext E (hget_lt hr2) rfl fun _ _ => rfl
    nodup := fun r' o hr' => by
      rcases cases2 r' o hr' with ⟨rfl, rfl⟩ | ⟨hne, hr2⟩
      · simp [tfp]
      · exact h.nodup r' o hr2
    disj := fun r1 o1 r2 o2 hne hr1 hr2 b hb1 hb2 => by
      rcases cases2 r1 o1 hr1 with ⟨rfl, rfl⟩ | ⟨hne1, hr1'⟩
      · rcases cases2 r2 o2 hr2 with ⟨rfl, rfl⟩ | ⟨hne2, hr2'⟩
        · exact hne rfl
        · have : b = (ρ r1).b := by simpa [tfp] using hb1
          subst this
          exact hfree.2.2 r2 o2 hr2' hb2
      · rcases cases2 r2 o2 hr2 with ⟨rfl, rfl⟩ | ⟨hne2, hr2'⟩
        · have : b = (ρ r2).b := by simpa [tfp] using hb2
          subst this
          exact hfree.2.2 r1 o1 hr1' hb1
        · exact h.disj _ _ _ _ hne hr1' hr2' b hb1 hb2
    sep := fun r' o hr' b hb' => by
      rcases cases2 r' o hr' with ⟨rfl, rfl⟩ | ⟨hne, hr2⟩
      · have : b = (ρ r').b := by simpa [tfp] using hb'
        subst this
        exact ⟨hfree.1, (Array.getElem?_eq_some_iff.1 hb).1, hfree.2.1⟩
      · exact h.sep r' o hr2 b hb'
    keep := fun r' cs' hr' arr0 et0 fr0 hb0 => by
      rcases cases2 r' _ hr' with ⟨rfl, e⟩ | ⟨hne, hr2⟩
      · cases e
        exact ⟨arr, et, hb, hkeep arr0 et0 fr0 hb0⟩
      · exact h.keep r' cs' hr2 arr0 et0 fr0 hb0
    ghost := fun r' cs' hr' => by
      rcases cases2 r' _ hr' with ⟨rfl, e⟩ | ⟨hne, hr2⟩
      · cases e
      · exact h.ghost r' cs' hr2 }

/-- A value from its cells, if its type is known to be one of cells that fit. -/
theorem mkV_of_cells {t : Ty} {v : AV} {u : Value} {cs : List Value} (hv : VR w I ρ H v u) (hc : u.cells = cs.toArray) (hl : cs.length = t.sz) (ha : t.isAgg = isAggV v) (hok : (cellsOf v).all okc = true) : u = mkV t cs := by
  by_cases hA : isAggV v = true
  · have := agg_of_cells hv hA hc
    rw [this]
    simp [mkV, ha, hA]
  · have h1 : t.isAgg = false := by rw [ha]; simpa using hA
    have hs := isAgg_sz h1
    match cs, hl with
    | [c], _ =>
      simp only [mkV, h1, Bool.false_eq_true, if_false, List.headD_cons]
      cases hv with
      | dat t x cs' ho =>
        have ht : t.isAgg = false := by simpa [isAggV] using hA
        have hlen := ho.len
        rw [isAgg_sz ht] at hlen
        match cs', hlen with
        | [c'], _ =>
          have h1c := ho.one c' (by simp)
          rw [mkV_cells ho.len ho.one] at hc
          simp only [mkV, ht, Bool.false_eq_true, if_false, List.headD_cons]
          simpa using hc
        | [], hl => simp at hl
        | _ :: _ :: _, hl => simp at hl
      | lb b => simpa [Value.cells] using hc
      | ref e r ver p lo n A c hr hn hnc h => simpa [Value.cells] using hc
      | nilS => simpa [Value.cells] using hc
      | agg => simp [isAggV] at hA
      | _ => simp [cellsOf, okc] at hok
    | [], hl => simp [hs] at hl
    | _ :: _ :: _, hl => simp [hs] at hl

/-- What a call comes to, as the caller goes on with it. -/
theorem Back.split {us : List Value} {T R : Nat → Prop} {L : Bool} {r : Ret} {e : Ending} {w' : World} (h : Back w J us T r e w') (hJ : ∀ b, J b ↔ (I b ∨ (L = true ∧ R b))) (hI : ∀ b, I b → b < w.heap.size) (ho : L = true → ownRet r = true) :
    ∃ vs I2 fps fpb, e = .returned (retVal vs) ∧ Keeps T w w' ∧ Outs w' I2 w.heap.size r.outs vs fps ∧ Backs w w' I2 r.backs us fpb ∧ (fpb.flatten ++ fps.flatten).Nodup ∧ (∀ b ∈ fpb.flatten ++ fps.flatten, (w.heap.size ≤ b ∨ T b) ∧ ¬ I2 b) ∧
      (∀ b, I b → I2 b) ∧ (∀ b, I2 b → b < w'.heap.size ∧ (I b ∨ w.heap.size ≤ b ∨ T b)) := by
  obtain ⟨vs, I', fps, fpb, rfl, hk, hout, hbk, hnd, hfree, hII, hI'⟩ := h
  cases hL : L with
  | true =>
    have ho' := ho hL
    simp only [ownRet, Bool.and_eq_true, List.all_eq_true] at ho'
    refine ⟨vs, I, fps, fpb, rfl, hk, ⟨hout.len, hout.fl, fun i q u hq hu => ?_⟩, ⟨hbk.fl, fun i v u hv hu => ?_⟩, hnd, fun b hb => ⟨(hfree b hb).1, fun hh => (hfree b hb).2 (hII b ((hJ b).2 (.inl hh)))⟩, fun _ h => h, fun b hb => ⟨Nat.lt_of_lt_of_le (hI b hb) hk.size, .inl hb⟩⟩
    · have ho2 := ho'.1 q (List.mem_of_getElem? hq)
      refine (hout.at_ i q u hq hu).map fun {m1 cs fp1} hm e2 => Own.anyI ?_ e2
      unfold ownO at ho2
      rcases hm with ⟨rfl, hm⟩ | hm
      · rw [hm] at ho2; exact ho2
      · rw [hm] at ho2; exact ho2
    · have hb := hbk.at_ i v u hv hu
      have ho2 := ho'.2 v (List.mem_of_getElem? hv)
      cases v <;> first | exact hb | skip
      case mv t m x => obtain ⟨cs, e1, e2⟩ := hb; exact ⟨cs, e1, Own.anyI ho2 e2⟩
      case mp t m x =>
        obtain ⟨b, off, arr, arr', et, et', fp', e1, e2, e3, e4, e5, e6, e7⟩ := hb
        exact ⟨b, off, arr, arr', et, et', fp', e1, e2, e3, e4, e5, Own.anyI ho2 e6, e7⟩
  | false =>
    have hJI : ∀ b, J b ↔ I b := fun b => by rw [hJ b, hL]; simp
    exact ⟨vs, I', fps, fpb, rfl, hk, hout, hbk, hnd, hfree, fun b hb => hII b ((hJI b).2 hb), fun b hb => ⟨(hI' b hb).1, (hI' b hb).2.imp (hJI b).1 id⟩⟩

end
end Go.Vee

set_option linter.unusedSimpArgs false
set_option linter.unusedVariables false
namespace Go.Vee
open Go

/-- Rows put back under their headers. -/
structure PutR (w' : World) (I2 : Nat → Prop) (ρ ρ' : Nat → RC) (K H H' : Heap) (fp' : List Nat) : Prop where
  len : H'.length = H.length
  rc : ∀ r, (ρ' r).b = (ρ r).b ∧ (ρ' r).off = (ρ r).off ∧ (ρ' r).hdr = (ρ r).hdr
  old : ∀ r o, hget H r = some o → hget H' r = some o ∧ (ρ' r).fp = (ρ r).fp
  new : ∀ r o', hget H r = none → hget H' r = some o' → ∃ v e m xs v' xs', hget K r = some (.row v e m xs) ∧ o' = .row v' e m xs' ∧ (e.hasSl = true → v < v') ∧ v ≤ v' ∧ Own w' I2 (.sl e) (.ow m) [(ρ r).hdr] xs' (ρ' r).fp ∧ (ρ' r).fp.Nodup ∧ ∀ b ∈ (ρ' r).fp, b ∈ fp'
  dj : ∀ r o r' o', r ≠ r' → hget H r = none → hget H r' = none → hget H' r = some o → hget H' r' = some o' → ∀ b ∈ (ρ' r).fp, b ∉ (ρ' r').fp

section
variable {P : Program} {w0 w w' : World} {F0 : Bnd} {s : St} {a : Act} {I I2 J : Nat → Prop} {ρ : Nat → RC} {K : Heap}

theorem PutR.refl {H : Heap} {ρ1 : Nat → RC} : PutR w' I2 ρ1 ρ1 K H H [] :=
  ⟨rfl, fun _ => ⟨rfl, rfl, rfl⟩, fun _ _ h => ⟨h, rfl⟩, fun r o' h h' => (by rw [h] at h'; cases h'), fun r o r' o' _ h _ h' _ => (by rw [h] at h'; cases h')⟩

theorem PutR.trans {ρ1 ρ2 ρ3 : Nat → RC} {H1 H2 H3 : Heap} {f1 f2 : List Nat} (h : PutR w' I2 ρ1 ρ2 K H1 H2 f1) (k : PutR w' I2 ρ2 ρ3 K H2 H3 f2) (hd : ∀ b ∈ f1, b ∉ f2) : PutR w' I2 ρ1 ρ3 K H1 H3 (f1 ++ f2) := by
  have hnew : ∀ r o', hget H1 r = none → hget H3 r = some o' → (∃ v e m xs v' xs', hget K r = some (.row v e m xs) ∧ o' = .row v' e m xs' ∧ (e.hasSl = true → v < v') ∧ v ≤ v' ∧ Own w' I2 (.sl e) (.ow m) [(ρ1 r).hdr] xs' (ρ3 r).fp ∧ (ρ3 r).fp.Nodup) ∧
      ((hget H2 r = some o' ∧ (ρ3 r).fp = (ρ2 r).fp ∧ ∀ b ∈ (ρ3 r).fp, b ∈ f1) ∨ (hget H2 r = none ∧ ∀ b ∈ (ρ3 r).fp, b ∈ f2)) := by
    intro r o' h1 h3
    cases h2 : hget H2 r with
    | some o2 =>
      obtain ⟨g1, g2⟩ := k.old r o2 h2
      rw [h3] at g1
      cases g1
      obtain ⟨v, e, m, xs, v', xs', a1, a2, a3, a4, a5, a6, a7⟩ := h.new r o' h1 h2
      rw [g2]
      exact ⟨⟨v, e, m, xs, v', xs', a1, a2, a3, a4, a5, a6⟩, .inl ⟨rfl, rfl, a7⟩⟩
    | none =>
      obtain ⟨v, e, m, xs, v', xs', a1, a2, a3, a4, a5, a6, a7⟩ := k.new r o' h2 h3
      rw [(h.rc r).2.2] at a5
      exact ⟨⟨v, e, m, xs, v', xs', a1, a2, a3, a4, a5, a6⟩, .inr ⟨rfl, a7⟩⟩
  refine ⟨k.len.trans h.len, fun r => ⟨(k.rc r).1.trans (h.rc r).1, (k.rc r).2.1.trans (h.rc r).2.1, (k.rc r).2.2.trans (h.rc r).2.2⟩, fun r o hr => ?_, fun r o' h1 h3 => ?_, fun r o r' o' hne h1 h1' h3 h3' b hb hb' => ?_⟩
  · obtain ⟨g1, g2⟩ := h.old r o hr
    obtain ⟨g3, g4⟩ := k.old r o g1
    exact ⟨g3, g4.trans g2⟩
  · obtain ⟨⟨v, e, m, xs, v', xs', a1, a2, a3, a4, a5, a6⟩, a7⟩ := hnew r o' h1 h3
    refine ⟨v, e, m, xs, v', xs', a1, a2, a3, a4, a5, a6, fun b hb => ?_⟩
    rcases a7 with ⟨_, _, q⟩ | ⟨_, q⟩
    · exact List.mem_append_left _ (q b hb)
    · exact List.mem_append_right _ (q b hb)
  · rcases (hnew r o h1 h3).2 with ⟨q1, q2, q3⟩ | ⟨q1, q3⟩ <;> rcases (hnew r' o' h1' h3').2 with ⟨p1, p2, p3⟩ | ⟨p1, p3⟩
    · rw [q2] at hb; rw [p2] at hb'
      exact h.dj r o r' o' hne h1 h1' q1 p1 b hb hb'
    · exact hd b (q3 b hb) (p3 b hb')
    · exact hd b (p3 b hb') (q3 b hb)
    · exact k.dj r o r' o' hne q1 p1 h3 h3' b hb hb'

theorem putM_spec (R : Roots w I ρ K) : ∀ {t : Ty} {m : Md} {x : t.den} {l l' : List AV} {H H' : Heap} {u1 u2 : List Value} {fp' : List Nat} {ps : List Prop} {ρ1 : Nat → RC}, (∀ r, (ρ1 r).hdr = (ρ r).hdr) →
    VRs w I ρ K l (u1 ++ u2) → Own w' I2 t m u1 x fp' → fp'.Nodup → putM Alg.std K t m x l H = some (l', H', ps) → (∀ p ∈ ps, p) → ∃ ρ', VRs w I ρ K l' u2 ∧ PutR w' I2 ρ1 ρ' K H H' fp'
  | .unit, m, x, l, l', H, H', u1, u2, fp', ps, ρ1, hρ, hv, ho, hn, hp, hq => by
    simp [putM] at hp
    obtain ⟨rfl, rfl, _⟩ := hp
    obtain ⟨rfl, rfl⟩ := ho
    exact ⟨ρ1, hv, PutR.refl⟩
  | .pair t1 t2, m, x, l, l', H, H', u1, u2, fp', ps, ρ1, hρ, hv, ho, hn, hp, hq => by
    simp only [putM] at hp
    obtain ⟨c1, c2, f1, f2, rfl, rfl, h1, h2⟩ := ho
    rw [List.nodup_append] at hn
    obtain ⟨n1, n2, n12⟩ := hn
    split at hp
    · rename_i l1 H1 p1 e1
      split at hp
      · rename_i l2 H2 p2 e2
        cases hp
        rw [List.append_assoc] at hv
        obtain ⟨ρ2, v2, P1⟩ := putM_spec R hρ hv h1 n1 e1 (fun p hp => hq p (by simp [hp]))
        obtain ⟨ρ3, v3, P2⟩ := putM_spec R (fun r => ((P1.rc r).2.2).trans (hρ r)) v2 h2 n2 e2 (fun p hp => hq p (by simp [hp]))
        exact ⟨ρ3, v3, P1.trans P2 fun b hb hb' => n12 b hb b hb' rfl⟩
      · cases hp
    · cases hp
  | .sl e, m, x, [], l', H, H', u1, u2, fp', ps, ρ1, hρ, hv, ho, hn, hp, hq => by simp [putM] at hp
  | .sl e, m, x, v :: l, l', H, H', u1, u2, fp', ps, ρ1, hρ, hv, ho, hn, hp, hq => by
    have hl1 : u1.length = 1 := ho.len
    match u1, hl1 with
    | [u], _ =>
    have hvu := hv.at_ 0 v u rfl rfl
    have htl : VRs w I ρ K l u2 := hv.drop 1
    simp only [putM] at hp
    split at hp
    · rename_i e0 r ver n
      split at hp
      · rename_i v0 e' m0 xs hK hH
        split at hp
        · rename_i he
          subst he
          split at hp
          · rename_i m'
            split at hp
            · rename_i hm
              subst hm
              cases hp
              have hn' : n = List.length xs := hq (Alg.std.EqN n (Alg.std.lenL xs)) (List.mem_singleton.2 rfl)
              cases hvu
              rename_i A c hrl hn1 hnc hc _
              obtain ⟨_, hw⟩ := hc _ _ _ _ hK
              obtain ⟨B, c0, len, l'', hw, q1, q2, q3⟩ := hw (.inl rfl)
              have hown : Own w I (.sl e') (.ow m') [(ρ r).hdr] xs (ρ r).fp := R.ok r _ hK
              have hhdr : (ρ r).hdr = .slice B len c0 := by simp [walk] at hw; exact hw.2.1
              have hlx : len = List.length xs := by
                rw [hhdr] at hown
                rcases hown.2 with ⟨he, hx, _⟩ | ⟨b, c, arr, et, fps, he, _⟩
                · simp at he; simp [he, hx]
                · simp at he; exact he.2.1
              obtain ⟨rfl, rfl⟩ := q3 ⟨rfl, by omega⟩
              have hu : (ρ r).hdr = .slice A n c := by rw [hhdr]; congr 1; omega
              have hrH : r < H.length ∨ H.set r (some (.row (if e'.hasSl then v0 + 1 else v0) e' m' x)) = H := by
                rcases Nat.lt_or_ge r H.length with h | h
                · exact .inl h
                · exact .inr (List.set_eq_of_length_le h)
              rcases hrH with hrH | hrH
              · refine ⟨upd ρ1 r ⟨(ρ1 r).b, (ρ1 r).off, (ρ1 r).hdr, fp'⟩, htl, by simp, fun k => ?_, fun k o hk => ?_, fun k o' hk hk' => ?_, fun k o k' o' hne hk hk' hs hs' => ?_⟩
                · by_cases h : k = r
                  · subst h; simp [upd]
                  · simp [upd, h]
                · have hne : k ≠ r := by rintro rfl; rw [hH] at hk; cases hk
                  rw [hget_set hrH, if_neg hne]
                  exact ⟨hk, by simp [upd, hne]⟩
                · rw [hget_set hrH] at hk'
                  split at hk'
                  · rename_i hkr
                    subst hkr
                    cases hk'
                    refine ⟨v0, e', m', xs, _, x, hK, rfl, fun hh => by simp [hh], by split <;> omega, ?_, by simpa [upd] using hn, by simp [upd]⟩
                    rw [hρ, hu]
                    simpa [upd] using ho
                  · rw [hk] at hk'; cases hk'
                · rw [hget_set hrH] at hs hs'
                  split at hs
                  · rename_i hkr
                    split at hs'
                    · rename_i hkr'; exact absurd (hkr.trans hkr'.symm) hne
                    · rw [hk'] at hs'; cases hs'
                  · rw [hk] at hs; cases hs
              · rw [hrH]
                refine ⟨ρ1, htl, ⟨rfl, fun _ => ⟨rfl, rfl, rfl⟩, fun _ _ h => ⟨h, rfl⟩, fun r o' h h' => (by rw [h] at h'; cases h'), fun r o r' o' _ h _ h' _ => (by rw [h] at h'; cases h')⟩⟩
            · cases hp
          · cases hp
        · cases hp
      · cases hp
    · cases hp
      have e1 := PutR.refl (w' := w') (I2 := I2) (K := K) (H := H) (ρ1 := ρ1)
      exact ⟨ρ1, htl, ⟨e1.len, e1.rc, e1.old, fun r o' h h' => (by rw [h] at h'; cases h'), e1.dj⟩⟩
    · cases hp
      have e1 := PutR.refl (w' := w') (I2 := I2) (K := K) (H := H) (ρ1 := ρ1)
      exact ⟨ρ1, htl, ⟨e1.len, e1.rc, e1.old, fun r o' h h' => (by rw [h] at h'; cases h'), e1.dj⟩⟩
    · cases hp
  | .int _, m, x, l, l', H, H', u1, u2, fp', ps, ρ1, hρ, hv, ho, hn, hp, hq => by
    obtain ⟨rfl, _, rfl⟩ := ho
    match l, hv with
    | [], hv => simp [putM] at hp
    | v :: l, hv =>
      simp [putM] at hp
      obtain ⟨rfl, rfl, _⟩ := hp
      exact ⟨ρ1, hv.drop 1, PutR.refl⟩
  | .bool, m, x, l, l', H, H', u1, u2, fp', ps, ρ1, hρ, hv, ho, hn, hp, hq => by
    obtain ⟨rfl, rfl⟩ := ho
    match l, hv with
    | [], hv => simp [putM] at hp
    | v :: l, hv =>
      simp [putM] at hp
      obtain ⟨rfl, rfl, _⟩ := hp
      exact ⟨ρ1, hv.drop 1, PutR.refl⟩
  | .str, m, x, l, l', H, H', u1, u2, fp', ps, ρ1, hρ, hv, ho, hn, hp, hq => by
    obtain ⟨⟨b, rfl, _⟩, rfl⟩ := ho
    match l, hv with
    | [], hv => simp [putM] at hp
    | v :: l, hv =>
      simp [putM] at hp
      obtain ⟨rfl, rfl, _⟩ := hp
      exact ⟨ρ1, hv.drop 1, PutR.refl⟩

end
end Go.Vee

set_option linter.unusedSimpArgs false
set_option linter.unusedVariables false
namespace Go.Vee
open Go

section
variable {P : Program} {w0 w : World} {F0 : Bnd} {s : St} {a : Act} {I J : Nat → Prop} {ρ : Nat → RC} {H : Heap} {o : Oper} {K : St → Prop} {Q : Exit → Act → World → Prop}

theorem layVs_spec {n : Nat} (hn0 : w0.heap.size ≤ n) : ∀ {outs : List ((t : Ty) × Md × t.den)} {us : List Value} {fps : List (List Nat)} {H H' : Heap} {vs : List AV} {ρ : Nat → RC} {fr : List AV}, Inv w0 F0 ⟨fr, H⟩ a w I ρ → Outs w I n outs us fps → fps.flatten.Nodup → Free w0 F0 I ρ H fps.flatten →
    layVs Alg.std outs H = some (vs, H') → ∃ ρ', Inv w0 F0 ⟨fr, H'⟩ a w I ρ' ∧ Ext w w I I ρ ρ' H H' ∧ vs.length = us.length ∧ ∀ (i : Nat) (v : AV) (u : Value), vs[i]? = some v → us[i]? = some u → VR w I ρ' H' v u
  | [], us, fps, H, H', vs, ρ, fr, h, ho, hn, hf, hl => by
    simp [layVs] at hl
    obtain ⟨rfl, rfl⟩ := hl
    have := ho.len
    exact ⟨ρ, h, Ext.refl, by simpa using this.symm, by simp⟩
  | ⟨t, m, x⟩ :: outs, us, fps, H, H', vs, ρ, fr, h, ho, hn, hf, hl => by
    match us, fps, ho.len, ho.fl with
    | u :: us, fp :: fps, e1, e2 =>
    rw [List.flatten_cons] at hn hf
    rw [List.nodup_append] at hn
    obtain ⟨n1, n2, n12⟩ := hn
    simp only [layVs, layV] at hl
    have ho0 := ho.at_ 0 ⟨t, m, x⟩ u rfl rfl
    simp only [List.getD_cons_zero] at ho0
    have ho2 : Outs w I n outs us fps := ⟨by simpa using e1, by simpa using e2, fun i q u hq hu => by simpa using ho.at_ (i + 1) q u (by simpa using hq) (by simpa using hu)⟩
    have fin : ∀ {l : AV} {H1 H2 : Heap} {vs' : List AV} {ρ1 : Nat → RC}, Inv w0 F0 ⟨fr, H1⟩ a w I ρ1 → Ext w w I I ρ ρ1 H H1 → VR w I ρ1 H1 l u → (∀ r o, hget H1 r = some o → (hget H r = some o ∧ tfp ρ1 r o = tfp ρ r o) ∨ ∀ b ∈ tfp ρ1 r o, b ∈ fp) →
        layVs Alg.std outs H1 = some (vs', H2) → ∃ ρ', Inv w0 F0 ⟨fr, H2⟩ a w I ρ' ∧ Ext w w I I ρ ρ' H H2 ∧ (l :: vs').length = (u :: us).length ∧ ∀ (i : Nat) (v : AV) (u' : Value), (l :: vs')[i]? = some v → (u :: us)[i]? = some u' → VR w I ρ' H2 v u' := by
      intro l H1 H2 vs' ρ1 k1 E1 v1 q1 hv
      obtain ⟨ρ2, k2, E2, v2, v3⟩ := layVs_spec hn0 k1 ho2 n2 (fun b hb => by
        obtain ⟨g1, g2, g3⟩ := hf b (List.mem_append_right _ hb)
        refine ⟨g1, g2, fun r o hr hb' => ?_⟩
        rcases q1 r o hr with ⟨hr', e⟩ | hin
        · exact g3 r o hr' (e ▸ hb')
        · exact n12 b (hin b hb') b hb rfl) hv
      refine ⟨ρ2, k2, E1.trans E2, by simp [v2], fun i v u' hv hu' => ?_⟩
      cases i with
      | zero =>
        simp at hv hu'
        subst hv
        subst hu'
        exact v1.ext E2
      | succ i => exact v3 i v u' (by simpa using hv) (by simpa using hu')
    cases hm : npOf m with
    | some m' =>
      rw [hm] at hl
      simp only at hl
      obtain ⟨b0, off, arr, et, fp', hu, hnb, hb, hsz, ho1, rfl⟩ := (OutOk.ptr hm).1 ho0
      rw [List.nodup_cons] at n1
      cases hc : layC Alg.std t m' x H with
      | none => rw [hc] at hl; simp at hl
      | some lH =>
        obtain ⟨l, H1⟩ := lH
        rw [hc] at hl
        simp only at hl
        cases hv : layVs Alg.std outs (H1 ++ [some (.box l)]) with
        | none => rw [hv] at hl; simp at hl
        | some vH =>
          obtain ⟨vs', H2⟩ := vH
          rw [hv] at hl
          simp only [Option.some.injEq, Prod.mk.injEq] at hl
          obtain ⟨rfl, rfl⟩ := hl
          obtain ⟨ρ1, k1, E1, v1, q1⟩ := layC_spec h ho1 n1.2 (fun b hb => hf b (List.mem_append_left _ (List.mem_cons_of_mem _ hb))) hc
          have hll : l.length = t.sz := by rw [v1.len, seg_length hsz]
          obtain ⟨z1, z2, z3⟩ := hf b0 (List.mem_append_left _ (by simp))
          have E0 : Ext w w I I ρ1 (upd ρ1 H1.length ⟨b0, off, .nilIface, []⟩) H1 (H1 ++ [some (.box l)]) := Ext.add _ _
          have hnot : ∀ r o, hget H1 r = some o → b0 ∉ tfp ρ1 r o := fun r o hr hb' => by
            rcases q1 r o hr with ⟨hr', e⟩ | hin
            · exact z3 r o hr' (e ▸ hb')
            · exact n1.1 (hin b0 hb')
          have hadd := k1.add (.box l) ⟨b0, off, .nilIface, []⟩ (by
            refine ⟨arr, et, by simpa [upd] using hb, by simpa [upd, hll] using hsz, fun i v hi => ?_⟩
            have hi' : i < t.sz := by have := (List.getElem?_eq_some_iff.1 hi).1; omega
            have e := seg_get (arr := arr) (i := off) hi'
            have hsl : (seg arr off t.sz).length = t.sz := seg_length hsz
            rw [List.getElem?_eq_getElem (by omega)] at e
            exact ⟨_, by simpa [upd] using e.symm, v1.one _ (List.getElem_mem _), (v1.at_ i v _ hi (by simp)).ext E0⟩) (by simp [tfp]) (fun b hb' => by
            have : b = b0 := by simpa [tfp, upd] using hb'
            subst this
            exact ⟨z1, (Array.getElem?_eq_some_iff.1 hb).1, z2, hnot⟩) (fun cs _ arr0 et0 fr0 hb0 => by
            have hwr : w0.heap[b0]? = some (.cells arr0 et0 fr0) := hb0
            exact absurd (Array.getElem?_eq_some_iff.1 hwr).1 (by omega)) (fun _ hh => by cases hh)
          have hbx : VR w I (upd ρ1 H1.length ⟨b0, off, .nilIface, []⟩) (H1 ++ [some (.box l)]) (.bptr H1.length 0) u := by
            rw [hu]
            have := VR.bptr (w := w) (I := I) (ρ := upd ρ1 H1.length ⟨b0, off, .nilIface, []⟩) (H := H1 ++ [some (.box l)]) H1.length 0 (by simp)
            simpa [upd] using this
          refine fin hadd (E1.trans E0) hbx (fun r o hr => ?_) hv
          rw [hget_app] at hr
          split at hr
          · rename_i he
            cases hr
            subst he
            right
            intro b hb'
            have : b = b0 := by simpa [tfp, upd] using hb'
            simp [this]
          · rename_i he
            have e2 : tfp (upd ρ1 H1.length ⟨b0, off, .nilIface, []⟩) r o = tfp ρ1 r o := by cases o <;> simp [tfp, upd, he]
            rw [e2]
            rcases q1 r o hr with ⟨hr', e⟩ | hin
            · exact .inl ⟨hr', e⟩
            · exact .inr fun b hb => List.mem_cons_of_mem _ (hin b hb)
    | none =>
      rw [hm] at hl
      simp only at hl
      obtain ⟨cs, hu, ho1⟩ := (OutOk.dat hm).1 ho0
      cases hc : layC Alg.std t m x H with
      | none => rw [hc] at hl; simp at hl
      | some lH =>
        obtain ⟨l, H1⟩ := lH
        rw [hc] at hl
        simp only at hl
        cases hv : layVs Alg.std outs H1 with
        | none => rw [hv] at hl; simp at hl
        | some vH =>
          obtain ⟨vs', H2⟩ := vH
          rw [hv] at hl
          simp only [Option.some.injEq, Prod.mk.injEq] at hl
          obtain ⟨rfl, rfl⟩ := hl
          obtain ⟨ρ1, k1, E1, v1, q1⟩ := layC_spec h ho1 n1 (fun b hb => hf b (List.mem_append_left _ hb)) hc
          refine fin k1 E1 ?_ q1 hv
          rw [hu]
          exact v1.ofCells ho1.len

theorem retV_spec {vs : List AV} {us : List Value} (hl : vs.length = us.length) (h : ∀ (i : Nat) (v : AV) (u : Value), vs[i]? = some v → us[i]? = some u → VR w I ρ H v u) : VR w I ρ H (retV vs) (retVal us) := by
  match vs, us, hl with
  | [], [], _ => exact .tup [] [] rfl (by simp)
  | [v], [u], _ => exact h 0 v u rfl rfl
  | v :: v2 :: vs, u :: u2 :: us, hl => exact .tup _ _ hl h

theorem exec_call {f : Operand} {args : Array Operand} {ts : Array TypeId} (ho : o.op = .call { callee := .value f, args := args, argTypes := ts }) {fid : FuncId} {cs : List Value} (hf : a.eval f = .func (.func fid) #[] cs.toArray) :
    (execOp a.eval o).run P w = (callFunc fid ((args.toList.map a.eval) ++ cs).toArray).run P w := by
  have e : (args.map a.eval ++ cs.toArray) = ((args.toList.map a.eval) ++ cs).toArray := by apply Array.ext'; simp
  unfold execOp
  rw [ho]
  simp only [resolve, hf, Deferred.ofValue, Sem.run_bind, Sem.run_pure, Result.andThen_ok, invoke, Array.empty_append]
  rw [e]

/-- A call's end, from what it comes to. -/
theorem wp_call {f : Operand} {args : Array Operand} {ts : Array TypeId} (ho : o.op = .call { callee := .value f, args := args, argTypes := ts }) {fid : FuncId} {cs : List Value} (hf : a.eval f = .func (.func fid) #[] cs.toArray) {us : List Value} (hus : (args.toList.map a.eval) ++ cs = us) {R : Ending → World → Prop}
    (hcall : CallN P fid us.toArray w R) (back : ∀ e w', R e w' → ∃ v, e = .returned v ∧ Post w0 F0 K (a.put o.dst v) w') : o.wp P a w (Post w0 F0 K) Q := by
  subst hus
  unfold CallN at hcall
  unfold Oper.wp
  rw [exec_call ho hf]
  split at hcall
  · rename_i f' args' w1 hrun
    rw [hrun]
    refine Calls.mono hcall fun e w' hb => ?_
    obtain ⟨v, rfl, hp⟩ := back e w' hb
    exact hp
  · rename_i v w1 hrun
    rw [hrun]
    obtain ⟨v', he, hp⟩ := back _ w1 hcall
    cases he
    exact hp
  · exact hcall.elim

theorem end_pre {d : Option Nat} {outs : List ((t : Ty) × Md × t.den)} {ps : List Prop} (hs : sat (endCall Alg.std s d outs ps H) (fun _ s' => K s')) : ∀ p ∈ ps, p := by
  unfold endCall at hs
  split at hs
  · exact (sat_needs.1 hs).1
  · exact hs.elim

theorem end_ok {w' : World} {I2 : Nat → Prop} {ρ2 : Nat → RC} {H2 : Heap} {d : Option Nat} {outs : List ((t : Ty) × Md × t.den)} {vs : List Value} {fps : List (List Nat)} {ps : List Prop} (h2 : Inv w0 F0 ⟨s.fr, H2⟩ a w' I2 ρ2) {n : Nat} (hn0 : w0.heap.size ≤ n) (hout : Outs w' I2 n outs vs fps) (hnd : fps.flatten.Nodup)
    (hfree : Free w0 F0 I2 ρ2 H2 fps.flatten) (hs : sat (endCall Alg.std s d outs ps H2) (fun _ s' => K s')) : Post w0 F0 K (a.put d (retVal vs)) w' := by
  unfold endCall at hs
  split at hs
  · rename_i avs H' hlay
    obtain ⟨ρ', h', E, hl, hv⟩ := layVs_spec hn0 h2 hout hnd hfree hlay
    exact ⟨_, I2, ρ', h'.put (retV_spec hl hv) d, (sat_needs.1 hs).2⟩
  · exact hs.elim

/-- Arguments that are data, and what a function value caught. -/
theorem front {H1 : Heap} (h1 : Inv w0 F0 ⟨s.fr, H1⟩ a w I ρ) (τ : Env) {os : List Operand} {ts : List TypeId} {al cs caps : List AV} {lent : Bool} {cvs : List Value} {kn : Bool} (hargs : argsD Alg.std τ kn ⟨s.fr, H1⟩ os ts = some (al, lent)) (hcaps : capsD Alg.std H1 none caps = some cs)
    (hcl : caps.length = cvs.length) (hcc : ∀ (i : Nat) (v : AV) (u : Value), caps[i]? = some v → cvs[i]? = some u → VR w I ρ H1 v u) {L : Bool} (hL : (lent || !caps.all pureV) = L) :
    (al ++ cs).length = ((os.map a.eval) ++ cvs).length ∧ ∀ (i : Nat) (v : AV) (u : Value), (al ++ cs)[i]? = some v → ((os.map a.eval) ++ cvs)[i]? = some u → AR w (fun b => I b ∨ (L = true ∧ ∃ r o, hget H1 r = some o ∧ b ∈ tfp ρ r o)) v u := by
  have hJ : ∀ b, I b → (I b ∨ (L = true ∧ ∃ r o, hget H1 r = some o ∧ b ∈ tfp ρ r o)) := fun b hb => .inl hb
  have hroot : L = true → ∀ r o, hget H1 r = some o → ∀ b ∈ tfp ρ r o, (I b ∨ (L = true ∧ ∃ r o, hget H1 r = some o ∧ b ∈ tfp ρ r o)) := fun hl r o hr b hb => .inr ⟨hl, r, o, hr, hb⟩
  obtain ⟨k1, k2⟩ := argsD_spec h1 hJ τ hargs (fun hp => hroot (by rw [← hL]; simp [hp]))
  obtain ⟨k3, k4⟩ := capsD_spec h1 hJ hcl hcc hcaps (fun hp => hroot (by rw [← hL]; simp [hp]))
  refine ⟨by simp only [List.length_append, k1, k3], fun i v u hv hu => ?_⟩
  by_cases hi : i < al.length
  · rw [List.getElem?_append_left hi] at hv
    rw [List.getElem?_append_left (by rw [← k1]; exact hi)] at hu
    exact k2 i v u hv hu
  · rw [List.getElem?_append_right (by omega)] at hv
    rw [List.getElem?_append_right (by rw [← k1]; omega), ← k1] at hu
    exact k4 _ v u hv hu

theorem Inv.lentLt {H1 : Heap} (h1 : Inv w0 F0 ⟨s.fr, H1⟩ a w I ρ) {L : Bool} : ∀ b, (I b ∨ (L = true ∧ ∃ r o, hget H1 r = some o ∧ b ∈ tfp ρ r o)) → b < w.heap.size := fun b hb => by
  rcases hb with hb | ⟨_, r, o, hr, hb⟩
  · exact h1.imm b hb
  · exact (h1.sep r o hr b hb).2.1

theorem VR.clo_inv {fid : Nat} {caps : List AV} {u : Value} (h : VR w I ρ H (.clo fid caps) u) : ∃ cvs : List Value, u = .func (.func fid) #[] cvs.toArray ∧ caps.length = cvs.length ∧ ∀ (i : Nat) (v : AV) (u : Value), caps[i]? = some v → cvs[i]? = some u → VR w I ρ H v u := by
  cases h
  rename_i cs hl hc
  exact ⟨cs, rfl, hl, hc⟩

/-- Roots taken out of a heap: what stays is what was. -/
theorem VR.sub {H' : Heap} (hs : ∀ r o, hget H' r = some o → hget H r = some o) (hl : H.length ≤ H'.length) {v : AV} {u : Value} (h : VR w I ρ H v u) : VR w I ρ H' v u :=
  h.ext ⟨fun _ _ => rfl, fun _ h => h, hl, fun _ _ => ⟨rfl, rfl, rfl⟩, fun r _ v' e m xs hg => ⟨v', m, xs, hs _ _ hg, RowStep.refl⟩⟩

/-- No argument is written. -/
theorem ok_callD {f : Operand} {args : Array Operand} {ts : Array TypeId} (τ : Env) (G : Gam) (hG : GOk P G) (h : Inv w0 F0 s a w I ρ) (ho : o.op = .call { callee := .value f, args := args, argTypes := ts }) {fid : Nat} {caps : List AV} (hfe : Vee.ev Alg.std s f = .clo fid caps)
    {al cs : List AV} {lent : Bool} {kn : Bool} (hargs : argsD Alg.std τ kn s args.toList ts.toList = some (al, lent)) (hcaps : capsD Alg.std s.H none caps = some cs) {S : Ret → Prop} (hct : (∀ r, S r → ∀ p ∈ r.pre, p) → CtS P fid (al ++ cs) S)
    (hall : ∀ r, S r → ((lent || !caps.all pureV) = true → ownRet r = true) ∧ sat (endCall Alg.std s o.dst r.outs r.pre s.H) (fun _ s' => K s')) : o.wp P a w (Post w0 F0 K) Q := by
  have hfv := h.ev f
  rw [hfe] at hfv
  obtain ⟨cvs, hu, hcl, hcc⟩ := hfv.clo_inv
  generalize hL : (lent || !caps.all pureV) = L at hall
  obtain ⟨k1, k2⟩ := front (s := s) h τ hargs hcaps hcl hcc hL
  have hcall := CtS.call (vm := []) (um := []) (fpm := []) (hct fun r hr => end_pre (hall r hr).2) rfl rfl (by simp) k1 k2 (by simp) (by simp) h.lentLt
  refine wp_call ho hu rfl hcall fun e w' hb => ?_
  obtain ⟨r, hS, hb⟩ := hb
  obtain ⟨hown, hs⟩ := hall r hS
  obtain ⟨vs, I2, fps, fpb, rfl, hk, hout, hbk, hnd, hfree, hII, hI2⟩ := hb.split (I := I) (fun b => Iff.rfl) h.imm hown
  refine ⟨_, rfl, ?_⟩
  have hT : ∀ b, ¬ b ∈ ([] : List (List Nat)).flatten := by simp
  have hnI2 : ∀ r o, hget s.H r = some o → ∀ b ∈ tfp ρ r o, ¬ I2 b := fun r o hr b hb hi => by
    have h1 := h.sep r o hr b hb
    rcases (hI2 b hi).2 with hh | hh | hh
    · exact h1.1 hh
    · omega
    · exact hT b hh
  obtain ⟨h2, E⟩ := h.rows (ρ' := ρ) (H' := s.H) hk (fun b _ => hT b) (fun b hb => absurd hb (hT b)) hII (fun b hb => ⟨(hI2 b hb).1, (hI2 b hb).2.elim (fun q => h.immF b q) (fun q => q.elim (fun q => .inl (Nat.le_trans h.size q)) (fun q => absurd q (hT b)))⟩) rfl (fun _ => ⟨rfl, rfl, rfl⟩)
    (fun r o hr => .inl ⟨hr, rfl, fun b hb => ⟨hT b, hnI2 r o hr b hb⟩⟩) h.disj
  rw [List.nodup_append] at hnd
  refine end_ok h2 h.size hout hnd.2.1 (fun b hb => ?_) hs
  obtain ⟨g1, g2⟩ := hfree b (List.mem_append_right _ hb)
  have g3 : w.heap.size ≤ b := g1.elim id (fun q => absurd q (hT b))
  exact ⟨g2, .inl (Nat.le_trans h.size g3), fun r o hr hb' => absurd (h.sep r o hr b hb').2.1 (by omega)⟩

end
end Go.Vee

set_option linter.unusedSimpArgs false
set_option linter.unusedVariables false
namespace Go.Vee
open Go

theorem backOf_mv {T : Ty} {m : Md} {b : AV} {x : T.den} (h1 : isMv b = true) (h : backOf T m b = some x) : b = .mv T m x := by
  cases b <;> simp [isMv] at h1
  rename_i t' m' y
  simp only [backOf] at h
  split at h
  · rename_i e
    obtain ⟨e1, e2⟩ := castD_some h
    subst e1
    subst e2
    subst e
    rfl
  · cases h
theorem backOf_mp {T : Ty} {m : Md} {b : AV} {x : T.den} (h1 : isMp b = true) (h : backOf T m b = some x) : b = .mp T m x := by
  cases b <;> simp [isMp] at h1
  rename_i t' m' y
  simp only [backOf] at h
  split at h
  · rename_i e
    obtain ⟨e1, e2⟩ := castD_some h
    subst e1
    subst e2
    subst e
    rfl
  · cases h

section
variable {P : Program} {w0 w : World} {F0 : Bnd} {s : St} {a : Act} {I J : Nat → Prop} {ρ : Nat → RC} {H : Heap} {o : Oper} {K : St → Prop} {Q : Exit → Act → World → Prop}

theorem mkV_inj {t : Ty} {cs cs' : List Value} (h : mkV t cs = mkV t cs') (hl : cs.length = t.sz) (hl' : cs'.length = t.sz) (h1 : ∀ u ∈ cs, u.oneCell' = true) (h1' : ∀ u ∈ cs', u.oneCell' = true) : cs = cs' := by
  have e1 := mkV_cells hl h1
  have e2 := mkV_cells hl' h1'
  rw [h, e2] at e1
  simpa using e1.symm

theorem takeV_spec (h : Inv w0 F0 s a w I ρ) {T : Ty} {m : Md} {v : AV} {u : Value} (hv : VR w I ρ s.H v u) {k : Pk T} (hk : takeV Alg.std T m v s.H = some k) (hq : ∀ p ∈ k.p, p) :
    ∃ us fp, u = mkV T us ∧ VRs w I ρ s.H (cellsOf v) us ∧ Packed w I ρ s.H k.H T m k.x us fp := by
  unfold takeV at hk
  split at hk
  · rename_i hagg
    split at hk
    · rename_i k' hp
      split at hk
      · rename_i hkl
        split at hk
        · rename_i heq
          cases hk
          obtain ⟨us, hu, hul, hc⟩ := hv.packed hp hkl
          obtain ⟨pre, e1, e2, e3⟩ := packM_okc hp
          rw [hkl, List.append_nil] at e1
          have hok : (cellsOf v).all okc = true := List.all_eq_true.2 fun x hx => e3 x (e1 ▸ hx)
          obtain ⟨u1, u2, fp, rfl, hv2, pk⟩ := packM_spec s.H h.rootsOf (fun _ _ h => h) hc hp hq
          have hu2 : u2 = [] := List.eq_nil_of_length_eq_zero (by have := hv2.len; rw [hkl] at this; simpa using this.symm)
          subst hu2
          rw [List.append_nil] at hu hul hc
          exact ⟨u1, fp, mkV_of_cells hv hu hul hagg hok, hc, ⟨pk.own.eqM heq, pk.nd, pk.sub, pk.len, pk.src⟩⟩
        · cases hk
      · cases hk
    · cases hk
  · cases hk

/-- The first argument is written: a value with rows of its own. -/
theorem ok_callV {f : Operand} {o1 : Operand} {os : List Operand} {args : Array Operand} {ts : Array TypeId} (τ : Env) (G : Gam) (hG : GOk P G) (h : Inv w0 F0 s a w I ρ) (ho : o.op = .call { callee := .value f, args := args, argTypes := ts }) (ha : args.toList = o1 :: os) {ts' : List TypeId}
    {fid : Nat} {caps : List AV} (hfe : Vee.ev Alg.std s f = .clo fid caps) {T : Ty} {m : Md} {k : Pk T} (hk : takeV Alg.std T m (Vee.ev Alg.std s o1) s.H = some k)
    {al cs : List AV} {lent : Bool} {kn : Bool} (hargs : argsD Alg.std τ kn ⟨s.fr, k.H⟩ os ts' = some (al, lent)) (hcaps : capsD Alg.std k.H none caps = some cs) {S : Ret → Prop} (hct : (∀ r, S r → ∀ p ∈ r.pre, p) → CtS P fid (.mv T m k.x :: (al ++ cs)) S) (hkq : ∀ p ∈ k.p, p)
    (hall : ∀ r, S r → ((lent || !caps.all pureV) = true → ownRet r = true) ∧ (∀ p ∈ r.pre, p) ∧ ∃ (H' : Heap) (ps ps' : List Prop), (∀ p ∈ ps, p) ∧
      ((H' = k.H) ∨ (∃ b bs x l', r.backs = b :: bs ∧ b = .mv T m x ∧ putM Alg.std s.H T m x (cellsOf (Vee.ev Alg.std s o1)) k.H = some (l', H', ps))) ∧
      sat (endCall Alg.std s o.dst r.outs ps' H') (fun _ s' => K s')) : o.wp P a w (Post w0 F0 K) Q := by
  have hfv := h.ev f
  rw [hfe] at hfv
  obtain ⟨us, fp, hu1, hc1, pk⟩ := takeV_spec h (h.ev o1) hk hkq
  have h1 : Inv w0 F0 ⟨s.fr, k.H⟩ a w I ρ := h.sub pk.sub (Nat.le_of_eq pk.len.symm)
  obtain ⟨cvs, hu, hcl, hcc⟩ := hfv.clo_inv
  generalize hL : (lent || !caps.all pureV) = L at hall
  obtain ⟨k1, k2⟩ := front (s := s) h1 τ hargs hcaps hcl (fun i v u hv hu => (hcc i v u hv hu).sub pk.sub (Nat.le_of_eq pk.len.symm)) hL
  have hfp : ∀ b ∈ fp, ¬ I b ∧ b < w.heap.size ∧ (w0.heap.size ≤ b ∨ F0.wr b) ∧ ∀ r' o', hget k.H r' = some o' → b ∉ tfp ρ r' o' := fun b hb => by
    obtain ⟨r1, o1, g1, g2, g3⟩ := pk.src b hb
    obtain ⟨q1, q2, q3⟩ := h.sep r1 o1 g1 b g3
    refine ⟨q1, q2, q3, fun r' o' hg' hb' => ?_⟩
    have hne : r1 ≠ r' := by rintro rfl; rw [g2] at hg'; cases hg'
    exact h.disj r1 o1 r' o' hne g1 (pk.sub _ _ hg') b g3 hb'
  have hTf : ∀ b, b ∈ [fp].flatten ↔ b ∈ fp := fun b => by simp
  have hcall := CtS.call (vm := [.mv T m k.x]) (um := [a.eval o1]) (fpm := [fp]) (w := w) (hct fun r hr => (hall r hr).2.1) rfl rfl (fun i v u hv hu => by
    cases i with
    | zero =>
      simp at hv hu
      subst hv
      subst hu
      exact ⟨us, hu1, Own.frame (fun _ _ => rfl) (fun b hb => .inl hb) pk.own (fun _ _ => rfl)⟩
    | succ i => simp at hv) k1 k2 (by simpa using pk.nd) (fun b hb => by
      have hb' := (hTf b).1 hb
      obtain ⟨q1, q2, q3, q4⟩ := hfp b hb'
      exact ⟨fun hh => hh.elim q1 fun ⟨_, r', o', g1, g2⟩ => q4 r' o' g1 g2, q2⟩) h1.lentLt
  refine wp_call ho hu (by rw [ha]; simp) hcall fun e w' hb => ?_
  obtain ⟨r, hS, hb⟩ := hb
  obtain ⟨hown, _, H', ps, ps', hps, hcase, hs⟩ := hall r hS
  obtain ⟨vs, I2, fps, fpb, rfl, hkk, hout, hbk, hnd, hfree, hII, hI2⟩ := hb.split (I := I) (fun b => Iff.rfl) h.imm hown
  refine ⟨_, rfl, ?_⟩
  have hkeep : Keeps (fun b => b ∈ fp) w w' := hkk.mono fun b _ hb => (hTf b).1 hb
  have hnI2 : ∀ r o, hget k.H r = some o → ∀ b ∈ tfp ρ r o, ¬ I2 b := fun r o hr b hb hi => by
    have h1 := h.sep r o (pk.sub _ _ hr) b hb
    rcases (hI2 b hi).2 with hh | hh | hh
    · exact h1.1 hh
    · omega
    · exact (hfp b ((hTf b).1 hh)).2.2.2 r o hr hb
  have hIT : ∀ b, I b → ¬ b ∈ fp := fun b hb hf => (hfp b hf).1 hb
  have hT0 : ∀ b, b ∈ fp → b < w.heap.size → w0.heap.size ≤ b ∨ F0.wr b := fun b hb _ => (hfp b hb).2.2.1
  have hI2' : ∀ b, I2 b → b < w'.heap.size ∧ (w0.heap.size ≤ b ∨ F0.rd b ∨ F0.wr b) := fun b hb => ⟨(hI2 b hb).1, (hI2 b hb).2.elim (fun q => h.immF b q) (fun q => q.elim (fun q => .inl (Nat.le_trans h.size q)) (fun q => (hfp b ((hTf b).1 q)).2.2.1.imp id .inr))⟩
  have hfresh : ∀ b ∈ fpb.flatten ++ fps.flatten, ¬ I2 b ∧ (w0.heap.size ≤ b ∨ F0.wr b) ∧ ∀ r' o', hget k.H r' = some o' → b ∉ tfp ρ r' o' := fun b hb => by
    obtain ⟨g1, g2⟩ := hfree b hb
    rcases g1 with g1 | g1
    · exact ⟨g2, .inl (Nat.le_trans h.size g1), fun r' o' hr' hb' => absurd (h.sep r' o' (pk.sub _ _ hr') b hb').2.1 (by omega)⟩
    · have := hfp b ((hTf b).1 g1)
      exact ⟨g2, this.2.2.1, this.2.2.2⟩
  rw [List.nodup_append] at hnd
  rcases hcase with rfl | ⟨b, bs, x, l', hbs, rfl, hput⟩
  · obtain ⟨h2, E⟩ := h.rows (ρ' := ρ) (H' := k.H) hkeep hIT hT0 hII hI2' pk.len (fun _ => ⟨rfl, rfl, rfl⟩)
      (fun r o hr => .inl ⟨pk.sub _ _ hr, rfl, fun b hb => ⟨fun hf => (hfp b hf).2.2.2 r o hr hb, hnI2 r o hr b hb⟩⟩) (fun r o r' o' hne hr hr' => h.disj r o r' o' hne (pk.sub _ _ hr) (pk.sub _ _ hr'))
    exact end_ok h2 h.size hout hnd.2.1 (fun b hb => hfresh b (List.mem_append_right _ hb)) hs
  · have hb0 := hbk.at_ 0 (.mv T m x) (a.eval o1) (by rw [hbs]; rfl) rfl
    obtain ⟨cs', e1, e2⟩ := hb0
    have hcs : cs' = us := by
      refine (mkV_inj (t := T) (by rw [← e1, ← hu1]) e2.len pk.own.len e2.one hc1.one)
    subst hcs
    generalize hf' : fpb.getD 0 [] = fp' at e2
    have hsub' : ∀ b ∈ fp', b ∈ fpb.flatten := fun b hb => mem_flatten_getD.2 ⟨0, by rw [hf']; exact hb⟩
    have hnd' : fp'.Nodup := by rw [← hf']; exact (nodup_flatten.1 hnd.1).1 0
    obtain ⟨ρ', _, PR⟩ := putM_spec (w' := w') (I2 := I2) (ρ1 := ρ) (u2 := []) h.rootsOf (fun _ => rfl) (by simpa using hc1) e2 hnd' hput hps
    have cases2 : ∀ r o, hget H' r = some o → (hget k.H r = some o ∧ tfp ρ' r o = tfp ρ r o) ∨ (hget k.H r = none ∧ tfp ρ' r o = (ρ' r).fp ∧ ∀ b ∈ (ρ' r).fp, b ∈ fp') := fun r o hr => by
      cases hkr : hget k.H r with
      | some o' =>
        obtain ⟨g1, g2⟩ := PR.old r o' hkr
        rw [hr] at g1
        cases g1
        exact .inl ⟨rfl, by cases o <;> simp [tfp, (PR.rc r).1, g2]⟩
      | none =>
        obtain ⟨v, e, m', xs, v', xs', a1, rfl, a3, a4, a5, a6, a7⟩ := PR.new r o hkr hr
        exact .inr ⟨rfl, rfl, a7⟩
    obtain ⟨h2, E⟩ := h.rows (ρ' := ρ') (H' := H') hkeep hIT hT0 hII hI2' (PR.len.trans pk.len) PR.rc (fun r o hr => by
      cases hkr : hget k.H r with
      | some o' =>
        obtain ⟨g1, g2⟩ := PR.old r o' hkr
        rw [hr] at g1
        cases g1
        exact .inl ⟨pk.sub _ _ hkr, g2, fun b hb => ⟨fun hf => (hfp b hf).2.2.2 r o hkr hb, hnI2 r o hkr b hb⟩⟩
      | none =>
        obtain ⟨v, e, m', xs, v', xs', a1, rfl, a3, a4, a5, a6, a7⟩ := PR.new r o hkr hr
        refine .inr ⟨v, e, m', xs, v', xs', a1, rfl, a3, a4, a5, a6, fun b hb => ?_⟩
        have := hfresh b (List.mem_append_left _ (hsub' b (a7 b hb)))
        exact ⟨this.1, this.2.1⟩) (fun r o r' o' hne hr hr' b hb hb' => by
      rcases cases2 r o hr with ⟨g1, g2⟩ | ⟨g1, g2, g3⟩ <;> rcases cases2 r' o' hr' with ⟨g1', g2'⟩ | ⟨g1', g2', g3'⟩
      · rw [g2] at hb; rw [g2'] at hb'
        exact h.disj r o r' o' hne (pk.sub _ _ g1) (pk.sub _ _ g1') b hb hb'
      · rw [g2] at hb; rw [g2'] at hb'
        exact (hfresh b (List.mem_append_left _ (hsub' b (g3' b hb')))).2.2 r o g1 hb
      · rw [g2] at hb; rw [g2'] at hb'
        exact (hfresh b (List.mem_append_left _ (hsub' b (g3 b hb)))).2.2 r' o' g1' hb'
      · rw [g2] at hb; rw [g2'] at hb'
        exact PR.dj r o r' o' hne g1 g1' hr hr' b hb hb')
    refine end_ok h2 h.size hout hnd.2.1 (fun b hb => ?_) hs
    obtain ⟨q1, q2, q3⟩ := hfresh b (List.mem_append_right _ hb)
    refine ⟨q1, q2, fun r o hr hb' => ?_⟩
    rcases cases2 r o hr with ⟨g1, g2⟩ | ⟨g1, g2, g3⟩
    · exact q3 r o g1 (g2 ▸ hb')
    · rw [g2] at hb'
      exact hnd.2.2 b (hsub' b (g3 b hb')) b hb rfl

end
end Go.Vee

set_option linter.unusedSimpArgs false
set_option linter.unusedVariables false
namespace Go.Vee
open Go

section
variable {P : Program} {w0 w : World} {F0 : Bnd} {s : St} {a : Act} {I J : Nat → Prop} {ρ : Nat → RC} {H : Heap} {o : Oper} {K : St → Prop} {Q : Exit → Act → World → Prop}

theorem kill_sub {H : Heap} (r : Nat) : ∀ k o, hget (H.set r none) k = some o → hget H k = some o := fun k o hk => by
  rw [hget_set_none] at hk
  split at hk
  · cases hk
  · exact hk

/-- The first argument is written: a slice that lies in a row. -/
theorem ok_callN {f : Operand} {o1 : Operand} {os : List Operand} {args : Array Operand} {ts : Array TypeId} (τ : Env) (G : Gam) (hG : GOk P G) (h : Inv w0 F0 s a w I ρ) (ho : o.op = .call { callee := .value f, args := args, argTypes := ts }) (ha : args.toList = o1 :: os) {ts' : List TypeId}
    {fid : Nat} {caps : List AV} (hfe : Vee.ev Alg.std s f = .clo fid caps) {e : Ty} {r ver n : Nat} {st : Stp} {p : List Stp} (hoe : Vee.ev Alg.std s o1 = .ref e r ver (st :: p) 0 n)
    {e0 : Ty} {m0 : Md} {xs : List e0.den} {v : Nat} (hrow : rowAt s.H r ver (hops (st :: p)) = some ⟨e0, m0, xs, v⟩) {m1 : Md} {y : List e.den} (hrd : readRef Alg.std s.H e r ver (st :: p) = some (m1, y)) (hn : n = y.length)
    {al cs : List AV} {lent : Bool} {kn : Bool} (hargs : argsD Alg.std τ kn ⟨s.fr, s.H.set r none⟩ os ts' = some (al, lent)) (hcaps : capsD Alg.std (s.H.set r none) none caps = some cs) {S : Ret → Prop} (hct : (∀ r, S r → ∀ p ∈ r.pre, p) → CtS P fid (.mv (.sl e) (.ow m1) y :: (al ++ cs)) S)
    (hown1 : own (.sl e) (.ow m1) = true) (hall : ∀ ret, S ret → ownRet ret = true ∧ ret.outs.all flatO = true ∧ (∀ p ∈ ret.pre, p) ∧ ∃ (y' : List e.den) (bs : List AV) (ys : List e0.den) (ps' : List Prop), ret.backs = .mv (.sl e) (.ow m1) y' :: bs ∧
      setAt Alg.std (.sl e0) (.ow m0) xs (st :: p) (.sl e) (.ow m1) y' = some ys ∧
      sat (endCall Alg.std s o.dst ret.outs ps' (s.H.set r (some (.row (if e0.hasSl then v + 1 else v) e0 m0 ys)))) (fun _ s' => K s')) : o.wp P a w (Post w0 F0 K) Q := by
  have hfv := h.ev f
  rw [hfe] at hfv
  have hov := h.ev o1
  rw [hoe] at hov
  obtain ⟨A, c, B, c0, l, fp0, e', m', xs', v', hu1, hnc, hg, hle, hver, hw, q1, q2, q3, hown0, hsub0, hget0⟩ := h.ref hov hrd
  obtain ⟨hg', hver'⟩ := rowAt_spec hrow
  rw [hg'] at hg
  cases hg
  rcases walk_sl hw with ⟨hnil, _⟩ | ⟨i, q, _, _, _, _, _, _, _, hpq, _⟩
  · cases hnil
  · cases hpq
    obtain ⟨b', off', fp1, arr0, et0, e1, e2, hown2, hnd1, hsub1, hbn, hbin, hh0, hcs, hsz, hlens⟩ := h.rowAt hg' hget0 hw
    cases e1
    obtain ⟨rfl, rfl⟩ := q3 ⟨rfl, hn⟩
    have hu : a.eval o1 = .slice A y.length c := by rw [hu1, hn]
    have h1 : Inv w0 F0 ⟨s.fr, s.H.set r none⟩ a w I ρ := h.kill r
    obtain ⟨cvs, hu', hcl, hcc⟩ := hfv.clo_inv
    obtain ⟨k1, k2⟩ := front (s := s) h1 τ hargs hcaps hcl (fun i v u hv hu => (hcc i v u hv hu).sub (kill_sub r) (by simp)) rfl
    have hsep := h.sep r _ hg'
    have hfp : ∀ b ∈ fp1, ¬ I b ∧ b < w.heap.size ∧ ∀ r' o', hget (s.H.set r none) r' = some o' → b ∉ tfp ρ r' o' := fun b hb => by
      obtain ⟨z1, z2, z3⟩ := hsep b (by simpa [tfp] using hsub1 b hb)
      refine ⟨z1, z2, fun r' o' hr' hb' => ?_⟩
      have hne : r ≠ r' := by rintro rfl; rw [hget_set_none, if_pos rfl] at hr'; cases hr'
      exact h.disj r _ r' o' hne hg' (kill_sub r _ _ hr') b (by simpa [tfp] using hsub1 b hb) hb'
    have hTf : ∀ b, b ∈ [fp1].flatten ↔ b ∈ fp1 := fun b => by simp
    have hcall := CtS.call (vm := [.mv (.sl e) (.ow m1) y]) (um := [a.eval o1]) (fpm := [fp1]) (w := w) (hct fun r hr => (hall r hr).2.2.1) rfl rfl (fun i v u hv hu2 => by
      cases i with
      | zero =>
        simp at hv hu2
        subst hv
        subst hu2
        exact ⟨[.slice A y.length c], hu.trans (by simp [mkV, Ty.isAgg]), Own.frame (fun _ _ => rfl) (fun b hb => .inl hb) hown2 (fun _ _ => rfl)⟩
      | succ i => simp at hv) k1 k2 (by simpa using hnd1) (fun b hb => by
        have hb' := (hTf b).1 hb
        obtain ⟨z1, z2, z4⟩ := hfp b hb'
        exact ⟨fun hh => hh.elim z1 fun ⟨_, r', o', g1, g2⟩ => z4 r' o' g1 g2, z2⟩) h1.lentLt
    refine wp_call ho hu' (by rw [ha]; simp) hcall fun ed w' hb => ?_
    obtain ⟨ret, hS, hb⟩ := hb
    obtain ⟨hown, hflat, _, y', bs, ys, ps', hbs, hset, hs⟩ := hall ret hS
    obtain ⟨vs, I', fps, fpb, rfl, hkk, hout, hbk, hnd, hfree, hII, hI2⟩ := hb
    refine ⟨_, rfl, ?_⟩
    have hkeep : Keeps (fun b => b ∈ fp1) w w' := hkk.mono fun b _ hb => (hTf b).1 hb
    obtain ⟨cs', e1, e2⟩ := hbk.at_ 0 (.mv (.sl e) (.ow m1) y') (a.eval o1) (by rw [hbs]; rfl) rfl
    generalize hf' : fpb.getD 0 [] = fp' at e2
    have hcs' : cs' = [.slice A y.length c] := by
      have hl := e2.len
      match cs', hl with
      | [z], _ =>
        have : a.eval o1 = z := by simpa [mkV, Ty.isAgg] using e1
        rw [← this, hu]
    subst hcs'
    have hsub' : ∀ b ∈ fp', b ∈ fpb.flatten := fun b hb => mem_flatten_getD.2 ⟨0, by rw [hf']; exact hb⟩
    rw [List.nodup_append] at hnd
    have hnd' : fp'.Nodup := by rw [← hf']; exact (nodup_flatten.1 hnd.1).1 0
    have hb'eq : w'.heap[b']? = some (.cells arr0 et0 (0, 0)) := (hkeep.block b' (hsep b' (by simpa [tfp] using hbin)).2.1 hbn).trans hh0
    have hIfp' : ∀ b ∈ fp', ¬ I b := fun b hb hi => (hfree b (List.mem_append_left _ (hsub' b hb))).2 (hII b (.inl hi))
    obtain ⟨ρ', h2, E⟩ := hlens w' arr0 et0 y' fp' ys (hkeep.mono fun b _ hb => .inr hb) hb'eq ⟨rfl, fun _ _ => rfl⟩ (by rw [← hcs]; exact Own.anyI hown1 e2) hnd' (fun b hb => by
      rcases (hfree b (List.mem_append_left _ (hsub' b hb))).1 with g1 | g1
      · right
        refine ⟨fun hh => absurd (hsep b (by simpa [tfp] using hh)).2.1 (by omega), hIfp' b hb, .inl (Nat.le_trans h.size g1), fun r' o' _ hr' hb' => absurd (h.sep r' o' hr' b hb').2.1 (by omega)⟩
      · exact .inl ((hTf b).1 g1)) hset
    have hfl : ∀ q ∈ ret.outs, q.1.hasSl = false ∧ npOf q.2.1 = none := fun q hq => flatO_iff.1 (List.all_eq_true.1 hflat q hq)
    have hout0 : Outs w' I w.heap.size ret.outs vs (List.replicate ret.outs.length []) :=
      ⟨hout.len, by simp, fun i q u hq hu => by
        have hf2 := hfl q (List.mem_of_getElem? hq)
        obtain ⟨cs, e1, e2⟩ := (OutOk.dat hf2.2).1 (hout.at_ i q u hq hu)
        have := (e2.flat hf2.1).2 w' I q.2.1
        have e3 : (List.replicate ret.outs.length ([] : List Nat)).getD i [] = [] := by simp [List.getD_eq_getElem?_getD, List.getElem?_replicate]; split <;> rfl
        rw [e3]
        exact (OutOk.dat hf2.2).2 ⟨cs, e1, this⟩⟩
    have hnil : (List.replicate ret.outs.length ([] : List Nat)).flatten = [] := by simp
    exact end_ok h2 h.size hout0 (by rw [hnil]; simp) (fun b hb => by rw [hnil] at hb; simp at hb) hs

/-! ## Variables lent to be written -/
theorem layC_app : ∀ {t : Ty} {m : Md} {x : t.den} {H H' : Heap} {l : List AV}, layC Alg.std t m x H = some (l, H') → ∃ K, H' = H ++ K
  | .unit, _, _, H, H', l, h => by simp [layC] at h; exact ⟨[], by simp [h.2]⟩
  | .pair a b, m, x, H, H', l, h => by
    simp only [layC] at h
    split at h
    · rename_i l1 H1 e1
      split at h
      · rename_i l2 H2 e2
        cases h
        obtain ⟨K1, rfl⟩ := layC_app e1
        obtain ⟨K2, rfl⟩ := layC_app e2
        exact ⟨K1 ++ K2, by simp⟩
      · cases h
    · cases h
  | .sl e, m, x, H, H', l, h => by
    cases m <;> simp [layC] at h
    · exact ⟨[], by simp [h.2]⟩
    · exact ⟨[_], h.2.symm⟩
  | .int _, _, _, H, H', l, h => by simp [layC] at h; exact ⟨[], by simp [h.2]⟩
  | .bool, _, _, H, H', l, h => by simp [layC] at h; exact ⟨[], by simp [h.2]⟩
  | .str, _, _, H, H', l, h => by simp [layC] at h; exact ⟨[], by simp [h.2]⟩

theorem hget_appL {H K : Heap} {r : Nat} (hr : r < H.length) : hget (H ++ K) r = hget H r := by
  unfold hget
  simp [List.getD_eq_getElem?_getD, List.getElem?_append_left hr]

/-- What is known of variables lent: their places, their cells, the blocks. -/
structure LentOk (w : World) (I : Nat → Prop) (ρ : Nat → RC) (K : Heap) (l : Lent) (v : AV) (u : Value) : Prop where
  box : hget K l.r = some (.box l.cs)
  fit : l.off + l.T.sz ≤ l.cs.length
  arg : ∃ x, v = .mp l.T l.m x
  at_ : u = .pointer (some ⟨(ρ l.r).b, (ρ l.r).off + l.off, none⟩)

theorem takeP_spec (τ : Env) (h : Inv w0 F0 s a w I ρ) : ∀ {ms : List Md} {os : List Operand} {ts : List TypeId} {H H' : Heap} {vs : List AV} {ls : List Lent} {ps : List Prop}, (∀ r o, hget H r = some o → hget s.H r = some o) → H.length = s.H.length →
    takeP Alg.std τ s ms os ts H = some (vs, ls, H', ps) → (∀ p ∈ ps, p) →
    ∃ fpm : List (List Nat), ms.length ≤ os.length ∧ vs.length = ms.length ∧ ls.length = ms.length ∧ fpm.length = ms.length ∧
      (∀ (i : Nat) (v : AV) (u : Value), vs[i]? = some v → ((os.take ms.length).map a.eval)[i]? = some u → ARg w I v u (fpm.getD i [])) ∧
      (∀ (i : Nat) (l : Lent) (v : AV) (u : Value), ls[i]? = some l → vs[i]? = some v → ((os.take ms.length).map a.eval)[i]? = some u → LentOk w I ρ s.H l v u) ∧
      fpm.flatten.Nodup ∧ (∀ b ∈ fpm.flatten, ∃ r o, hget H r = some o ∧ hget H' r = none ∧ b ∈ tfp ρ r o) ∧ (∀ r o, hget H' r = some o → hget H r = some o) ∧ H'.length = H.length ∧
      (∀ l ∈ ls, hget H' l.r = none ∧ ∃ o, hget H l.r = some o) ∧ (ls.map (·.r)).Nodup
  | [], os, ts, H, H', vs, ls, ps, hH, hlen, hp, hq => by
    simp [takeP] at hp
    obtain ⟨rfl, rfl, rfl, _⟩ := hp
    exact ⟨[], by simp, rfl, rfl, rfl, by simp, by simp, by simp, by simp, fun _ _ h => h, rfl, by simp, by simp⟩
  | m :: ms, [], ts, H, H', vs, ls, ps, hH, hlen, hp, hq => by simp [takeP] at hp
  | m :: ms, o :: os, [], H, H', vs, ls, ps, hH, hlen, hp, hq => by simp [takeP] at hp
  | m :: ms, o :: os, t :: ts, H, H', vs, ls, ps, hH, hlen, hp, hq => by
    simp only [takeP] at hp
    split at hp
    · rename_i r off T hev hT
      split at hp
      · rename_i cs hr
        split at hp
        · rename_i hfit
          split at hp
          · rename_i k hk
            split at hp
            · rename_i hkl
              split at hp
              · rename_i heq
                split at hp
                · rename_i vs' ls' H2 ps' hrec
                  cases hp
                  have hrs := hH _ _ hr
                  have hov := h.ev o
                  rw [hev] at hov
                  obtain ⟨hu, hrl⟩ := hov.bptr_inv
                  obtain ⟨arr, et, hb, hsz, hcs⟩ := h.boxCells hrs off (by omega)
                  have hfit2 : (ρ r).off + off + T.sz ≤ arr.size := by omega
                  have hcs2 := hcs.take T.sz
                  have e : (seg arr ((ρ r).off + off) (cs.length - off)).take T.sz = seg arr ((ρ r).off + off) T.sz := by
                    simp only [seg, List.take_take]; congr 1; omega
                  rw [e] at hcs2
                  have hkp : ∀ p ∈ k.p, p := fun p hp => hq p (by simp [hp])
                  obtain ⟨u1, u2, fp, e1, hv2, pk⟩ := packM_spec s.H h.rootsOf (fun r' o' h' => hH r' o' (kill_sub r _ _ h')) hcs2 hk hkp
                  have hu2 : u2 = [] := List.eq_nil_of_length_eq_zero (by have := hv2.len; rw [hkl] at this; simpa using this.symm)
                  subst hu2
                  rw [List.append_nil] at e1
                  subst e1
                  obtain ⟨fpm, g1, g2, g3, g4, g5, g6, g7, g8, g9, g10, g11, g12⟩ := takeP_spec τ h (fun r' o' h' => hH r' o' (kill_sub r _ _ (pk.sub r' o' h'))) (by rw [pk.len]; simp [hlen]) hrec (fun p hp => hq p (by simp [hp]))
                  have hk0 : hget k.H r = none := by
                    cases hkr : hget k.H r with
                    | none => rfl
                    | some o' => have := pk.sub r o' hkr; rw [hget_set_none, if_pos rfl] at this; cases this
                  have hH2r : hget H' r = none := by
                    cases hkr : hget H' r with
                    | none => rfl
                    | some o' => have := g9 r o' hkr; rw [hk0] at this; cases this
                  have hbfp : (ρ r).b ∉ fp := fun hh => by
                    obtain ⟨r1, o1, z1, z2, z3⟩ := pk.src _ hh
                    have hne : r1 ≠ r := by rintro rfl; rw [hget_set_none, if_pos rfl] at z1; cases z1
                    exact h.disj r1 o1 r _ hne (hH _ _ (kill_sub r _ _ z1)) hrs _ z3 (by simp [tfp])
                  have hsrc : ∀ b ∈ (ρ r).b :: fp, ∃ r1 o1, hget H r1 = some o1 ∧ hget k.H r1 = none ∧ b ∈ tfp ρ r1 o1 := fun b hb => by
                    rcases List.mem_cons.1 hb with rfl | hb
                    · exact ⟨r, _, hr, hk0, by simp [tfp]⟩
                    · obtain ⟨r1, o1, z1, z2, z3⟩ := pk.src _ hb
                      exact ⟨r1, o1, kill_sub r _ _ z1, z2, z3⟩
                  refine ⟨((ρ r).b :: fp) :: fpm, by simp; omega, by simp [g2], by simp [g3], by simp [g4], fun i v u hv hu' => ?_, fun i l v u hl hv hu' => ?_, ?_, fun b hb => ?_, fun r' o' h' => kill_sub r _ _ (pk.sub _ _ (g9 r' o' h')), by rw [g10, pk.len]; simp, fun l hl => ?_, ?_⟩
                  · cases i with
                    | zero =>
                      simp at hv hu'
                      subst hv
                      subst hu'
                      refine ⟨(ρ r).b, (ρ r).off + off, arr, et, fp, hu, hb, hfit2, ?_, by simp⟩
                      exact pk.own.eqM heq
                    | succ i => exact g5 i v u (by simpa using hv) (by simpa using hu')
                  · cases i with
                    | zero =>
                      simp at hl hv hu'
                      subst hl
                      subst hv
                      subst hu'
                      exact ⟨hrs, hfit, ⟨_, rfl⟩, hu⟩
                    | succ i => exact g6 i l v u (by simpa using hl) (by simpa using hv) (by simpa using hu')
                  · rw [List.flatten_cons, List.nodup_append]
                    refine ⟨List.nodup_cons.2 ⟨hbfp, pk.nd⟩, g7, fun b hb c hc hbc => ?_⟩
                    subst hbc
                    obtain ⟨r1, o1, z1, z2, z3⟩ := hsrc b hb
                    obtain ⟨r2, o2, y1, y2, y3⟩ := g8 b hc
                    have hne : r1 ≠ r2 := by rintro rfl; rw [z2] at y1; cases y1
                    exact h.disj r1 o1 r2 o2 hne (hH _ _ z1) (hH _ _ (kill_sub r _ _ (pk.sub _ _ y1))) b z3 y3
                  · rw [List.flatten_cons] at hb
                    rcases List.mem_append.1 hb with hb | hb
                    · obtain ⟨r1, o1, z1, z2, z3⟩ := hsrc b hb
                      refine ⟨r1, o1, z1, ?_, z3⟩
                      cases hkr : hget H' r1 with
                      | none => rfl
                      | some o' => have := g9 r1 o' hkr; rw [z2] at this; cases this
                    · obtain ⟨r2, o2, y1, y2, y3⟩ := g8 b hb
                      exact ⟨r2, o2, kill_sub r _ _ (pk.sub _ _ y1), y2, y3⟩
                  · rcases List.mem_cons.1 hl with rfl | hl
                    · exact ⟨hH2r, _, hr⟩
                    · obtain ⟨z1, o', z2⟩ := g11 l hl
                      exact ⟨z1, o', kill_sub r _ _ (pk.sub _ _ z2)⟩
                  · rw [List.map_cons, List.nodup_cons]
                    refine ⟨fun hh => ?_, g12⟩
                    obtain ⟨l, hl, he⟩ := List.mem_map.1 hh
                    obtain ⟨_, o', z2⟩ := g11 l hl
                    have he' : l.r = r := he
                    rw [he', hk0] at z2
                    cases z2
                · cases hp
              · cases hp
            · cases hp
          · cases hp
        · cases hp
      · cases hp
    · cases hp

end
end Go.Vee

set_option linter.unusedSimpArgs false
set_option linter.unusedVariables false
namespace Go.Vee
open Go

section
variable {P : Program} {w0 w w' : World} {F0 : Bnd} {s : St} {a : Act} {I I2 J : Nat → Prop} {ρ : Nat → RC} {H : Heap} {o : Oper} {K : St → Prop} {Q : Exit → Act → World → Prop}

theorem putP_spec (h : Inv w0 F0 s a w I ρ) : ∀ {ls : List Lent} {bs : List AV} {us : List Value} {fpb : List (List Nat)} {rest : List Nat} {H H' : Heap} {ρ1 : Nat → RC}, Inv w0 F0 ⟨s.fr, H⟩ a w' I2 ρ1 → Ext w w' I I2 ρ ρ1 s.H H →
    ls.length ≤ us.length → (∀ (i : Nat) (l : Lent) (u : Value), ls[i]? = some l → us[i]? = some u → hget s.H l.r = some (.box l.cs) ∧ l.off + l.T.sz ≤ l.cs.length ∧ u = .pointer (some ⟨(ρ l.r).b, (ρ l.r).off + l.off, none⟩)) →
    (∀ l ∈ ls, hget H l.r = none) → (ls.map (·.r)).Nodup → Backs w w' I2 bs us fpb → (fpb.flatten ++ rest).Nodup → Free w0 F0 I2 ρ1 H (fpb.flatten ++ rest) → putP Alg.std ls bs H = some H' →
    ∃ ρ2, Inv w0 F0 ⟨s.fr, H'⟩ a w' I2 ρ2 ∧ Free w0 F0 I2 ρ2 H' rest
  | [], bs, us, fpb, rest, H, H', ρ1, h1, E, hlen, hl, hn, hnd, hb, hd, hf, hp => by
    simp [putP] at hp
    subst hp
    exact ⟨ρ1, h1, fun b hb => hf b (List.mem_append_right _ hb)⟩
  | l :: ls, [], us, fpb, rest, H, H', ρ1, h1, E, hlen, hl, hn, hnd, hb, hd, hf, hp => by
    simp [putP] at hp
    subst hp
    exact ⟨ρ1, h1, fun b hb => hf b (List.mem_append_right _ hb)⟩
  | l :: ls, b :: bs, [], fpb, rest, H, H', ρ1, h1, E, hlen, hl, hn, hnd, hb, hd, hf, hp => by simp at hlen
  | l :: ls, b :: bs, u :: us, fpb, rest, H, H', ρ1, h1, E, hlen, hl, hn, hnd, hb, hd, hf, hp => by
    match fpb, hb.fl with
    | fp0 :: fpb, hfl =>
    have hb0 := hb.at_ 0 b u rfl rfl
    simp only [List.getD_cons_zero] at hb0
    have hb' : Backs w w' I2 bs us fpb := ⟨by simpa using hfl, fun i v u hv hu => by simpa using hb.at_ (i + 1) v u (by simpa using hv) (by simpa using hu)⟩
    have hl' : ∀ (i : Nat) (l : Lent) (u : Value), ls[i]? = some l → us[i]? = some u → hget s.H l.r = some (.box l.cs) ∧ l.off + l.T.sz ≤ l.cs.length ∧ u = .pointer (some ⟨(ρ l.r).b, (ρ l.r).off + l.off, none⟩) :=
      fun i l u h1 h2 => hl (i + 1) l u (by simpa using h1) (by simpa using h2)
    obtain ⟨hbox, hfit, hu⟩ := hl 0 l u rfl rfl
    rw [List.map_cons, List.nodup_cons] at hnd
    rw [List.flatten_cons, List.append_assoc] at hd hf
    simp only [putP] at hp
    split at hp
    · rw [List.nodup_append] at hd
      exact putP_spec h h1 E (by simpa using hlen) hl' (fun l hl => hn l (by simp [hl])) hnd.2 hb' hd.2.1 (fun b hb => hf b (List.mem_append_right _ hb)) hp
    · split at hp
      · rename_i hmp
        split at hp
        · rename_i x hx
          have := backOf_mp hmp hx
          subst this
          split at hp
          · rename_i c H1 hlay
            split at hp
            · obtain ⟨b0, off0, arr, arr', et, et', fp', e1, e2, e3, e4, e5, e6, rfl⟩ := hb0
              rw [hu] at e1
              simp only [Value.pointer.injEq, Option.some.injEq, Addr.mk.injEq, and_true] at e1
              obtain ⟨rfl, rfl⟩ := e1
              rw [List.nodup_append] at hd
              obtain ⟨d1, d2, d12⟩ := hd
              rw [List.nodup_cons] at d1
              have hrs : l.r < s.H.length := hget_lt hbox
              have hrH : l.r < H.length := Nat.lt_of_lt_of_le hrs E.len
              obtain ⟨ρ2, k1, E2, v2, q2⟩ := layC_spec h1 e6 d1.2 (fun b hb => hf b (List.mem_append_left _ (List.mem_cons_of_mem _ hb))) hlay
              obtain ⟨K1, rfl⟩ := layC_app hlay
              have hrc : (ρ2 l.r).b = (ρ l.r).b ∧ (ρ2 l.r).off = (ρ l.r).off := by
                obtain ⟨a1, a2, _⟩ := E.rc l.r hrs
                obtain ⟨b1, b2, _⟩ := E2.rc l.r hrH
                exact ⟨b1.trans a1, b2.trans a2⟩
              obtain ⟨arrw, etw, w1, w2, w3⟩ := h.roots l.r _ hbox
              rw [e2] at w1
              cases w1
              have hcl : c.length = l.T.sz := by rw [v2.len, seg_length (by rw [e4.size]; exact e5)]
              have hf0 := hf (ρ l.r).b (List.mem_append_left _ (by simp))
              have hfree2 : ∀ b ∈ (ρ l.r).b :: fpb.flatten ++ rest, b ∉ fp' → ¬ I2 b ∧ (w0.heap.size ≤ b ∨ F0.wr b) ∧ ∀ r' o', hget (H ++ K1) r' = some o' → b ∉ tfp ρ2 r' o' := fun b hb hnb => by
                have hb2 : b ∈ (ρ l.r).b :: fp' ++ (fpb.flatten ++ rest) := by
                  rcases List.mem_cons.1 hb with rfl | hb
                  · simp
                  · exact List.mem_append_right _ hb
                obtain ⟨z1, z2, z3⟩ := hf b hb2
                refine ⟨z1, z2, fun r' o' hr' hb' => ?_⟩
                rcases q2 r' o' hr' with ⟨y1, y2⟩ | y
                · exact z3 r' o' y1 (y2 ▸ hb')
                · exact hnb (y b hb')
              have hz := hfree2 (ρ l.r).b (by simp) d1.1
              obtain ⟨k2, E3⟩ := k1.revive (r := l.r) (cs := putCs l.cs l.off c) (by rw [hget_appL hrH]; exact hn l (by simp)) (by simp; omega) (arr := arr') (et := et') (by rw [hrc.1]; exact e3) (by rw [hrc.2, putCs_length, e4.size]; exact w2)
                (fun i v hi => by
                  rw [putCs_get _ _ _ _ (by rw [hcl]; exact hfit)] at hi
                  rw [hrc.2]
                  by_cases hin : l.off ≤ i ∧ i < l.off + c.length
                  · rw [if_pos hin] at hi
                    have hlt : i - l.off < l.T.sz := by omega
                    have hsg : (seg arr' ((ρ l.r).off + l.off) l.T.sz).length = l.T.sz := seg_length (by rw [e4.size]; exact e5)
                    refine ⟨(seg arr' ((ρ l.r).off + l.off) l.T.sz)[i - l.off], ?_, v2.one _ (List.getElem_mem _), v2.at_ (i - l.off) v _ hi (by simp)⟩
                    have e := seg_get (arr := arr') (i := (ρ l.r).off + l.off) hlt
                    rw [List.getElem?_eq_getElem (by omega)] at e
                    rw [e]
                    congr 1
                    omega
                  · rw [if_neg hin] at hi
                    obtain ⟨u, y1, y2, y3⟩ := w3 i v hi
                    refine ⟨u, ?_, y2, y3.ext (E.trans E2)⟩
                    rw [e4.same _ (by omega)]
                    exact y1) (by rw [hrc.1]; exact hz) (fun arr0 et0 fr0 hb0 => by
                  rw [hrc.1] at hb0
                  rw [hrc.2, putCs_length]
                  obtain ⟨arr2, et2, y1, y2⟩ := h.keep l.r _ hbox arr0 et0 fr0 hb0
                  rw [e2] at y1
                  cases y1
                  exact ⟨e4.size.trans y2.size, fun i hi => (e4.same i (by omega)).trans (y2.same i hi)⟩)
              refine putP_spec h k2 ((E.trans E2).trans E3) (by simpa using hlen) hl' (fun l' hl' => ?_) hnd.2 hb' d2 (fun b hb => ?_) hp
              · have hne : l'.r ≠ l.r := fun he => hnd.1 (List.mem_map.2 ⟨l', hl', he⟩)
                rw [hget_set (by simp; omega), if_neg hne]
                have hlt : l'.r < H.length := by
                  obtain ⟨j, hj, rfl⟩ := List.getElem_of_mem hl'
                  have hju : j + 1 < (u :: us).length := by simp at hlen ⊢; omega
                  exact Nat.lt_of_lt_of_le (hget_lt (hl (j + 1) ls[j] (u :: us)[j + 1] (by simp [hj]) (by simp at hju ⊢)).1) E.len
                rw [hget_appL hlt]
                exact hn l' (by simp [hl'])
              · have hnb : b ∉ fp' := fun hh => d12 b (List.mem_cons_of_mem _ hh) b hb rfl
                obtain ⟨z1, z2, z3⟩ := hfree2 b (List.mem_cons_of_mem _ hb) hnb
                refine ⟨z1, z2, fun r' o' hr' hb' => ?_⟩
                rw [hget_set (by simp; omega)] at hr'
                split at hr'
                · rename_i he
                  cases hr'
                  subst he
                  have hbe : b = (ρ l.r).b := by simpa [tfp, hrc.1] using hb'
                  exact d12 b (by simp [hbe]) b hb rfl
                · exact z3 r' o' hr' hb'
            · cases hp
          · cases hp
        · cases hp
      · cases hp

/-- The first arguments are variables that are written. -/
theorem ok_callP {f : Operand} {args : Array Operand} {ts : Array TypeId} (τ : Env) (G : Gam) (hG : GOk P G) (h : Inv w0 F0 s a w I ρ) (ho : o.op = .call { callee := .value f, args := args, argTypes := ts })
    {fid : Nat} {caps : List AV} (hfe : Vee.ev Alg.std s f = .clo fid caps) {ms : List Md} {vs : List AV} {ls : List Lent} {H1 : Heap} {ps : List Prop} (htk : takeP Alg.std τ s ms args.toList ts.toList s.H = some (vs, ls, H1, ps))
    {al cs : List AV} {lent : Bool} {ts' : List TypeId} {kn : Bool} (hargs : argsD Alg.std τ kn ⟨s.fr, H1⟩ (args.toList.drop ms.length) ts' = some (al, lent)) (hcaps : capsD Alg.std H1 none caps = some cs) {S : Ret → Prop} (hct : (∀ r, S r → ∀ p ∈ r.pre, p) → CtS P fid (vs ++ (al ++ cs)) S) (hpq : ∀ p ∈ ps, p)
    (hall : ∀ r, S r → ((lent || !caps.all pureV) = true → ownRet r = true) ∧ (∀ p ∈ r.pre, p) ∧ ∃ (H2 : Heap) (ps' : List Prop), putP Alg.std ls r.backs H1 = some H2 ∧ sat (endCall Alg.std s o.dst r.outs ps' H2) (fun _ s' => K s')) : o.wp P a w (Post w0 F0 K) Q := by
  have hfv := h.ev f
  rw [hfe] at hfv
  obtain ⟨fpm, g1, g2, g3, g4, g5, g6, g7, g8, g9, g10, g11, g12⟩ := takeP_spec τ h (fun _ _ h => h) rfl htk hpq
  have h1 : Inv w0 F0 ⟨s.fr, H1⟩ a w I ρ := h.sub g9 (Nat.le_of_eq g10.symm)
  obtain ⟨cvs, hu, hcl, hcc⟩ := hfv.clo_inv
  generalize hL : (lent || !caps.all pureV) = L at hall
  obtain ⟨k1, k2⟩ := front (s := s) h1 τ hargs hcaps hcl (fun i v u hv hu => (hcc i v u hv hu).sub g9 (Nat.le_of_eq g10.symm)) hL
  generalize hum : (args.toList.take ms.length).map a.eval = um at g5 g6
  have huml : um.length = ms.length := by rw [← hum, List.length_map, List.length_take]; omega
  have hfp : ∀ b ∈ fpm.flatten, ¬ I b ∧ b < w.heap.size ∧ (w0.heap.size ≤ b ∨ F0.wr b) ∧ ∀ r' o', hget H1 r' = some o' → b ∉ tfp ρ r' o' := fun b hb => by
    obtain ⟨r1, o1, z1, z2, z3⟩ := g8 b hb
    obtain ⟨q1, q2, q3⟩ := h.sep r1 o1 z1 b z3
    refine ⟨q1, q2, q3, fun r' o' hg' hb' => ?_⟩
    have hne : r1 ≠ r' := by rintro rfl; rw [z2] at hg'; cases hg'
    exact h.disj r1 o1 r' o' hne z1 (g9 _ _ hg') b z3 hb'
  have hcall := CtS.call (vm := vs) (um := um) (fpm := fpm) (w := w) (J := fun b => I b ∨ (L = true ∧ ∃ r o, hget H1 r = some o ∧ b ∈ tfp ρ r o)) (hct fun r hr => (hall r hr).2.1) (by omega) (by omega) (fun i v u hv hu => by
    have := g5 i v u hv hu
    have hi : i < ls.length := by have := (List.getElem?_eq_some_iff.1 hv).1; omega
    obtain ⟨x, rfl⟩ := (g6 i ls[i] v u (by simp [hi]) hv hu).arg
    obtain ⟨b, off, arr, et, fp', y1, y2, y3, y4, y5⟩ := this
    exact ⟨b, off, arr, et, fp', y1, y2, y3, Own.frame (fun _ _ => rfl) (fun b hb => .inl hb) y4 (fun _ _ => rfl), y5⟩) k1 k2 g7 (fun b hb => by
      obtain ⟨q1, q2, q3, q4⟩ := hfp b hb
      exact ⟨fun hh => hh.elim q1 fun ⟨_, r', o', g1, g2⟩ => q4 r' o' g1 g2, q2⟩) h1.lentLt
  refine wp_call ho hu (by rw [← hum, ← List.append_assoc, ← List.map_append, List.take_append_drop]) hcall fun e w' hb => ?_
  obtain ⟨r, hS, hb⟩ := hb
  obtain ⟨hown, _, H2, ps', hput, hs⟩ := hall r hS
  obtain ⟨vs', I2, fps, fpb, rfl, hkk, hout, hbk, hnd, hfree, hII, hI2⟩ := hb.split (I := I) (fun b => Iff.rfl) h.imm hown
  refine ⟨_, rfl, ?_⟩
  have hnI2 : ∀ r o, hget H1 r = some o → ∀ b ∈ tfp ρ r o, ¬ I2 b := fun r o hr b hb hi => by
    have h1 := h.sep r o (g9 _ _ hr) b hb
    rcases (hI2 b hi).2 with hh | hh | hh
    · exact h1.1 hh
    · omega
    · exact (hfp b hh).2.2.2 r o hr hb
  obtain ⟨h2, E⟩ := h.rows (ρ' := ρ) (H' := H1) hkk (fun b hb hf => (hfp b hf).1 hb) (fun b hb _ => (hfp b hb).2.2.1) hII (fun b hb => ⟨(hI2 b hb).1, (hI2 b hb).2.elim (fun q => h.immF b q) (fun q => q.elim (fun q => .inl (Nat.le_trans h.size q)) (fun q => (hfp b q).2.2.1.imp id .inr))⟩) g10 (fun _ => ⟨rfl, rfl, rfl⟩)
    (fun r o hr => .inl ⟨g9 _ _ hr, rfl, fun b hb => ⟨fun hf => (hfp b hf).2.2.2 r o hr hb, hnI2 r o hr b hb⟩⟩) (fun r o r' o' hne hr hr' => h.disj r o r' o' hne (g9 _ _ hr) (g9 _ _ hr'))
  obtain ⟨ρ2, h3, hfr⟩ := putP_spec h h2 E (us := um ++ (List.map a.eval (List.drop ms.length args.toList) ++ cvs)) (by simp; omega) (fun i l u hl hu => by
    have hi : i < ls.length := (List.getElem?_eq_some_iff.1 hl).1
    rw [List.getElem?_append_left (by omega)] at hu
    obtain ⟨y1, y2, _, y4⟩ := g6 i l (vs[i]'(by omega)) u hl (by simp) hu
    exact ⟨y1, y2, y4⟩) (fun l hl => (g11 l hl).1) g12 hbk hnd (fun b hb => by
      obtain ⟨z1, z2⟩ := hfree b hb
      rcases z1 with z1 | z1
      · exact ⟨z2, .inl (Nat.le_trans h.size z1), fun r' o' hr' hb' => absurd (h.sep r' o' (g9 _ _ hr') b hb').2.1 (by omega)⟩
      · have := hfp b z1
        exact ⟨z2, this.2.2.1, this.2.2.2⟩) hput
  rw [List.nodup_append] at hnd
  exact end_ok h3 h.size hout hnd.2.1 hfr hs

/-- A call whose last arguments may be written. -/
theorem CtS.callR {w : World} {J : Nat → Prop} {f : FuncId} {al vm : List AV} {S : Ret → Prop} (hct : CtS P f (al ++ vm) S) {us um : List Value} {fpm : List (List Nat)} (hm : vm.length = um.length) (hfm : fpm.length = vm.length)
    (hvm : ∀ (i : Nat) (v : AV) (u : Value), vm[i]? = some v → um[i]? = some u → ARg w J v u (fpm.getD i [])) (hl : al.length = us.length) (hal : ∀ (i : Nat) (v : AV) (u : Value), al[i]? = some v → us[i]? = some u → AR w J v u)
    (hnd : fpm.flatten.Nodup) (hf : ∀ b ∈ fpm.flatten, ¬ J b ∧ b < w.heap.size) (hJ : ∀ b, J b → b < w.heap.size) : CallN P f (us ++ um).toArray w (fun e w' => ∃ r, S r ∧ Back w J (us ++ um) (fun b => b ∈ fpm.flatten) r e w') := by
  have hfl : (List.replicate al.length ([] : List Nat) ++ fpm).flatten = fpm.flatten := by simp [List.flatten_append]
  have := hct w J (us ++ um) (List.replicate al.length [] ++ fpm) (by simp [hl, hm]) (by simp [hfm]) (fun i v u hv hu => by
    by_cases hi : i < al.length
    · rw [List.getElem?_append_left hi] at hv
      rw [List.getElem?_append_left (by omega)] at hu
      have := (hal i v u hv hu).arg
      rwa [show (List.replicate al.length ([] : List Nat) ++ fpm).getD i [] = [] from by
        simp only [List.getD_eq_getElem?_getD]; rw [List.getElem?_append_left (by simpa using hi)]
        simp [List.getElem?_replicate, hi]]
    · rw [List.getElem?_append_right (by omega)] at hv
      rw [List.getElem?_append_right (by omega), ← hl] at hu
      have := hvm _ v u hv hu
      rwa [show (List.replicate al.length ([] : List Nat) ++ fpm).getD i [] = fpm.getD (i - al.length) [] from by
        simp only [List.getD_eq_getElem?_getD]; rw [List.getElem?_append_right (by simp; omega)]; simp]) (by rw [hfl]; exact hnd) (by rw [hfl]; exact hf) hJ
  rwa [hfl] at this

/-- The last arguments are variables that are written. -/
theorem ok_callR {f : Operand} {args : Array Operand} {ts : Array TypeId} (τ : Env) (G : Gam) (hG : GOk P G) (h : Inv w0 F0 s a w I ρ) (ho : o.op = .call { callee := .value f, args := args, argTypes := ts })
    {fid : Nat} {caps : List AV} (hfe : Vee.ev Alg.std s f = .clo fid caps) {ms : List Md} {vs : List AV} {ls : List Lent} {H1 : Heap} {ps : List Prop} {j : Nat} {ts0 : List TypeId} (htk : takeP Alg.std τ s ms (args.toList.drop j) ts0 s.H = some (vs, ls, H1, ps)) (hcaps0 : caps.length = 0) (hjl : args.toList.length = j + ms.length)
    {al : List AV} {lent : Bool} {ts' : List TypeId} {kn : Bool} (hargs : argsD Alg.std τ kn ⟨s.fr, H1⟩ (args.toList.take j) ts' = some (al, lent)) {S : Ret → Prop} (hct : (∀ r, S r → ∀ p ∈ r.pre, p) → CtS P fid (al ++ vs) S) (hpq : ∀ p ∈ ps, p)
    (hall : ∀ r, S r → (lent = true → ownRet r = true) ∧ (r.backs.take j).all gone = true ∧ (∀ p ∈ r.pre, p) ∧ ∃ (H2 : Heap) (ps' : List Prop), putP Alg.std ls (r.backs.drop j) H1 = some H2 ∧ sat (endCall Alg.std s o.dst r.outs ps' H2) (fun _ s' => K s')) : o.wp P a w (Post w0 F0 K) Q := by
  have hfv := h.ev f
  rw [hfe] at hfv
  obtain ⟨fpm, g1, g2, g3, g4, g5, g6, g7, g8, g9, g10, g11, g12⟩ := takeP_spec τ h (fun _ _ h => h) rfl htk hpq
  have h1 : Inv w0 F0 ⟨s.fr, H1⟩ a w I ρ := h.sub g9 (Nat.le_of_eq g10.symm)
  obtain ⟨cvs, hu, hcl, hcc⟩ := hfv.clo_inv
  obtain rfl : caps = [] := List.eq_nil_of_length_eq_zero hcaps0
  obtain rfl : cvs = [] := List.eq_nil_of_length_eq_zero (by simpa using hcl.symm)
  generalize hL : (lent || !([] : List AV).all pureV) = L
  obtain ⟨k1, k2⟩ := front (s := s) (caps := []) (cs := []) (cvs := []) h1 τ hargs rfl rfl (by simp) hL
  simp only [List.append_nil] at k1 k2
  generalize hum : ((args.toList.drop j).take ms.length).map a.eval = um at g5 g6
  have huml : um.length = ms.length := by rw [← hum, List.length_map, List.length_take, List.length_drop]; omega
  have hual : ((args.toList.take j).map a.eval).length = j := by rw [List.length_map, List.length_take]; omega
  have hfp : ∀ b ∈ fpm.flatten, ¬ I b ∧ b < w.heap.size ∧ (w0.heap.size ≤ b ∨ F0.wr b) ∧ ∀ r' o', hget H1 r' = some o' → b ∉ tfp ρ r' o' := fun b hb => by
    obtain ⟨r1, o1, z1, z2, z3⟩ := g8 b hb
    obtain ⟨q1, q2, q3⟩ := h.sep r1 o1 z1 b z3
    refine ⟨q1, q2, q3, fun r' o' hg' hb' => ?_⟩
    have hne : r1 ≠ r' := by rintro rfl; rw [z2] at hg'; cases hg'
    exact h.disj r1 o1 r' o' hne z1 (g9 _ _ hg') b z3 hb'
  have hcall := CtS.callR (al := al) (vm := vs) (us := (args.toList.take j).map a.eval) (um := um) (fpm := fpm) (w := w) (J := fun b => I b ∨ (L = true ∧ ∃ r o, hget H1 r = some o ∧ b ∈ tfp ρ r o)) (hct fun r hr => (hall r hr).2.2.1) (by omega) (by omega) (fun i v u hv hu => by
    have := g5 i v u hv hu
    have hi : i < ls.length := by have := (List.getElem?_eq_some_iff.1 hv).1; omega
    obtain ⟨x, rfl⟩ := (g6 i ls[i] v u (by simp [hi]) hv hu).arg
    obtain ⟨b, off, arr, et, fp', y1, y2, y3, y4, y5⟩ := this
    exact ⟨b, off, arr, et, fp', y1, y2, y3, Own.frame (fun _ _ => rfl) (fun b hb => .inl hb) y4 (fun _ _ => rfl), y5⟩) k1 k2 g7 (fun b hb => by
      obtain ⟨q1, q2, q3, q4⟩ := hfp b hb
      exact ⟨fun hh => hh.elim q1 fun ⟨_, r', o', g1, g2⟩ => q4 r' o' g1 g2, q2⟩) h1.lentLt
  refine wp_call ho hu (by rw [← hum, List.append_nil, ← List.map_append, List.take_of_length_le (l := args.toList.drop j) (by rw [List.length_drop]; omega), List.take_append_drop]) hcall fun e w' hb => ?_
  obtain ⟨r, hS, hb⟩ := hb
  obtain ⟨hown, hgone, _, H2, ps', hput, hs⟩ := hall r hS
  have hown' : L = true → ownRet r = true := fun hh => hown (by rw [← hL] at hh; simpa using hh)
  obtain ⟨vs', I2, fps, fpb, rfl, hkk, hout, hbk, hnd, hfree, hII, hI2⟩ := hb.split (I := I) (fun b => Iff.rfl) h.imm hown'
  refine ⟨_, rfl, ?_⟩
  have hnI2 : ∀ r o, hget H1 r = some o → ∀ b ∈ tfp ρ r o, ¬ I2 b := fun r o hr b hb hi => by
    have h1 := h.sep r o (g9 _ _ hr) b hb
    rcases (hI2 b hi).2 with hh | hh | hh
    · exact h1.1 hh
    · omega
    · exact (hfp b hh).2.2.2 r o hr hb
  obtain ⟨h2, E⟩ := h.rows (ρ' := ρ) (H' := H1) hkk (fun b hb hf => (hfp b hf).1 hb) (fun b hb _ => (hfp b hb).2.2.1) hII (fun b hb => ⟨(hI2 b hb).1, (hI2 b hb).2.elim (fun q => h.immF b q) (fun q => q.elim (fun q => .inl (Nat.le_trans h.size q)) (fun q => (hfp b q).2.2.1.imp id .inr))⟩) g10 (fun _ => ⟨rfl, rfl, rfl⟩)
    (fun r o hr => .inl ⟨g9 _ _ hr, rfl, fun b hb => ⟨fun hf => (hfp b hf).2.2.2 r o hr hb, hnI2 r o hr b hb⟩⟩) (fun r o r' o' hne hr hr' => h.disj r o r' o' hne (g9 _ _ hr) (g9 _ _ hr'))
  have hfd : fpb.flatten = (fpb.take j).flatten ++ (fpb.drop j).flatten := by rw [← List.flatten_append, List.take_append_drop]
  have hbk2 : Backs w w' I2 (r.backs.drop j) um (fpb.drop j) := ⟨by simp [hbk.fl], fun i v u hv hu => by
    have := hbk.at_ (j + i) v u (by simpa using hv) (by rw [List.getElem?_append_right (by omega), hual, Nat.add_sub_cancel_left]; exact hu)
    simpa [List.getD_eq_getElem?_getD] using this⟩
  have hnd2 : ((fpb.drop j).flatten ++ fps.flatten).Nodup := by
    rw [hfd, List.append_assoc, List.nodup_append] at hnd
    exact hnd.2.1
  obtain ⟨ρ2, h3, hfr⟩ := putP_spec h h2 E (us := um) (by omega) (fun i l u hl hu => by
    have hi : i < ls.length := (List.getElem?_eq_some_iff.1 hl).1
    obtain ⟨y1, y2, _, y4⟩ := g6 i l (vs[i]'(by omega)) u hl (by simp) hu
    exact ⟨y1, y2, y4⟩) (fun l hl => (g11 l hl).1) g12 hbk2 hnd2 (fun b hb => by
      obtain ⟨z1, z2⟩ := hfree b (by
        rcases List.mem_append.1 hb with hb | hb
        · rw [hfd]; simp only [List.mem_append]; exact .inl (.inr hb)
        · exact List.mem_append_right _ hb)
      rcases z1 with z1 | z1
      · exact ⟨z2, .inl (Nat.le_trans h.size z1), fun r' o' hr' hb' => absurd (h.sep r' o' (g9 _ _ hr') b hb').2.1 (by omega)⟩
      · have := hfp b z1
        exact ⟨z2, this.2.2.1, this.2.2.2⟩) hput
  rw [List.nodup_append] at hnd2
  exact end_ok h3 h.size hout hnd2.2.1 hfr hs

theorem sat_hyps : ∀ {ps : List Prop} {t : Tr} {Q : Ex → St → Prop}, sat (hyps ps t) Q → (∀ p ∈ ps, p) → sat t Q
  | [], _, _, h, _ => h
  | p :: ps, t, Q, h, k => sat_hyps (ps := ps) (h (k p (by simp))) fun q hq => k q (by simp [hq])
/-- What a caller goes on with. -/
theorem exG_spec {q : Bool} {x : Option RX} {k : Ret → Tr} {Q : Ex → St → Prop} {f : FuncId} {al : List AV} (hx : ∀ y, x = some y → CtX P f al y) (hs : sat (exG q x k) Q) : ∃ S : Ret → Prop, ((∀ r, S r → ∀ p ∈ r.pre, p) → CtS P f al S) ∧ ∀ r, S r → sat (k r) Q := by
  cases x with
  | none => exact hs.elim
  | some x =>
    have h := hx x rfl
    cases x with
    | one r => exact ⟨fun r' => r' = r, fun hp => Ct.to h (hp r rfl), fun r' e => by rw [e]; exact hs⟩
    | any t pre p r =>
      simp only [exG] at hs
      split at hs
      · exact hs.elim
      · obtain ⟨h1, h2⟩ := sat_needs.1 hs
        exact ⟨_, fun _ => h h1, fun r' ⟨y, hy, e⟩ => by rw [e]; exact sat_hyps (h2 y) hy⟩

theorem ok_call {f : Operand} {args : Array Operand} {ts : Array TypeId} (τ : Env) (G : Gam) (hG : GOk P G) (h : Inv w0 F0 s a w I ρ) (ho : o.op = .call { callee := .value f, args := args, argTypes := ts }) (hs : sat (stepOp Alg.std τ G o s) (fun _ s' => K s')) :
    o.wp P a w (Post w0 F0 K) Q := by
  simp only [stepOp, ho] at hs
  unfold callOp at hs
  split at hs
  · rename_i fid caps hfe
    split at hs
    · split at hs
      · rename_i al lent cs hargs hcaps
        obtain ⟨S, hct, hall⟩ := exG_spec (hG fid _) hs
        refine ok_callD τ G hG h ho hfe hargs hcaps hct fun r hr => ?_
        have hs := hall r hr
        split at hs
        · exact hs.elim
        · rename_i hlent
          split at hs
          · exact hs.elim
          exact ⟨fun hh => by simpa [hh] using hlent, hs⟩
      · exact hs.elim
    · rename_i m ms hmu
      split at hs
      · exact hs.elim
      split at hs
      · rename_i j hj
        split at hs
        · rename_i vs ls H1 ps htk
          split at hs
          · rename_i al lent hargs
            split at hs
            · rename_i hcond
              obtain ⟨hpq, hs⟩ := sat_needs.1 hs
              obtain ⟨S, hct, hall⟩ := exG_spec (hG fid _) hs
              refine ok_callR τ G hG h ho hfe htk hcond.1 (by rw [hcond.2]; rfl) hargs hct hpq fun r hr => ?_
              have hs := hall r hr
              split at hs
              · exact hs.elim
              · rename_i hlent
                split at hs
                · rename_i hgone
                  split at hs
                  · rename_i H2 hput
                    exact ⟨fun hh => by simpa [hh] using hlent, hgone, end_pre hs, H2, _, hput, hs⟩
                  · exact hs.elim
                · exact hs.elim
            · exact hs.elim
          · exact hs.elim
        · exact hs.elim
      split at hs
      · rename_i o1 os t1 ts1 hos hts
        split at hs
        · rename_i T hT
          split at hs
          · split at hs
            · rename_i e r ver st p lo n hev
              split at hs
              · rename_i e0 m0 xs v m1 y hrow hrd
                split at hs
                · rename_i y2 hc
                  obtain ⟨e1, e2⟩ := castD_some hc
                  subst e1
                  subst e2
                  split at hs
                  · rename_i al lent cs hargs hcaps
                    split at hs
                    · rename_i hcd
                      obtain ⟨rfl, rfl, c3⟩ := hcd
                      obtain ⟨hn, hs⟩ := hs
                      obtain ⟨S, hct, hall⟩ := exG_spec (hG fid _) hs
                      refine ok_callN τ G hG h ho hos hfe hev hrow hrd hn hargs hcaps hct c3 fun ret hr => ?_
                      have hs := hall ret hr
                      split at hs
                      · rename_i hcond
                        obtain ⟨c4, c5⟩ := hcond
                        split at hs
                        · rename_i b bs hbs
                          split at hs
                          · rename_i hmv
                            split at hs
                            · rename_i y' hy'
                              have := backOf_mv hmv hy'
                              subst this
                              split at hs
                              · rename_i ys hset
                                exact ⟨c4, c5, end_pre hs, _, _, _, _, hbs, hset, hs⟩
                              · exact hs.elim
                            · exact hs.elim
                          · exact hs.elim
                        · exact hs.elim
                      · exact hs.elim
                    · exact hs.elim
                  · exact hs.elim
                · exact hs.elim
              · exact hs.elim
            · split at hs
              · rename_i k hk
                split at hs
                · rename_i al lent cs hargs hcaps
                  obtain ⟨hkq, hs⟩ := sat_needs.1 hs
                  obtain ⟨S, hct, hall⟩ := exG_spec (hG fid _) hs
                  refine ok_callV τ G hG h ho hos hfe hk hargs hcaps hct hkq fun ret hr => ?_
                  have hs := hall ret hr
                  split at hs
                  · exact hs.elim
                  · rename_i hlent
                    refine ⟨fun hh => by simpa [hh] using hlent, ?_⟩
                    split at hs
                    · rename_i b bs hbs
                      split at hs
                      · exact ⟨end_pre hs, _, [], _, by simp, .inl rfl, hs⟩
                      · split at hs
                        · rename_i hmv
                          split at hs
                          · rename_i x hx
                            have := backOf_mv hmv hx
                            subst this
                            split at hs
                            · rename_i l' H' ps hput
                              have hpre := end_pre hs
                              exact ⟨fun p hp => hpre p (by simp [hp]), _, ps, _, fun p hp => hpre p (by simp [hp]), .inr ⟨_, _, _, _, hbs, rfl, hput⟩, hs⟩
                            · exact hs.elim
                          · exact hs.elim
                        · exact hs.elim
                    · exact ⟨end_pre hs, _, [], _, by simp, .inl rfl, hs⟩
                · exact hs.elim
              · exact hs.elim
          · exact hs.elim
        · split at hs
          · rename_i vs ls H1 ps htk
            split at hs
            · rename_i al lent cs hargs hcaps
              obtain ⟨hpq, hs⟩ := sat_needs.1 hs
              obtain ⟨S, hct, hall⟩ := exG_spec (hG fid _) hs
              rw [← hos, ← hts] at htk
              rw [← hos] at hargs
              refine ok_callP τ G hG h ho hfe htk hargs hcaps hct hpq fun r hr => ?_
              have hs := hall r hr
              split at hs
              · exact hs.elim
              · rename_i hlent
                split at hs
                · rename_i H2 hput
                  exact ⟨fun hh => by simpa [hh] using hlent, end_pre hs, H2, _, hput, hs⟩
                · exact hs.elim
            · exact hs.elim
          · exact hs.elim
      · exact hs.elim
  · exact hs.elim

end
end Go.Vee

