import Derived.Test.YtcdlgemhmmkneaaVH14
set_option linter.unusedSimpArgs false
set_option linter.unusedVariables false
namespace Go.Vee
open Go

section
variable {P : Program} {w0 w : World} {F0 : Bnd} {s : St} {a : Act} {I : Nat → Prop} {ρ : Nat → RC} {H : Heap} {o : Oper} {K : St → Prop} {Q : Exit → Act → World → Prop}

theorem seg_of_take {arr : Array Value} {cells : List Value} {i n : Nat} (ht : arr.toList.take cells.length = cells) (h : i + n ≤ cells.length) : seg arr i n = (cells.drop i).take n := by
  have : (cells.drop i).take n = ((arr.toList.take cells.length).drop i).take n := by rw [ht]
  rw [this, List.drop_take, List.take_take]
  simp only [seg]
  congr 1
  omega

/-- A block that was a root's, written and made a row. -/
theorem ok_rowIn {H' : Heap} {e : Ty} {m : Md} {xs : List e.den} {cells : List Value} {fps : List (List Nat)} {et : TypeId} {c g r : Nat} {cur arr1 : Array Value} {o' : Root} (h : Inv w0 F0 s a w I ρ)
    (hp : PackedL w I ρ s.H H' e m xs cells fps) (hg : w.heap[g]? = some (.cells cur et (0, 0))) (hr : hget s.H r = some o') (hr' : hget H' r = none) (hgr : g ∈ tfp ρ r o') (hgf : g ∉ fps.flatten)
    (hc : xs.length ≤ c) (hcm : c ≤ maxLen) (hsz : arr1.size = c * e.sz) (ht : arr1.toList.take cells.length = cells)
    (hrun : (execOp a.eval o).run P w = .ok (.value (.slice (some ⟨g, 0, none⟩) xs.length c)) (w.setRow g arr1))
    (hs : sat (doneH s (H' ++ [some (.row 0 e m xs)]) o.dst (.ref e H'.length 0 [] 0 xs.length)) (fun _ s' => K s')) : o.wp P a w (Post w0 F0 K) Q := by
  have hnb : (w.setRow g arr1).heap[g]? = some (.cells arr1 et (0, 0)) := setRow_heap w g cur _ et _ hg
  have hsep := h.sep r _ hr g hgr
  have hown : Own (w.setRow g arr1) I (.sl e) (.ow m) [.slice (some ⟨g, 0, none⟩) xs.length c] xs (g :: fps.flatten) := by
    refine ⟨by simp only [maxLen] at hcm; omega, .inr ⟨g, c, arr1, et, fps, rfl, hnb, hc, hcm, hsz, hp.fl, rfl, fun j hj => ?_⟩⟩
    have hle : j * e.sz + e.sz ≤ cells.length := by
      rw [hp.len]
      have : (j + 1) * e.sz ≤ xs.length * e.sz := Nat.mul_le_mul_right _ hj
      rwa [Nat.add_mul, Nat.one_mul] at this
    rw [seg_of_take ht hle]
    exact Own.frame (fun b hb => setRow_other w _ _ _ (fun hh => hsep.1 (by rw [← hh]; exact hb))) (fun _ h => h) (hp.own j hj) fun b hb => setRow_other w _ _ _ (fun hh => hgf (by rw [← hh]; exact mem_flatten_getD.2 ⟨j, hb⟩))
  obtain ⟨ρ', h1, h2⟩ := h.newRow hp.sub hp.hl e m xs _ _ (Keeps.setRow w g arr1 _ (by simp)) hown (by rw [List.nodup_cons]; exact ⟨hgf, hp.nd⟩) (fun b hb => by
      rcases List.mem_cons.1 hb with rfl | hb
      · exact .inr ⟨r, o', hr, hr', hgr⟩
      · exact .inr (hp.src b hb))
  exact wp_val hrun ⟨_, I, ρ', h1.put h2 o.dst, hs⟩

/-- Nothing made: nil stays. -/
theorem ok_rowNil {H' : Heap} {e : Ty} {m : Md} (h : Inv w0 F0 s a w I ρ) (hsub : ∀ r o, hget H' r = some o → hget s.H r = some o) (hlen : H'.length = s.H.length)
    (hrun : (execOp a.eval o).run P w = .ok (.value (.slice none 0 0)) w)
    (hs : sat (doneH s (H' ++ [some (.row 0 e m [])]) o.dst (.ref e H'.length 0 [] 0 0)) (fun _ s' => K s')) : o.wp P a w (Post w0 F0 K) Q := by
  obtain ⟨ρ', h1, h2⟩ := h.newRow hsub hlen e m [] (.slice none 0 0) [] (Keeps.refl _ _) ⟨Nat.zero_le _, .inl ⟨rfl, rfl, rfl⟩⟩ (by simp) (by simp)
  exact wp_val hrun ⟨_, I, ρ', h1.put h2 o.dst, hs⟩

theorem grown_ok {w : World} {need old : Nat} {eid : TypeId} (h : need ≤ maxLen) : need ≤ grownCap w need old eid ∧ grownCap w need old eid ≤ maxLen := ⟨grownCap_ge w need old eid, grownCap_le_maxLen w need old eid h⟩

theorem exec_append {x y : Operand} {t t2 : TypeId} (ho : o.op = .call { callee := .builtin .append, args := #[x, y], argTypes := #[t, t2] }) {v : Value} {w' : World}
    (hr : (Builtin.append_ #[t, t2] o.type #[a.eval x, a.eval y]).run P w = .ok v w') : (execOp a.eval o).run P w = .ok (.value v) w' := by
  obtain ⟨bc, hbc⟩ := exec_builtin (P := P) (a := a) ho
  rw [hbc]
  simp [builtin, hr]

theorem ok_append {x y : Operand} {t t2 : TypeId} (τ : Env) (G : Gam) (hE : EnvOk P τ) (h : Inv w0 F0 s a w I ρ) (ho : o.op = .call { callee := .builtin .append, args := #[x, y], argTypes := #[t, t2] }) (hs : sat (stepOp Alg.std τ G o s) (fun _ s' => K s')) :
    o.wp P a w (Post w0 F0 K) Q := by
  have key : ∀ e, τ.ty t = some (.sl e) → noInt P t2 → sat (appOp Alg.std s o.dst e (Vee.ev Alg.std s y) (Vee.ev Alg.std s x)) (fun _ s' => K s') → o.wp P a w (Post w0 F0 K) Q := by
    intro e hT h2 hs
    obtain ⟨eid, hun, hF, hsz⟩ := TyF.sl (hE.ty t _ hT)
    obtain ⟨i, hi, hi1, hi2, hi3⟩ := (TyF.base hF).info
    have hz := mkV_cells (zeroCs_length e) (VRs.zero (w := w) (I := I) (ρ := ρ) (H := s.H) e).one
    have hzl : (mkV e (zeroCs e)).cells.size = e.sz := by rw [hz]; simpa using zeroCs_length e
    have hb8 := bnd_pos hsz
    have hx := h.ev x
    have hy := h.ev y
    unfold appOp at hs
    split at hs
    · rename_i hxe
      rw [hxe] at hx
      split at hs
      · rename_i m ys H' pp hsrc
        rw [sat_needs] at hs
        obtain ⟨hq, ⟨hroom, hs⟩⟩ := hs
        have hroom' : List.length ys * e.bnd ≤ 140737488355328 := hroom
        obtain ⟨cells, fps, pk, src⟩ := srcM_spec (P := P) h hy hsrc hq
        have hxu : a.eval x = .slice none 0 0 := by cases hu : a.eval x <;> rw [hu] at hx <;> cases hx; rfl
        by_cases h0 : ys.length = 0
        · have : ys = [] := List.eq_nil_of_length_eq_zero h0
          subst this
          rw [← hi1] at src
          refine ok_rowNil (e := e) (m := m) h pk.sub pk.hl (exec_append ho (by rw [hxu]; exact run_append_nil0 hun h2 hi src)) ?_
          rw [pk.hl]
          rw [pk.hl] at hs
          exact hs
        · have hlb : List.length ys * 8 ≤ List.length ys * e.bnd := Nat.mul_le_mul_left _ hb8
          have hbb : List.length ys * i.bytes ≤ List.length ys * e.bnd := Nat.mul_le_mul_left _ hi3
          have hml : List.length ys ≤ maxLen := by simp only [maxLen]; omega
          have hr := run_append_up (t := t) (t2 := t2) (ty := o.type) hun h2 hi hi2 hi1 (B := none) (sLen := 0) (sCap := 0) (olds := []) (by simp [Builtin.firstCells]) src (by omega) (by omega) (by rw [Nat.zero_add]; omega)
          rw [Nat.zero_add] at hr
          simp only [List.nil_append] at hr
          obtain ⟨g1, g2⟩ := grown_ok (w := w) (old := 0) (eid := eid) hml
          refine ok_newRow (w1 := w.drew) (et := eid) h pk (Keeps.drew _ _) rfl g1 g2 ?_ (exec_append ho (by rw [hxu]; exact hr)) ?_
          · simp only [List.length_append, pk.len, Array.length_toList, size_zeroCs, hzl, ← Nat.add_mul]
            congr 1
            omega
          · rw [pk.hl]
            rw [pk.hl] at hs
            exact hs
      · exact hs.elim
    · rename_i e1 r ver n hxe
      rw [hxe] at hx
      split at hs
      · rename_i v0 e' m0 xs0 hr0
        split at hs
        · rename_i xs m' ys H' pp hcast hsrc
          obtain ⟨e1', e2⟩ := castD_some hcast
          cases e1'
          subst e2
          split at hs
          · rename_i mj o1 hj hr1
            rw [sat_needs] at hs
            obtain ⟨hq, ⟨hn, ⟨hroom, hs⟩⟩⟩ := hs
            have hn' : n = List.length xs0 := hn
            subst hn'
            have hroom' : (List.length xs0 + List.length ys) * e.bnd ≤ 140737488355328 := hroom
            obtain ⟨cells, fps, pk, src⟩ := srcM_spec (P := P) h hy hsrc hq
            have hI' := h.sub pk.sub (Nat.le_of_eq pk.hl.symm)
            have hr1' := pk.sub _ _ hr1
            rw [hr0] at hr1'
            cases hr1'
            obtain ⟨j1, j2⟩ := joinM_some hj
            have hml : List.length xs0 + List.length ys ≤ maxLen := by
              have : (List.length xs0 + List.length ys) * 8 ≤ (List.length xs0 + List.length ys) * e.bnd := Nat.mul_le_mul_left _ hb8
              simp only [maxLen]
              omega
            have hbb : (List.length xs0 + List.length ys) * i.bytes ≤ (List.length xs0 + List.length ys) * e.bnd := Nat.mul_le_mul_left _ hi3
            have hsetlen : (List.set H' r none).length = s.H.length := by rw [List.length_set, pk.hl]
            have hrn : hget (List.set H' r none) r = none := by rw [hget_set_none, if_pos rfl]
            have hlen : (xs0 ++ ys).length = List.length xs0 + List.length ys := List.length_append
            cases hu : a.eval x <;> rw [hu] at hx <;> cases hx
            rename_i A c hrl hnn hnc hc
            obtain ⟨_, hw⟩ := hc _ _ _ _ hr0
            obtain ⟨B, c0, len, l', hw, q1, q2, q3⟩ := hw (.inl rfl)
            have hhdr : (ρ r).hdr = .slice B len c0 := by simp [walk] at hw; exact hw.2.1
            rcases row_parts hI'.rootsOf hr1 with ⟨hh, rfl, hf, pk0⟩ | ⟨g, c2, cur, et, fx, hh, hg, h1, h2', h3, h4, h5, pk0⟩
            · rw [hhdr] at hh
              simp only [Value.slice.injEq] at hh
              obtain ⟨rfl, rfl, rfl⟩ := hh
              obtain ⟨rfl, rfl⟩ := q3 ⟨rfl, rfl⟩
              have pk2 := PackedL.append h.rootsOf (fun _ _ h => h) (pk0.cast j1) (pk.cast j2)
              by_cases h0 : ys.length = 0
              · have : ys = [] := List.eq_nil_of_length_eq_zero h0
                subst this
                rw [← hi1] at src
                refine ok_rowNil (e := e) (m := mj) h pk2.sub pk2.hl (exec_append ho (by rw [hu]; exact run_append_nil0 hun h2 hi src)) ?_
                rw [hsetlen]
                have hl2 := pk.hl
                rw [hl2] at hs
                exact hs
              · have hr := run_append_up (t := t) (t2 := t2) (ty := o.type) hun h2 hi hi2 hi1 (B := none) (sLen := 0) (sCap := 0) (olds := []) (by simp [Builtin.firstCells]) src (by omega) (by simp only [maxLen] at hml; simpa using hml) (by simp only [List.length_nil] at hbb hroom'; omega)
                simp only [List.length_nil] at hml
                obtain ⟨g1, g2⟩ := grown_ok (w := w) (old := 0) (eid := eid) hml
                refine ok_newRow (w1 := w.drew) (et := eid) (c := grownCap w (0 + List.length ys) 0 eid) (rest := (Builtin.zeroCells (mkV e (zeroCs e)).cells (grownCap w (0 + List.length ys) 0 eid - (0 + List.length ys))).toList) h pk2 (Keeps.drew _ _) rfl (by rw [hlen]; exact g1) g2 ?_ (exec_append ho (by rw [hu, hlen]; exact hr)) ?_
                · simp only [List.length_append, pk2.len, List.nil_append, pk.len, Array.length_toList, size_zeroCs, hzl, ← Nat.add_mul]
                  congr 1
                  omega
                · rw [hsetlen]
                  have hl2 := pk.hl
                  rw [hl2] at hs
                  rw [hlen]
                  exact hs
            · rw [hhdr] at hh
              simp only [Value.slice.injEq] at hh
              obtain ⟨rfl, rfl, rfl⟩ := hh
              obtain ⟨rfl, rfl⟩ := q3 ⟨rfl, rfl⟩
              have pk2 := PackedL.append h.rootsOf (fun _ _ h => h) (pk0.cast j1) (pk.cast j2)
              have hcx : (cur.toList.take (List.length xs0 * e.sz)).length = List.length xs0 * e.sz := by
                have : List.length xs0 * e.sz ≤ cur.size := by rw [h3]; exact Nat.mul_le_mul_right _ h1
                simp; omega
              by_cases hfit : List.length xs0 + List.length ys ≤ c
              · have hin : List.length xs0 * e.sz + cells.length ≤ cur.size := by rw [pk.len, h3, ← Nat.add_mul]; exact Nat.mul_le_mul_right _ hfit
                have hr := run_append_in (t := t) (t2 := t2) (ty := o.type) hun h2 hi hi1 hg src pk.one hfit hin
                refine ok_rowIn (g := g) (r := r) h pk2 hg hr0 hrn (by simp [tfp, h4]) (fun hh => ?_) (by rw [hlen]; exact hfit) h2' (by rw [lay_size hin, h3]) ?_ (exec_append ho (by rw [hu, hlen]; exact hr)) ?_
                · rw [List.flatten_append] at hh
                  rcases List.mem_append.1 hh with hh | hh
                  · exact h5 hh
                  · obtain ⟨r', o', k1, k2, k3⟩ := pk.src g hh
                    have hne : r' ≠ r := by rintro rfl; rw [k2] at hr1; cases hr1
                    exact h.disj r' o' r _ hne k1 hr0 g k3 (by simp [tfp, h4])
                · simp only [lay]
                  rw [show (cur.toList.take (List.length xs0 * e.sz) ++ cells).length = List.length xs0 * e.sz + cells.length by rw [List.length_append, hcx]]
                  have : (cur.toList.take (List.length xs0 * e.sz) ++ cells).length = List.length xs0 * e.sz + cells.length := by rw [List.length_append, hcx]
                  rw [← this]
                  exact List.take_left
                · rw [hsetlen]
                  have hl2 := pk.hl
                  rw [hl2] at hs
                  rw [hlen]
                  exact hs
              · have hold := (Src.block (P := P) (w := w) (size := e.sz) (n := List.length xs0) (c := c) (off := 0) hg (by rw [h3, Nat.zero_add]; exact Nat.mul_le_mul_right _ h1)).drew
                have hsg : seg cur 0 (List.length xs0 * e.sz) = cur.toList.take (List.length xs0 * e.sz) := by simp [seg]
                rw [hsg] at hold
                have hr := run_append_up (t := t) (t2 := t2) (ty := o.type) hun h2 hi hi2 hi1 hold src (by omega) (by simp only [maxLen] at hml; omega) (by omega)
                obtain ⟨g1, g2⟩ := grown_ok (w := w) (old := c) (eid := eid) hml
                refine ok_newRow (w1 := w.drew) (et := eid) h pk2 (Keeps.drew _ _) rfl (by rw [hlen]; exact g1) g2 ?_ (exec_append ho (by rw [hu, hlen]; exact hr)) ?_
                · simp only [List.length_append, hcx, pk.len, Array.length_toList, size_zeroCs, hzl, ← Nat.add_mul]
                  congr 1
                  omega
                · rw [hsetlen]
                  have hl2 := pk.hl
                  rw [hl2] at hs
                  rw [hlen]
                  exact hs
          · exact hs.elim
        · exact hs.elim
      · exact hs.elim
    · exact hs.elim
  simp only [stepOp, ho] at hs
  split at hs
  · rename_i e e2 hT hT2
    obtain ⟨eid2, hun2, _⟩ := TyF.sl (hE.ty t2 _ hT2)
    exact key e hT (.inr ⟨_, hun2⟩) hs
  · rename_i e hT hT2
    exact key e hT (.inl (hE.ty t2 _ hT2).2) hs
  · exact hs.elim

end
end Go.Vee
