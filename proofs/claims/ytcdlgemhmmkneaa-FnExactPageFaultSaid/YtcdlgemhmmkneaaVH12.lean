import Derived.Test.YtcdlgemhmmkneaaVH11
set_option linter.unusedSimpArgs false
set_option linter.unusedVariables false
namespace Go.Vee
open Go

theorem putA_pre {α : Type} : ∀ (c pre rest : List α), c.length ≤ rest.length → putA (pre ++ rest) pre.length c = pre ++ c ++ rest.drop c.length
  | [], pre, rest, _ => by simp [putA]
  | x :: c, pre, [], h => by simp at h
  | x :: c, pre, y :: rest, h => by
    simp only [putA]
    have : (pre ++ y :: rest).set pre.length x = (pre ++ [x]) ++ rest := by simp
    rw [this]
    have := putA_pre c (pre ++ [x]) rest (by simpa using h)
    simp only [List.length_append, List.length_cons, List.length_nil, Nat.zero_add] at this
    rw [this]
    simp

theorem fill_all {size : Nat} : ∀ (vals : List Value) (cs : List (List Value)) (k : Nat) (pre rest : List Value), vals.map (·.cells) = cs.map (·.toArray) → (∀ c ∈ cs, c.length = size) → pre.length = k * size → rest.length = cs.length * size →
    Instr.fill (fun i => some (i * size, size)) (pre ++ rest).toArray ((List.range' k cs.length).zip vals) = some (pre ++ cs.flatten).toArray
  | [], [], k, pre, rest, _, _, _, hr => by
    have : rest = [] := List.eq_nil_of_length_eq_zero (by simpa using hr)
    simp [Instr.fill, this]
  | [], _ :: _, _, _, _, h, _, _, _ => by simp at h
  | _ :: _, [], _, _, _, h, _, _, _ => by simp at h
  | v :: vals, c :: cs, k, pre, rest, h, hc, hp, hr => by
    simp only [List.map_cons, List.cons.injEq] at h
    have hcl := hc c (by simp)
    have hrl : rest.length = size + cs.length * size := by rw [hr]; simp [Nat.add_mul, Nat.add_comm]
    simp only [List.length_cons, List.range'_succ, List.zip_cons_cons, Instr.fill, h.1]
    have e1 : ¬ (c.toArray.size ≠ size || k * size + c.toArray.size > (pre ++ rest).toArray.size) = true := by simp [hcl, hp, hrl]
    rw [if_neg e1]
    have hf := fold_put (k * size) c 0 (pre ++ rest)
    rw [← Array.foldl_toList, Array.toList_zipIdx]
    have e2 : ((pre ++ rest).toArray.toList) = pre ++ rest := by simp
    simp only [Nat.add_zero] at hf
    have e3 : putA (pre ++ rest) (k * size) c = (pre ++ c) ++ rest.drop c.length := by
      rw [← hp]; exact putA_pre c pre rest (by omega)
    rw [e3] at hf
    rw [hf]
    have := fill_all vals cs (k + 1) (pre ++ c) (rest.drop c.length) h.2 (fun x hx => hc x (by simp [hx])) (by simp [hp, hcl, Nat.add_mul]) (by simp [hrl, hcl])
    rw [this]
    simp

theorem bnd_pos : ∀ {t : Ty}, 0 < t.sz → 8 ≤ t.bnd
  | .int _, _ => by simp [Ty.bnd]
  | .bool, _ => by simp [Ty.bnd]
  | .str, _ => by simp [Ty.bnd]
  | .sl _, _ => by simp [Ty.bnd]
  | .unit, h => by simp [Ty.sz] at h
  | .pair a b, h => by
    simp only [Ty.sz] at h
    simp only [Ty.bnd]
    rcases Nat.eq_zero_or_pos a.sz with h0 | h0
    · have := bnd_pos (t := b) (by omega); omega
    · have := bnd_pos h0; omega

section
variable {P : Program} {w0 w : World} {F0 : Bnd} {s : St} {a : Act} {I : Nat → Prop} {ρ : Nat → RC} {H : Heap} {o : Oper} {K : St → Prop} {Q : Exit → Act → World → Prop}

theorem seg_list {cells : List Value} {i n : Nat} : seg cells.toArray i n = (cells.drop i).take n := by simp [seg]

theorem seg_append_left {l k : List Value} {i n : Nat} (h : i + n ≤ l.length) : seg (l ++ k).toArray i n = (l.drop i).take n := by
  simp only [seg]
  rw [List.drop_append_of_le_length (by omega), List.take_append_of_le_length (by simp; omega)]

/-- A new block made a row. -/
theorem ok_newRow {H' : Heap} {e : Ty} {m : Md} {xs : List e.den} {cells : List Value} {fps : List (List Nat)} {w1 : World} {rest : List Value} {et : TypeId} {c : Nat} (h : Inv w0 F0 s a w I ρ)
    (hp : PackedL w I ρ s.H H' e m xs cells fps) (hw1 : Keeps (fun _ => False) w w1) (hsz : w1.heap.size = w.heap.size)
    (hc : xs.length ≤ c) (hcm : c ≤ maxLen) (hr : (cells ++ rest).length = c * e.sz)
    (hrun : (execOp a.eval o).run P w = .ok (.value (.slice (some ⟨w.heap.size, 0, none⟩) xs.length c)) (w1.alloc (.cells (cells ++ rest).toArray et)))
    (hs : sat (doneH s (H' ++ [some (.row 0 e m xs)]) o.dst (.ref e H'.length 0 [] 0 xs.length)) (fun _ s' => K s')) : o.wp P a w (Post w0 F0 K) Q := by
  have hkk : Keeps (fun _ => False) w (w1.alloc (.cells (cells ++ rest).toArray et)) := hw1.trans (Keeps.alloc _ _ _)
  have hold : ∀ b, b < w.heap.size → (w1.alloc (.cells (cells ++ rest).toArray et)).heap[b]? = w.heap[b]? := fun b hb => hkk.block b hb (fun h => h)
  have hnew : (w1.alloc (.cells (cells ++ rest).toArray et)).heap[w.heap.size]? = some (.cells (cells ++ rest).toArray et (0, 0)) := by rw [← hsz]; exact heap_alloc_new w1 _
  have hfl : ∀ b ∈ fps.flatten, b < w.heap.size := fun b hb => by
    obtain ⟨r, o, g1, _, g3⟩ := hp.src b hb
    exact (h.sep r o g1 b g3).2.1
  have hown : Own (w1.alloc (.cells (cells ++ rest).toArray et)) I (.sl e) (.ow m) [.slice (some ⟨w.heap.size, 0, none⟩) xs.length c] xs (w.heap.size :: fps.flatten) := by
    refine ⟨by simp only [maxLen] at hcm; omega, .inr ⟨w.heap.size, c, _, et, fps, rfl, hnew, hc, hcm, by simpa using hr, hp.fl, rfl, fun j hj => ?_⟩⟩
    rw [seg_append_left]
    · refine Own.frame (fun b hb => hold b (h.imm b hb)) (fun _ h => h) (hp.own j hj) fun b hb => hold b (hfl b (mem_flatten_getD.2 ⟨j, hb⟩))
    · rw [hp.len]
      have : (j + 1) * e.sz ≤ xs.length * e.sz := Nat.mul_le_mul_right _ hj
      rwa [Nat.add_mul, Nat.one_mul] at this
  obtain ⟨ρ', h1, h2⟩ := h.newRow hp.sub hp.hl e m xs _ _ (hkk.mono fun _ _ h => h.elim) hown (by
      rw [List.nodup_cons]; exact ⟨fun hh => absurd (hfl _ hh) (Nat.lt_irrefl _), hp.nd⟩) (fun b hb => by
      rcases List.mem_cons.1 hb with rfl | hb
      · exact .inl (Nat.le_refl _)
      · exact .inr (hp.src b hb))
  exact wp_val hrun ⟨_, I, ρ', h1.put h2 o.dst, hs⟩

theorem PackedL.none {e : Ty} : PackedL w I ρ H H e e.deep [] [] [] := PackedL.nil

theorem ok_buildSlice {t : TypeId} {len : Nat} {ps : Array (Nat × Operand)} (τ : Env) (G : Gam) (hE : EnvOk P τ) (h : Inv w0 F0 s a w I ρ) (ho : o.op = .buildSlice t len ps) (hs : sat (stepOp Alg.std τ G o s) (fun _ s' => K s')) :
    o.wp P a w (Post w0 F0 K) Q := by
  simp only [stepOp, ho] at hs
  split at hs
  · rename_i e hT
    split at hs
    · rename_i hlen
      obtain ⟨hidx, hfit⟩ := hlen
      split at hs
      · rename_i m xs H' pp hpk
        rw [sat_needs] at hs
        obtain ⟨hq, hs⟩ := hs
        obtain ⟨eid, hun, hF, hsz⟩ := TyF.sl (hE.ty t _ hT)
        obtain ⟨cs, fps, g1, g2, g3, g4⟩ := packEs_spec h.rootsOf (us := ps.toList.map fun q => a.eval q.2) (fun _ _ h => h) (by simp) (fun i v u hv hu => by
          simp only [List.getElem?_map] at hv hu
          cases hc : ps.toList[i]? with
          | none => simp [hc] at hv
          | some x =>
            simp only [hc, Option.map_some, Option.some.injEq] at hv hu
            subst hv
            subst hu
            exact h.ev x.2) hpk hq
        have hpl : ps.toList.length = len := by have := congrArg List.length hidx; simpa using this
        have hxl : xs.length = len := by rw [g3]; simpa using hpl
        have hcl : cs.length = len := by have := congrArg List.length g1; simp at this; rw [← this]; simpa using hpl
        have hz := mkV_cells (zeroCs_length e) (VRs.zero (w := w) (I := I) (ρ := ρ) (H := s.H) e).one
        have hfill : Instr.fill (fun i => some (i * e.sz, e.sz)) ((Array.range (len * e.sz)).map ((zeroCs e).toArray[· % (zeroCs e).toArray.size]!)) (ps.map fun q => (q.1, a.eval q.2)).toList = some cs.flatten.toArray := by
          have hh := fill_all (size := e.sz) (ps.toList.map fun q => a.eval q.2) cs 0 [] (((Array.range (len * e.sz)).map ((zeroCs e).toArray[· % (zeroCs e).toArray.size]!)).toList) g1 g2 (by simp) (by simp [hcl])
          simp only [List.nil_append, Array.toArray_toList] at hh
          rw [← hh]
          congr 1
          rw [hcl, ← List.range_eq_range', ← hidx, Array.toList_map, List.zip_map']
        have hlz : ¬ (16777216 < len * e.sz) := by omega
        refine ok_newRow (rest := []) (w1 := w) (et := eid) (c := len) h g4 (Keeps.refl _ _) rfl (by omega) ?_ (by rw [List.append_nil, g4.len, hxl]) ?_ ?_
        · simp only [maxLen]
          have : len * 1 ≤ len * e.sz := Nat.mul_le_mul_left _ hsz
          omega
        · have hrun : (Instr.buildSlice t len (ps.map fun q => (q.1, a.eval q.2))).run P w = .ok (.slice (some ⟨w.heap.size, 0, none⟩) len len) (w.alloc (.cells cs.flatten.toArray eid)) := by
            by_cases h0 : len * e.sz = 0
            · have hl0 : len = 0 := by rcases Nat.mul_eq_zero.1 h0 with h | h <;> omega
              subst hl0
              have : ps = #[] := by
                apply Array.eq_empty_of_size_eq_zero
                simpa using hpl
              subst this
              have hcs : cs = [] := List.eq_nil_of_length_eq_zero hcl
              subst hcs
              simp [Instr.buildSlice, run_underlying hun, run_sizeOf (TyF.base hF), Instr.fill, newRow, Array.range_zero']
            · simp at hfill
              simp [Instr.buildSlice, run_underlying hun, run_sizeOf (TyF.base hF), run_zeroValue (TyF.base hF), hlz, h0, hz, newRow, hfill]
          unfold execOp
          rw [ho]
          simp only [Sem.run_bind, Sem.run_pure]
          rw [hrun, hxl]
          simp
        · rw [g4.hl]
          rw [g4.hl] at hs
          rw [hxl]
          exact hs
      · exact hs.elim
    · exact hs.elim
  · exact hs.elim

/-! ## make -/
theorem Own.zero {w : World} {I : Nat → Prop} : ∀ {t : Ty}, Own w I t t.deep (zeroCs t) t.dflt []
  | .int k => ⟨rfl, by cases k <;> simp [IntKind.min, IntKind.max, IntKind.signed, IntKind.bits, Ty.dflt], rfl⟩
  | .bool => ⟨rfl, rfl⟩
  | .str => ⟨⟨.empty, rfl, rfl, Nat.zero_le _⟩, rfl⟩
  | .sl e => ⟨Nat.zero_le _, .inl ⟨rfl, rfl, rfl⟩⟩
  | .unit => ⟨rfl, rfl⟩
  | .pair a b => ⟨zeroCs a, zeroCs b, [], [], rfl, rfl, Own.zero (t := a), Own.zero (t := b)⟩

theorem madeCells_seg {z : List Value} {n j : Nat} (hj : j < n) : ((madeCells z.toArray (n * z.length)).toList.drop (j * z.length)).take z.length = z := by
  apply List.ext_getElem?
  intro i
  by_cases hi : i < z.length
  · rw [List.getElem?_take, if_pos hi, List.getElem?_drop]
    have hlt : j * z.length + i < n * z.length := by
      have : (j + 1) * z.length ≤ n * z.length := Nat.mul_le_mul_right _ hj
      rw [Nat.add_mul, Nat.one_mul] at this
      omega
    have e : (j * z.length + i) % z.length = i := by rw [Nat.mul_comm, Nat.mul_add_mod, Nat.mod_eq_of_lt hi]
    simp [madeCells, hlt, e, hi]
  · rw [List.getElem?_take, if_neg hi, List.getElem?_eq_none (by omega)]

theorem PackedL.zero {e : Ty} (n : Nat) : PackedL w I ρ H H e e.deep (List.replicate n e.dflt) (madeCells (zeroCs e).toArray (n * e.sz)).toList (List.replicate n []) := by
  have hz := zeroCs_length e
  refine ⟨by simp [size_madeCells], by simp, fun j hj => ?_, ?_, fun _ _ h => h, rfl, ?_, fun u hu => ?_⟩
  · have hj' : j < n := by simpa using hj
    have := madeCells_seg (z := zeroCs e) hj'
    rw [hz] at this
    rw [this]
    have e2 : (List.replicate n ([] : List Nat)).getD j [] = [] := by simp [List.getD_eq_getElem?_getD, List.getElem?_replicate]; split <;> rfl
    rw [e2]
    simpa using Own.zero
  · have : (List.replicate n ([] : List Nat)).flatten = [] := by simp
    rw [this]; simp
  · have : (List.replicate n ([] : List Nat)).flatten = [] := by simp
    rw [this]; simp
  · simp only [madeCells, Array.toList_map, List.mem_map] at hu
    obtain ⟨i, hi, rfl⟩ := hu
    have hi' : i < n * e.sz := by simpa using hi
    have hp : 0 < e.sz := by rcases Nat.eq_zero_or_pos e.sz with h | h; · rw [h] at hi'; simp at hi'
                             · exact h
    have hm : i % (zeroCs e).length < (zeroCs e).length := Nat.mod_lt _ (by omega)
    simp [hm]
    exact (VRs.zero (w := w) (I := I) (ρ := ρ) (H := H) e).one _ (List.getElem_mem hm)

theorem ok_makeSlice {t : TypeId} {n c : Operand} (τ : Env) (G : Gam) (hE : EnvOk P τ) (h : Inv w0 F0 s a w I ρ) (ho : o.op = .makeSlice t n c) (hs : sat (stepOp Alg.std τ G o s) (fun _ s' => K s')) :
    o.wp P a w (Post w0 F0 K) Q := by
  simp only [stepOp, ho] at hs
  split at hs
  · rename_i e ni ci hT hn hc
    obtain ⟨rfl, ⟨h0, hroom⟩, hs⟩ := hs
    obtain ⟨eid, hun, hF, hsz⟩ := TyF.sl (hE.ty t _ hT)
    obtain ⟨kn, hn, _⟩ := (h.ev n).intOf hn
    obtain ⟨kc, hc, _⟩ := (h.ev c).intOf hc
    obtain ⟨i, hi, hi1, hi2, hi3⟩ := (TyF.base hF).info
    have hb := bnd_pos hsz
    have hnat : ((ni.toNat : Nat) : Int) = ni := Int.toNat_of_nonneg h0
    have hsmall : ni ≤ 140737488355328 := by
      have : ni * 1 ≤ ni * (e.bnd : Int) := Int.mul_le_mul_of_nonneg_left (by omega) h0
      omega
    have hby : (i.bytes : Int) * ni ≤ 281474976710656 := by
      have : ni * (i.bytes : Int) ≤ ni * (e.bnd : Int) := Int.mul_le_mul_of_nonneg_left (by omega) h0
      rw [Int.mul_comm] at this
      omega
    have hz := mkV_cells (zeroCs_length e) (VRs.zero (w := w) (I := I) (ρ := ρ) (H := s.H) e).one
    have hr := run_make (P := P) w t eid i _ hun hi hi2 kn kc ni ni h0 (Int.le_refl _) hby (by omega)
    rw [hz, hi1] at hr
    refine ok_newRow (rest := []) (w1 := w) (et := eid) (c := ni.toNat) h (PackedL.zero (e := e) ni.toNat) (Keeps.refl _ _) rfl (by simp) (by simp only [maxLen]; omega) (by simp [size_madeCells]) ?_ ?_
    · unfold execOp
      rw [ho]
      simp only [Sem.run_bind, Sem.run_pure, hn, hc]
      rw [hr]
      simp
    · simpa [Alg.std] using hs
  · exact hs.elim

end
end Go.Vee
