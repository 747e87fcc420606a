import Derived.Test.YtcdlgemhmmkneaaVH13
set_option linter.unusedSimpArgs false
set_option linter.unusedVariables false
namespace Go.Vee
open Go

section
variable {P : Program} {w0 w : World} {F0 : Bnd} {s : St} {a : Act} {I : Nat → Prop} {ρ : Nat → RC} {H : Heap} {o : Oper} {K : St → Prop} {Q : Exit → Act → World → Prop}

/-- Cells in a block, to be read by 'append'. -/
theorem Src.block {size n c : Nat} {b off : Nat} {arr : Array Value} {et : TypeId} {fr : Nat × Nat} (hb : w.heap[b]? = some (.cells arr et fr)) (hin : off + n * size ≤ arr.size) :
    Src P w size n (.slice (some ⟨b, off, none⟩) n c) (seg arr off (n * size)) := by
  have hcell : ∀ w' : World, w'.heap[b]? = some (.cells arr et fr) → ∀ j v, (seg arr off (n * size))[j]? = some v → w'.cell? ((⟨b, off, none⟩ : Addr).add j) = some v := fun w' hb' j v hj => by
    have hlt : j < n * size := by have := (List.getElem?_eq_some_iff.1 hj).1; rw [seg_length hin] at this; exact this
    rw [seg_get hlt] at hj
    rw [add_lit']
    simp [World.cell?, hb', hj]
  exact ⟨fun _ => by simp [Builtin.lenOf], run_firstCells_some w size n _ n c _ (seg_length hin) (hcell w hb), run_firstCells_some w.drew size n _ n c _ (seg_length hin) (hcell w.drew hb)⟩

theorem Src.zero {size c : Nat} {A : Option Addr} : Src P w size 0 (.slice A 0 c) [] := by
  cases A with
  | none => exact ⟨fun _ => by simp [Builtin.lenOf], by simp [Builtin.firstCells], by simp [Builtin.firstCells]⟩
  | some a => exact ⟨fun _ => by simp [Builtin.lenOf], by simp [Builtin.firstCells, loadCells, loadCellsFrom], by simp [Builtin.firstCells, loadCells, loadCellsFrom]⟩

theorem Src.str {size : Nat} (b : ByteArray) : Src P w size b.size (.string b) (Lib.strCells b) := ⟨fun _ => by simp [Builtin.lenOf], Lib.run_firstCells_string w size b, Lib.run_firstCells_string w.drew size b⟩

/-- A part of packed elements. -/
theorem PackedL.part {H' : Heap} {e : Ty} {m : Md} {xs : List e.den} {cells : List Value} {fps : List (List Nat)} (h : PackedL w I ρ H H' e m xs cells fps) (hno : ∀ j, fps.getD j [] = []) (lo n : Nat) (hl : lo + n ≤ xs.length) :
    PackedL w I ρ H H e m ((xs.drop lo).take n) ((cells.drop (lo * e.sz)).take (n * e.sz)) (List.replicate n []) := by
  have hlen : ((xs.drop lo).take n).length = n := by simp; omega
  have hcl : lo * e.sz + n * e.sz ≤ cells.length := by rw [h.len, ← Nat.add_mul]; exact Nat.mul_le_mul_right _ hl
  have hfl : (List.replicate n ([] : List Nat)).flatten = [] := by simp
  refine ⟨by rw [hlen]; simp; omega, by rw [hlen]; simp, fun j hj => ?_, by rw [hfl]; simp, fun _ _ h => h, rfl, by rw [hfl]; simp, fun u hu => h.one u (List.mem_of_mem_drop (List.mem_of_mem_take hu))⟩
  rw [hlen] at hj
  have e2 : (List.replicate n ([] : List Nat)).getD j [] = [] := by simp [List.getD_eq_getElem?_getD, List.getElem?_replicate]; split <;> rfl
  have := h.own (lo + j) (by omega)
  rw [hno] at this
  rw [e2]
  have e3 : (((cells.drop (lo * e.sz)).take (n * e.sz)).drop (j * e.sz)).take e.sz = (cells.drop ((lo + j) * e.sz)).take e.sz := by
    have : (j + 1) * e.sz ≤ n * e.sz := Nat.mul_le_mul_right _ hj
    rw [Nat.add_mul, Nat.one_mul] at this
    rw [List.drop_take, List.take_take, List.drop_drop, Nat.add_mul]
    congr 1
    omega
  rw [e3]
  simpa using this

theorem fps_nil {e : Ty} {m : Md} {xs : List e.den} {H' : Heap} {cells : List Value} {fps : List (List Nat)} (h : PackedL w I ρ H H' e m xs cells fps) (hn : ∀ (cs : List Value) (x : e.den) (fp : List Nat), Own w I e m cs x fp → fp = []) (j : Nat) : fps.getD j [] = [] := by
  by_cases hj : j < xs.length
  · exact hn _ _ _ (h.own j hj)
  · simp [List.getD_eq_getElem?_getD, List.getElem?_eq_none (show fps.length ≤ j by rw [h.fl]; omega)]

/-- A slice read inside a row: its block. -/
theorem Inv.refBlock (h : Inv w0 F0 s a w I ρ) {e : Ty} {r ver : Nat} {p : List Stp} {lo n : Nat} {u : Value} (hv : VR w I ρ s.H (.ref e r ver p lo n) u) {m : Md} {y : List e.den} (hr : readRef Alg.std s.H e r ver p = some (m, y)) :
    lo + n ≤ y.length ∧ ∃ A c, u = .slice A n c ∧ n ≤ c ∧ (n = 0 ∨ ∃ (g : Nat) (arr : Array Value) (et : TypeId) (fps : List (List Nat)), A = some ⟨g, lo * e.sz, none⟩ ∧ w.heap[g]? = some (.cells arr et (0, 0)) ∧ y.length * e.sz ≤ arr.size ∧ fps.length = y.length ∧
      ∀ j (hj : j < y.length), Own w I e m (seg arr (j * e.sz) e.sz) (y[j]'hj) (fps.getD j [])) := by
  obtain ⟨A, c, B, c0, l, fp', e', m', xs, v, hu, hnc, hg, hle, hver, hw, q1, q2, q3, hown, hsub, hget⟩ := h.ref hv hr
  refine ⟨q1, A, c, hu, hnc, ?_⟩
  by_cases hn : n = 0
  · exact .inl hn
  · right
    have hA := q2 (by omega)
    rcases hown.2 with ⟨_, hy, _⟩ | ⟨g, c2, arr, et, fps, he, hb, h1, h2, h3, h4, _, hel⟩
    · rw [hy] at q1; simp at q1; omega
    · simp only [List.cons.injEq, Value.slice.injEq, and_true] at he
      obtain ⟨rfl, -, rfl⟩ := he
      refine ⟨g, arr, et, fps, by simp [hA, add_lit'], hb, by rw [h3]; exact Nat.mul_le_mul_right _ h1, h4, hel⟩

theorem srcM_spec (h : Inv w0 F0 s a w I ρ) {e : Ty} {v : AV} {u : Value} (hv : VR w I ρ s.H v u) {m : Md} {ys : List e.den} {H' : Heap} {ps : List Prop} (hs : srcM Alg.std e s.H v = some (m, ys, H', ps)) (hq : ∀ p ∈ ps, p) :
    ∃ cells fps, PackedL w I ρ s.H H' e m ys cells fps ∧ Src P w e.sz ys.length u cells := by
  unfold srcM at hs
  split at hs
  · cases hs
    cases hv
    exact ⟨[], [], PackedL.nil, Src.zero⟩
  · rename_i x
    split at hs
    · rename_i y hy
      cases hs
      obtain ⟨e1, e2⟩ := castD_some hy
      cases e1
      subst e2
      obtain ⟨b, rfl, rfl, hb⟩ := hv.str_inv
      refine ⟨Lib.strCells b, List.replicate b.size [], ?_, ?_⟩
      · have hl : (b.data.toList.map fun b => (b.toNat : Int)).length = b.size := by rw [List.length_map]; exact Array.length_toList
        refine ⟨by rw [Lib.strCells_length]; simp only [Ty.sz, Nat.mul_one]; exact hl.symm, by simp only [List.length_replicate]; exact hl.symm, fun j hj => ?_, by simp, fun _ _ h => h, rfl, by simp, Lib.strCells_oneCell b⟩
        have e2 : (List.replicate b.size ([] : List Nat)).getD j [] = [] := by simp [List.getD_eq_getElem?_getD, List.getElem?_replicate]; split <;> rfl
        rw [e2]
        have hj' : j < b.data.toList.length := by have hh : j < (b.data.toList.map fun b => (b.toNat : Int)).length := hj; simpa using hh
        have e3 : ((Lib.strCells b).drop (j * Ty.sz (.int .u8))).take (Ty.sz (.int .u8)) = [.int .u8 (b.data.toList[j].toNat : Int)] := by
          simp only [Ty.sz, Nat.mul_one, Lib.strCells, ← List.map_drop, ← List.map_take]
          have : (b.data.toList.drop j).take 1 = [b.data.toList[j]] := by
            rw [List.take_one, List.head?_drop]
            simp [hj']
          rw [this]
          rfl
        rw [e3]
        have e4 : ∀ (hj : j < (b.data.toList.map fun b => (b.toNat : Int)).length), (b.data.toList.map fun b => (b.toNat : Int))[j] = (b.data.toList[j].toNat : Int) := fun hj => by simp
        refine ⟨?_, ?_, rfl⟩
        · exact congrArg (fun n => [Value.int .u8 n]) (e4 _).symm
        · have h8 := UInt8.toNat_lt (b.data.toList[j]'hj')
          have gen : ∀ n : Int, n = ((b.data.toList[j]'hj').toNat : Int) → IntKind.u8.min ≤ n ∧ n ≤ IntKind.u8.max := fun n hn => by
            simp only [IntKind.min, IntKind.max, IntKind.signed, IntKind.bits]
            simp
            omega
          exact gen _ (e4 _)
      · have hl : (b.data.toList.map fun b => (b.toNat : Int)).length = b.size := by rw [List.length_map]; exact Array.length_toList
        have := Src.str (P := P) (w := w) (size := Ty.sz (.int .u8)) b
        rw [← hl] at this
        exact this
    · cases hs
  · rename_i t x _
    split at hs
    · rename_i y hy
      cases hs
      obtain ⟨e1, e2⟩ := castD_some hy
      cases e1
      subst e2
      obtain ⟨A, c, rfl, hl, hlc, hcase⟩ := hv.sl_inv
      rcases hcase with rfl | ⟨b, off, arr, et, fr, rfl, hb, hI, hel⟩
      · exact ⟨[], [], PackedL.nil, Src.zero⟩
      · by_cases h0 : List.length x = 0
        · have : x = [] := List.eq_nil_of_length_eq_zero h0
          subst this
          exact ⟨[], [], PackedL.nil, Src.zero⟩
        · have hin : off + List.length x * e.sz ≤ arr.size := by
            have := (hel (List.length x - 1) (by omega)).1
            rwa [Nat.sub_add_cancel (by omega)] at this
          refine ⟨seg arr off (List.length x * e.sz), List.replicate (List.length x) [], ⟨seg_length hin, by simp, fun j hj => ?_, by simp, fun _ _ h => h, rfl, by simp, ?_⟩, Src.block hb hin⟩
          · have e2 : (List.replicate (List.length x) ([] : List Nat)).getD j [] = [] := by simp [List.getD_eq_getElem?_getD, List.getElem?_replicate]; split <;> rfl
            rw [e2, seg_seg (by have : (j + 1) * e.sz ≤ List.length x * e.sz := Nat.mul_le_mul_right _ hj
                                rw [Nat.add_mul, Nat.one_mul] at this; exact this)]
            exact (hel j hj).2
          · refine segs_one (n := List.length x) (sz := e.sz) (seg_length hin) fun j hj => ?_
            rw [seg_seg (by have : (j + 1) * e.sz ≤ List.length x * e.sz := Nat.mul_le_mul_right _ hj
                            rw [Nat.add_mul, Nat.one_mul] at this; exact this)]
            exact (hel j hj).2.one
    · cases hs
  · rename_i e' r ver p lo n
    split at hs
    · rename_i m0 y hrd
      split at hs
      · rename_i z hz
        obtain ⟨e1, e2⟩ := castD_some hz
        cases e1
        change (y.drop lo).take n = z at e2
        subst e2
        obtain ⟨q1, A, c, rfl, hnc, hblk⟩ := h.refBlock hv hrd
        have hzl : ((y.drop lo).take n).length = n := by simp; omega
        -- what is shared or flat
        have flatten : ∀ m1 : Md, (∀ (cs : List Value) (x : e.den) (fp : List Nat), Own w I e m0 cs x fp → fp = [] ∧ Own w I e m1 cs x []) →
            ∃ cells fps, PackedL w I ρ s.H s.H e m1 ((y.drop lo).take n) cells fps ∧ Src P w e.sz ((y.drop lo).take n).length (.slice A n c) cells := fun m1 hm => by
          rw [hzl]
          rcases hblk with rfl | ⟨g, arr, et, fps, rfl, hb, hin, hfl, hel⟩
          · refine ⟨[], [], ?_, Src.zero⟩
            rw [List.take_zero]
            exact PackedL.nil
          · have hnin : lo * e.sz + n * e.sz ≤ arr.size := by
              have := Nat.mul_le_mul_right e.sz q1
              rw [Nat.add_mul] at this
              omega
            have hsg : ∀ j, j < n → ((seg arr (lo * e.sz) (n * e.sz)).drop (j * e.sz)).take e.sz = seg arr ((lo + j) * e.sz) e.sz := fun j hj => by
              rw [seg_seg (by have : (j + 1) * e.sz ≤ n * e.sz := Nat.mul_le_mul_right _ hj
                              rw [Nat.add_mul, Nat.one_mul] at this; exact this), Nat.add_mul]
            refine ⟨seg arr (lo * e.sz) (n * e.sz), List.replicate n [], ⟨by rw [hzl]; exact seg_length hnin, by rw [hzl]; simp, fun j hj => ?_, by simp, fun _ _ h => h, rfl, by simp, ?_⟩, Src.block hb hnin⟩
            · rw [hzl] at hj
              have e2 : (List.replicate n ([] : List Nat)).getD j [] = [] := by simp [List.getD_eq_getElem?_getD, List.getElem?_replicate]; split <;> rfl
              rw [e2, hsg j hj]
              have := (hm _ _ _ (hel (lo + j) (by omega))).2
              simpa using this
            · refine segs_one (n := n) (sz := e.sz) (seg_length hnin) fun j hj => ?_
              rw [hsg j hj]
              exact (hel (lo + j) (by omega)).one
        split at hs
        · rename_i hown
          split at hs
          · cases hs
            rename_i hp hlo
            have hn : n = List.length y := hq (Alg.std.EqN n (Alg.std.lenL y)) (List.mem_singleton.2 rfl)
            subst hn
            obtain ⟨v0, e0, m1, xs, g1, g2, g3⟩ := readRef_spec hrd
            simp only [getAt, Option.some.injEq] at g3
            cases g3
            have hxs : (y.drop 0).take (List.length y) = y := by simp
            rw [hxs]
            cases hv
            rename_i hrl hn' _ hc
            obtain ⟨_, hw⟩ := hc _ _ _ _ g1
            obtain ⟨B, c0, len, l', hw, k1, k2, k3⟩ := hw (.inl rfl)
            have hhdr : (ρ r).hdr = .slice B len c0 := by simp [walk] at hw; exact hw.1
            rcases row_parts h.rootsOf g1 with ⟨hh, rfl, hf, pk⟩ | ⟨g, c2, cur, et, fps, hh, hg, h1, h2, h3, h4, h5, pk⟩
            · rw [hhdr] at hh
              simp only [Value.slice.injEq] at hh
              obtain ⟨rfl, rfl, rfl⟩ := hh
              exact ⟨[], [], pk, Src.zero⟩
            · rw [hhdr] at hh
              simp only [Value.slice.injEq] at hh
              obtain ⟨rfl, rfl, rfl⟩ := hh
              obtain ⟨rfl, rfl⟩ := k3 ⟨rfl, rfl⟩
              refine ⟨_, fps, pk, ?_⟩
              have : List.take (List.length y * e.sz) cur.toList = seg cur 0 (List.length y * e.sz) := by simp [seg]
              rw [this]
              exact Src.block hg (by rw [h3, Nat.zero_add]; exact Nat.mul_le_mul_right _ h1)
          · cases hs
        · split at hs
          · split at hs
            · rename_i hm
              cases hs
              subst hm
              exact flatten .sh fun cs x fp ho => by have := Own.sh_fp ho; subst this; exact ⟨rfl, ho⟩
            · cases hs
          · rename_i hs1
            cases hs
            exact flatten .sh fun cs x fp ho => by
              obtain ⟨k1, k2⟩ := ho.flat (by simpa using hs1)
              exact ⟨k1, k2 _ _ _⟩
      · cases hs
    · cases hs
  · cases hs

end
end Go.Vee
