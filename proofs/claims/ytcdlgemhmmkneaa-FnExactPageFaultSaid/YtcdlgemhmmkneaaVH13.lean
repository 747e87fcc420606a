import Derived.Test.YtcdlgemhmmkneaaVH12
set_option linter.unusedSimpArgs false
set_option linter.unusedVariables false
namespace Go.Vee
open Go

theorem Own.sh_fp {w : World} {I : Nat → Prop} : ∀ {t : Ty} {cs : List Value} {x : t.den} {fp : List Nat}, Own w I t .sh cs x fp → fp = []
  | .int _, _, _, _, h => h.2.2
  | .bool, _, _, _, h => h.2
  | .str, _, _, _, h => h.2
  | .sl e, _, _, _, h => h.2.1
  | .unit, _, _, _, h => h.2
  | .pair a b, _, _, _, h => by
    obtain ⟨c1, c2, f1, f2, rfl, rfl, h1, h2⟩ := h
    rw [Own.sh_fp (t := a) h1, Own.sh_fp (t := b) h2]; rfl

theorem segs_one {l : List Value} {n sz : Nat} (hl : l.length = n * sz) (h : ∀ j, j < n → ∀ u ∈ (l.drop (j * sz)).take sz, u.oneCell' = true) : ∀ u ∈ l, u.oneCell' = true := by
  intro u hu
  obtain ⟨i, hi, rfl⟩ := List.getElem_of_mem hu
  have hp : 0 < sz := by rcases Nat.eq_zero_or_pos sz with h0 | h0; · rw [h0] at hl; simp at hl; rw [hl] at hi; simp at hi
                         · exact h0
  have hj : i / sz < n := by rw [Nat.div_lt_iff_lt_mul hp, ← hl]; exact hi
  refine h (i / sz) hj _ ?_
  have hm : i / sz * sz + i % sz = i := by rw [Nat.mul_comm]; exact Nat.div_add_mod i sz
  have hlt := Nat.mod_lt i hp
  refine List.mem_iff_getElem?.2 ⟨i % sz, ?_⟩
  rw [List.getElem?_take, if_pos hlt, List.getElem?_drop, hm]
  simp [hi]

section
variable {P : Program} {w0 w : World} {F0 : Bnd} {s : St} {a : Act} {I : Nat → Prop} {ρ : Nat → RC} {H : Heap} {o : Oper} {K : St → Prop} {Q : Exit → Act → World → Prop}

theorem PackedL.append {HH H H1 H2 : Heap} (R : Roots w I ρ HH) (hH : ∀ r o, hget H r = some o → hget HH r = some o) {e : Ty} {m : Md} {xs ys : List e.den} {cx cy : List Value} {fx fy : List (List Nat)}
    (p : PackedL w I ρ H1 H2 e m xs cx fx) (q : PackedL w I ρ H H1 e m ys cy fy) : PackedL w I ρ H H2 e m (xs ++ ys) (cx ++ cy) (fx ++ fy) := by
  have hl := p.len
  refine ⟨by simp [hl, q.len, Nat.add_mul], by simp [p.fl, q.fl], fun j hj => ?_, ?_, fun r o hr => q.sub r o (p.sub r o hr), p.hl.trans q.hl, fun b hb => ?_, fun u hu => (List.mem_append.1 hu).elim (p.one u) (q.one u)⟩
  · by_cases hjx : j < xs.length
    · have e1 : ((cx ++ cy).drop (j * e.sz)).take e.sz = (cx.drop (j * e.sz)).take e.sz := by
        have : (j + 1) * e.sz ≤ xs.length * e.sz := Nat.mul_le_mul_right _ hjx
        rw [Nat.add_mul, Nat.one_mul] at this
        rw [List.drop_append_of_le_length (by omega), List.take_append_of_le_length (by simp; omega)]
      have e2 : (fx ++ fy).getD j [] = fx.getD j [] := by
        simp only [List.getD_eq_getElem?_getD]
        rw [List.getElem?_append_left (by rw [p.fl]; exact hjx)]
      rw [e1, e2, List.getElem_append_left hjx]
      exact p.own j hjx
    · have hjy : j - xs.length < ys.length := by simp at hj; omega
      have e1 : ((cx ++ cy).drop (j * e.sz)).take e.sz = (cy.drop ((j - xs.length) * e.sz)).take e.sz := by
        have : j * e.sz = xs.length * e.sz + (j - xs.length) * e.sz := by rw [← Nat.add_mul]; congr 1; omega
        rw [List.drop_append, List.drop_eq_nil_of_le (by rw [hl]; exact Nat.mul_le_mul_right _ (by omega)), List.nil_append]
        congr 2
        omega
      have e2 : (fx ++ fy).getD j [] = fy.getD (j - xs.length) [] := by
        simp only [List.getD_eq_getElem?_getD]
        rw [List.getElem?_append_right (by rw [p.fl]; omega), p.fl]
      rw [e1, e2, List.getElem_append_right (by omega)]
      exact q.own _ hjy
  · rw [List.flatten_append, List.nodup_append]
    refine ⟨p.nd, q.nd, fun b hb c hc hbc => ?_⟩
    subst hbc
    obtain ⟨r, o, g1, g2, g3⟩ := p.src b hb
    obtain ⟨r', o', g4, g5, g6⟩ := q.src b hc
    have hne : r ≠ r' := by rintro rfl; rw [g1] at g5; cases g5
    exact R.disj r o r' o' hne (hH _ _ (q.sub _ _ g1)) (hH _ _ g4) b g3 g6
  · rw [List.flatten_append] at hb
    rcases List.mem_append.1 hb with hb | hb
    · obtain ⟨r, o, g1, g2, g3⟩ := p.src b hb
      exact ⟨r, o, q.sub r o g1, g2, g3⟩
    · obtain ⟨r, o, g1, g2, g3⟩ := q.src b hb
      refine ⟨r, o, g1, ?_, g3⟩
      cases hk : hget H2 r with
      | none => rfl
      | some o' => have := p.sub r o' hk; rw [g2] at this; cases this

/-- A row's parts: its block, its elements. -/
theorem row_parts {r v : Nat} {e : Ty} {m : Md} {xs : List e.den} (R : Roots w I ρ H) (hr : hget H r = some (.row v e m xs)) :
    ((ρ r).hdr = .slice none 0 0 ∧ xs = [] ∧ (ρ r).fp = [] ∧ PackedL w I ρ H (H.set r none) e m xs [] []) ∨
    ∃ g c cur et fps, (ρ r).hdr = .slice (some ⟨g, 0, none⟩) xs.length c ∧ w.heap[g]? = some (.cells cur et (0, 0)) ∧ xs.length ≤ c ∧ c ≤ maxLen ∧ cur.size = c * e.sz ∧ (ρ r).fp = g :: fps.flatten ∧ g ∉ fps.flatten ∧
      PackedL w I ρ H (H.set r none) e m xs (cur.toList.take (xs.length * e.sz)) fps := by
  have hown : Own w I (.sl e) (.ow m) [(ρ r).hdr] xs (ρ r).fp := R.ok r _ hr
  have hnd : (ρ r).fp.Nodup := R.nodup r _ hr
  have hsub : ∀ k o, hget (H.set r none) k = some o → hget H k = some o := fun k o hk => by
    rw [hget_set_none] at hk
    split at hk
    · cases hk
    · exact hk
  rcases hown.2 with ⟨hh, rfl, hf⟩ | ⟨g, c, cur, et, fps, hh, hg, h1, h2, h3, h4, hf, hel⟩
  · exact .inl ⟨by simpa using hh, rfl, hf, by simp, rfl, by simp, by simp, hsub, by simp, by simp, by simp⟩
  · right
    rw [hf, List.nodup_cons] at hnd
    have hle : xs.length * e.sz ≤ cur.size := by rw [h3]; exact Nat.mul_le_mul_right _ h1
    have hseg : ∀ j, j < xs.length → ((cur.toList.take (xs.length * e.sz)).drop (j * e.sz)).take e.sz = seg cur (j * e.sz) e.sz := fun j hj => by
      have : (j + 1) * e.sz ≤ xs.length * e.sz := Nat.mul_le_mul_right _ hj
      rw [Nat.add_mul, Nat.one_mul] at this
      simp only [seg, List.drop_take, List.take_take]
      congr 1
      omega
    refine ⟨g, c, cur, et, fps, by simpa using hh, hg, h1, h2, h3, hf, hnd.1, ⟨by simp; omega, h4, fun j hj => ?_, hnd.2, hsub, by simp, fun b hb => ⟨r, _, hr, by rw [hget_set_none, if_pos rfl], by simp [tfp, hf, hb]⟩, ?_⟩⟩
    · rw [hseg j hj]; exact hel j hj
    · refine segs_one (n := xs.length) (sz := e.sz) (by simp; omega) fun j hj => ?_
      rw [hseg j hj]
      exact (hel j hj).one

/-! ## append, on cells -/
theorem size_zeroCs (z : Array Value) (n : Nat) : (Builtin.zeroCells z n).size = n * z.size := by simp [Builtin.zeroCells]

structure Src (P : Program) (w : World) (size m : Nat) (x : Value) (news : List Value) : Prop where
  len : ∀ w', (Builtin.lenOf x).run P w' = .ok m w'
  now : (Builtin.firstCells size m x).run P w = .ok news.toArray w
  drew : (Builtin.firstCells size m x).run P w.drew = .ok news.toArray w.drew

def noInt (P : Program) (t : TypeId) : Prop := P.underlying t = some .string ∨ ∃ e, P.underlying t = some (.slice e)

theorem run_append_in {t t2 ty eid : TypeId} {i : TypeInfo} (ht : P.underlying t = some (.slice eid)) (h2 : noInt P t2) (hi : P.info? eid = some i) {size : Nat} (hs : i.size = size) {g sLen sCap m : Nat} {cur : Array Value} {et : TypeId}
    (hg : w.heap[g]? = some (.cells cur et (0, 0))) {x : Value} {news : List Value} (hx : Src P w size m x news) (h1 : ∀ u ∈ news, u.oneCell' = true) (hroom : sLen + m ≤ sCap) (hfit : sLen * size + news.length ≤ cur.size) :
    (Builtin.append_ #[t, t2] ty #[.slice (some ⟨g, 0, none⟩) sLen sCap, x]).run P w = .ok (.slice (some ⟨g, 0, none⟩) (sLen + m) sCap) (w.setRow g (lay cur (sLen * size) news)) := by
  subst hs
  have hst := run_storeCells_at P g (sLen * i.size) et news 0 cur w hg (by simpa using hfit) h1
  simp only [Nat.add_zero] at hst
  rcases h2 with hd | ⟨d, hd⟩ <;> simp [Builtin.append_, run_underlying ht, run_underlying hd, sizeOf, typeInfo, hi, hx.len, hx.now, hroom, add_lit', hst, lay]

theorem run_append_nil0 {t t2 ty eid : TypeId} {i : TypeInfo} (ht : P.underlying t = some (.slice eid)) (h2 : noInt P t2) (hi : P.info? eid = some i) {x : Value} {news : List Value} (hx : Src P w i.size 0 x news) :
    (Builtin.append_ #[t, t2] ty #[.slice none 0 0, x]).run P w = .ok (.slice none 0 0) w := by
  rcases h2 with hd | ⟨d, hd⟩ <;> simp [Builtin.append_, run_underlying ht, run_underlying hd, sizeOf, typeInfo, hi, hx.len, hx.now]

theorem run_append_up {t t2 ty eid : TypeId} {i : TypeInfo} {z : Value} (ht : P.underlying t = some (.slice eid)) (h2 : noInt P t2) (hi : P.info? eid = some i) (hz : i.zero = some z) {size : Nat} (hs : i.size = size) {B : Option Addr} {sLen sCap m : Nat}
    {olds : List Value} (hold : (Builtin.firstCells size sLen (.slice B sLen sCap)).run P w.drew = .ok olds.toArray w.drew)
    {x : Value} {news : List Value} (hx : Src P w size m x news) (hg : sCap < sLen + m) (h63 : sLen + m ≤ 9223372036854775807) (hbytes : (sLen + m) * i.bytes ≤ 140737488355328) :
    (Builtin.append_ #[t, t2] ty #[.slice B sLen sCap, x]).run P w = .ok (.slice (some ⟨w.heap.size, 0, none⟩) (sLen + m) (grownCap w (sLen + m) sCap eid))
        (w.drew.alloc (.cells (olds ++ news ++ (Builtin.zeroCells z.cells (grownCap w (sLen + m) sCap eid - (sLen + m))).toList).toArray eid)) := by
  subst hs
  have hfit := growslice_fits hg hbytes
  have hnn : ¬ (sLen + m ≤ sCap) := by omega
  have h63' : ¬ (9223372036854775807 < ((sLen : Int) + (m : Int))) := by omega
  have h48' : ¬ (281474976710656 < Builtin.nextslicecap (sLen + m) sCap * i.bytes) := by omega
  have hl := hx.len
  have hdr := hx.drew
  rcases h2 with hd | ⟨d, hd⟩ <;> simp [Builtin.append_, run_underlying ht, run_underlying hd, sizeOf, typeInfo, zeroValue, hi, hz, hl, hdr, hold, hnn, h63', h48', Question.forced, newRow, grownCap] <;>
    (congr 2; apply Array.ext'; simp)

end
end Go.Vee
