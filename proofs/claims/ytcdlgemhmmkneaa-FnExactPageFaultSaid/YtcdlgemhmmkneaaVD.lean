import Derived.Test.YtcdlgemhmmkneaaVC
set_option linter.unusedSimpArgs false
set_option linter.unusedVariables false
namespace Go.Vee
open Go

/-- The same row of cells but for those from 'off' on, 'n' of them. -/
structure Near (arr arr1 : Array Value) (off n : Nat) : Prop where
  size : arr1.size = arr.size
  same : ∀ i, (i < off ∨ off + n ≤ i) → arr1[i]? = arr[i]?

theorem Near.seg {arr arr1 : Array Value} {off n i k : Nat} (h : Near arr arr1 off n) (hd : i + k ≤ off ∨ off + n ≤ i) : seg arr1 i k = seg arr i k := by
  apply List.ext_getElem?
  intro j
  by_cases hj : j < k
  · rw [seg_get hj, seg_get hj, h.same _ (by omega)]
  · simp [Go.Vee.seg, List.getElem?_take, hj]

theorem seg_split {arr : Array Value} {off a b : Nat} : seg arr off (a + b) = seg arr off a ++ seg arr (off + a) b := by
  simp only [seg]
  rw [List.take_add, List.drop_drop]

/-- What a place in an owned value is, and how the value looks when the place is given something else. -/
theorem Own.lens {w : World} {I : Nat → Prop} : ∀ (p : List Stp) {t : Ty} {m : Md} {cs : List Value} {x : t.den} {fp : List Nat} {b off : Nat} {arr : Array Value} {et : TypeId}
    {l' : Option (Nat × Nat)} {t' t2 : Ty} {m' : Md} {x' : t'.den} {cs' : List Value},
    w.heap[b]? = some (.cells arr et (0, 0)) → off + t.sz ≤ arr.size → cs = seg arr off t.sz → b ∉ fp → fp.Nodup →
    Own w I t m cs x fp → getAt Alg.std t m x p = some ⟨t', m', x'⟩ → walk w t cs (some (b, off)) p = some (t2, cs', l') →
    ∃ b' off' fp1 arr0 et0, l' = some (b', off') ∧ t2 = t' ∧ Own w I t' m' cs' x' fp1 ∧ fp1.Nodup ∧ (∀ k ∈ fp1, k ∈ fp) ∧ b' ∉ fp1 ∧
      (b' = b ∧ off ≤ off' ∧ off' + t'.sz ≤ off + t.sz ∨ b' ∈ fp) ∧
      w.heap[b']? = some (.cells arr0 et0 (0, 0)) ∧ cs' = seg arr0 off' t'.sz ∧ off' + t'.sz ≤ arr0.size ∧
      ∀ (w' : World) (I' : Nat → Prop) (arr1 : Array Value) (et1 : TypeId) (y : t'.den) (fp2 : List Nat) (x2 : t.den),
        (∀ k, I k → w'.heap[k]? = w.heap[k]?) → (∀ k, I k → I' k) →
        (∀ k, k ≠ b' → ((k ∈ fp ∧ k ∉ fp1) ∨ k = b) → w'.heap[k]? = w.heap[k]?) →
        w'.heap[b']? = some (.cells arr1 et1 (0, 0)) → Near arr0 arr1 off' t'.sz →
        Own w' I' t' m' (seg arr1 off' t'.sz) y fp2 → fp2.Nodup → (∀ k ∈ fp2, k ∈ fp → k ∈ fp1) → b ∉ fp2 → b' ∉ fp2 →
        setAt Alg.std t m x p t' m' y = some x2 →
        ∃ fp3 arrb etb, w'.heap[b]? = some (.cells arrb etb (0, 0)) ∧ Near arr arrb off t.sz ∧ Own w' I' t m (seg arrb off t.sz) x2 fp3 ∧ fp3.Nodup ∧
          ∀ k ∈ fp3, (k ∈ fp ∧ k ∉ fp1) ∨ k ∈ fp2 := by
  intro p
  induction p with
  | nil =>
    intro t m cs x fp b off arr et l' t' t2 m' x' cs' hb hsz hcs hbf hnd h hg hw
    have e1 : (⟨t, m, x⟩ : (t : Ty) × Md × t.den) = ⟨t', m', x'⟩ := by cases t <;> simpa [getAt] using hg
    have e2 : (t, cs, some (b, off)) = (t2, cs', l') := by cases t <;> simpa [walk] using hw
    cases e1
    cases e2
    refine ⟨b, off, fp, arr, et, rfl, rfl, h, hnd, fun _ hk => hk, hbf, .inl ⟨rfl, Nat.le_refl _, Nat.le_refl _⟩, hb, hcs, hsz, ?_⟩
    intro w' I' arr1 et1 y fp2 x2 hI hII hk hb1 hn ho hnd2 hd hb2 _ hs
    have hx : x2 = y := by
      have : setAt Alg.std t m x [] t m y = castD t t y := by cases t <;> simp [setAt]
      rw [this] at hs
      simpa [castD] using hs.symm
    subst hx
    exact ⟨fp2, arr1, et1, hb1, hn, ho, hnd2, fun k hk => .inr hk⟩
  | cons s p ih =>
    intro t m cs x fp b off arr et l' t' t2 m' x' cs' hb hsz hcs hbf hnd h hg hw
    cases t with
    | pair a c =>
      obtain ⟨c1, c2, f1, f2, rfl, rfl, h1, h2⟩ := h
      have e1 := h1.len
      have e2 := h2.len
      simp only [Ty.sz] at hsz hcs
      rw [seg_split] at hcs
      have hl1 : (seg arr off a.sz).length = a.sz := seg_length (by omega)
      obtain ⟨rfl, rfl⟩ := List.append_inj hcs (by omega)
      rw [List.nodup_append] at hnd
      obtain ⟨hn1, hn2, hn12⟩ := hnd
      have hb1 : b ∉ f1 := fun hh => hbf (List.mem_append_left _ hh)
      have hb2 : b ∉ f2 := fun hh => hbf (List.mem_append_right _ hh)
      cases s with
      | fst =>
        simp only [walk, List.take_left' e1] at hw
        simp only [getAt] at hg
        obtain ⟨b', off', fp1, arr0, et0, rfl, e, ho, hnd1, hsub, hbn, hwh, hh0, hcs', hsz', hlens⟩ := ih hb (by omega) rfl hb1 hn1 h1 hg hw
        refine ⟨b', off', fp1, arr0, et0, rfl, e, ho, hnd1, fun k hk => List.mem_append_left _ (hsub k hk), hbn, ?_, hh0, hcs', hsz', ?_⟩
        · rcases hwh with ⟨e, h3, h4⟩ | h3
          · exact .inl ⟨e, h3, by simp only [Ty.sz]; omega⟩
          · exact .inr (List.mem_append_left _ h3)
        · intro w' I' arr1 et1 y fp2 x2 hI hII hk hb1' hn ho' hnd2 hd hbb hbb' hs
          simp only [setAt] at hs
          split at hs
          · rename_i z hz
            cases hs
            obtain ⟨fp3, arrb, etb, g1, g2, g3, g4, g5⟩ := hlens w' I' arr1 et1 y fp2 z hI hII
              (fun k hkb hkk => hk k hkb (hkk.imp (fun q => ⟨List.mem_append_left _ q.1, q.2⟩) id)) hb1' hn ho' hnd2 (fun k hk2 hkf => hd k hk2 (List.mem_append_left _ hkf)) hbb hbb' hz
            have hf2 : ∀ q ∈ f2, w'.heap[q]? = w.heap[q]? := fun q hq => by
              refine hk q ?_ (.inl ⟨List.mem_append_right _ hq, fun hq1 => hn12 q (hsub q hq1) q hq rfl⟩)
              rintro rfl
              rcases hwh with ⟨e, _⟩ | h3
              · exact hb2 (e ▸ hq)
              · exact hn12 _ h3 _ hq rfl
            refine ⟨fp3 ++ f2, arrb, etb, g1, ⟨g2.size, fun i hi => g2.same i (by simp only [Ty.sz] at hi; omega)⟩, ?_, ?_, ?_⟩
            · simp only [Ty.sz]
              rw [seg_split]
              refine ⟨_, _, fp3, f2, rfl, rfl, g3, ?_⟩
              rw [g2.seg (i := off + a.sz) (k := c.sz) (by omega)]
              exact Own.frame hI hII h2 hf2
            · rw [List.nodup_append]
              refine ⟨g4, hn2, fun u hu v hv huv => ?_⟩
              subst huv
              rcases g5 u hu with hu1 | hu2
              · exact hn12 u hu1.1 u hv rfl
              · exact hn12 u (hsub u (hd u hu2 (List.mem_append_right _ hv))) u hv rfl
            · intro k hk3
              rcases List.mem_append.1 hk3 with hk3 | hk3
              · exact (g5 k hk3).imp (fun q => ⟨List.mem_append_left _ q.1, q.2⟩) id
              · exact .inl ⟨List.mem_append_right _ hk3, fun hq1 => hn12 k (hsub k hq1) k hk3 rfl⟩
          · cases hs
      | snd =>
        simp only [walk, List.drop_left' e1, Option.map_some] at hw
        simp only [getAt] at hg
        obtain ⟨b', off', fp1, arr0, et0, rfl, e, ho, hnd1, hsub, hbn, hwh, hh0, hcs', hsz', hlens⟩ := ih hb (by omega) rfl hb2 hn2 h2 hg hw
        refine ⟨b', off', fp1, arr0, et0, rfl, e, ho, hnd1, fun k hk => List.mem_append_right _ (hsub k hk), hbn, ?_, hh0, hcs', hsz', ?_⟩
        · rcases hwh with ⟨e, h3, h4⟩ | h3
          · exact .inl ⟨e, by omega, by simp only [Ty.sz]; omega⟩
          · exact .inr (List.mem_append_right _ h3)
        · intro w' I' arr1 et1 y fp2 x2 hI hII hk hb1' hn ho' hnd2 hd hbb hbb' hs
          simp only [setAt] at hs
          split at hs
          · rename_i z hz
            cases hs
            obtain ⟨fp3, arrb, etb, g1, g2, g3, g4, g5⟩ := hlens w' I' arr1 et1 y fp2 z hI hII
              (fun k hkb hkk => hk k hkb (hkk.imp (fun q => ⟨List.mem_append_right _ q.1, q.2⟩) id)) hb1' hn ho' hnd2 (fun k hk2 hkf => hd k hk2 (List.mem_append_right _ hkf)) hbb hbb' hz
            have hf1 : ∀ q ∈ f1, w'.heap[q]? = w.heap[q]? := fun q hq => by
              refine hk q ?_ (.inl ⟨List.mem_append_left _ hq, fun hq1 => hn12 q hq q (hsub q hq1) rfl⟩)
              rintro rfl
              rcases hwh with ⟨e, _⟩ | h3
              · exact hb1 (e ▸ hq)
              · exact hn12 _ hq _ h3 rfl
            refine ⟨f1 ++ fp3, arrb, etb, g1, ⟨g2.size, fun i hi => g2.same i (by simp only [Ty.sz] at hi; omega)⟩, ?_, ?_, ?_⟩
            · simp only [Ty.sz]
              rw [seg_split]
              refine ⟨_, _, f1, fp3, rfl, rfl, ?_, g3⟩
              rw [g2.seg (i := off) (k := a.sz) (by omega)]
              exact Own.frame hI hII h1 hf1
            · rw [List.nodup_append]
              refine ⟨hn1, g4, fun u hu v hv huv => ?_⟩
              subst huv
              rcases g5 u hv with hu1 | hu2
              · exact hn12 u hu u hu1.1 rfl
              · exact hn12 u hu u (hsub u (hd u hu2 (List.mem_append_left _ hu))) rfl
            · intro k hk3
              rcases List.mem_append.1 hk3 with hk3 | hk3
              · exact .inl ⟨List.mem_append_left _ hk3, fun hq1 => hn12 k hk3 k (hsub k hq1) rfl⟩
              · exact (g5 k hk3).imp (fun q => ⟨List.mem_append_right _ q.1, q.2⟩) id
          · cases hs
      | idx i => simp [walk] at hw
    | sl e =>
      cases s with
      | fst => simp [walk] at hw
      | snd => simp [walk] at hw
      | idx i =>
        cases m with
        | ow m1 =>
          rcases h.2 with ⟨rfl, rfl, rfl⟩ | ⟨b1, c, arrs, ets, fps, hc, hb1, h1, h2, h3, h4, rfl, hel⟩
          · simp [walk] at hw
          · subst hc
            simp only [walk, hb1, Nat.zero_add] at hw
            split at hw
            · rename_i hlt
              simp only [getAt, getL_std _ _ _ hlt] at hg
              rw [List.nodup_cons] at hnd
              obtain ⟨hb1n, hnf⟩ := hnd
              obtain ⟨hnj, hdj⟩ := nodup_flatten.1 hnf
              have hbne : b ≠ b1 := fun hh => hbf (by simp [hh])
              have hin : ∀ j, j < List.length x → j * e.sz + e.sz ≤ arrs.size := fun j hj => by
                have : (j + 1) * e.sz ≤ c * e.sz := Nat.mul_le_mul_right _ (by omega)
                rw [Nat.add_mul, Nat.one_mul] at this
                omega
              have hb1i : b1 ∉ fps.getD i [] := fun hh => hb1n (mem_flatten_getD.2 ⟨i, hh⟩)
              obtain ⟨b', off', fp1, arr0, et0, rfl, ee, ho, hnd1, hsub, hbn, hwh, hh0, hcs', hsz', hlens⟩ := ih hb1 (hin i hlt) rfl hb1i (hnj i) (hel i hlt) hg hw
              have hbb'0 : b' ≠ b := by
                rintro rfl
                rcases hwh with ⟨e, _⟩ | h5
                · exact hbne e
                · exact hbf (List.mem_cons_of_mem _ (mem_flatten_getD.2 ⟨i, h5⟩))
              refine ⟨b', off', fp1, arr0, et0, rfl, ee, ho, hnd1, fun k hk => List.mem_cons_of_mem _ (mem_flatten_getD.2 ⟨i, hsub k hk⟩), hbn, ?_, hh0, hcs', hsz', ?_⟩
              · rcases hwh with ⟨e, _⟩ | h5
                · exact .inr (by simp [e])
                · exact .inr (List.mem_cons_of_mem _ (mem_flatten_getD.2 ⟨i, h5⟩))
              · intro w' I' arr1 et1 y fp2 x2 hI hII hk hb1' hn ho' hnd2 hd hbb hbb' hs
                simp only [setAt, getL_std _ _ _ hlt] at hs
                split at hs
                · rename_i z hz
                  cases hs
                  have hb1fp1 : b1 ∉ fp1 := fun hh => hb1i (hsub _ hh)
                  have hb1fp2 : b1 ∉ fp2 := fun hh => hb1fp1 (hd b1 hh (by simp))
                  obtain ⟨fp3, arrb, etb, g1, g2, g3, g4, g5⟩ := hlens w' I' arr1 et1 y fp2 z hI hII
                    (fun k hkb hkk => hk k hkb (.inl (by
                      rcases hkk with q | q
                      · exact ⟨List.mem_cons_of_mem _ (mem_flatten_getD.2 ⟨i, q.1⟩), q.2⟩
                      · subst q; exact ⟨by simp, hb1fp1⟩)))
                    hb1' hn ho' hnd2 (fun k hk2 hkf => hd k hk2 (List.mem_cons_of_mem _ (mem_flatten_getD.2 ⟨i, hkf⟩))) hb1fp2 hbb' hz
                  have hetb : w'.heap[b]? = some (.cells arr et (0, 0)) := (hk b (Ne.symm hbb'0) (.inr rfl)).trans hb
                  have hb3 : b1 ∉ fp3 := fun hh => by
                    rcases g5 b1 hh with q | q
                    · exact hb1i q.1
                    · exact hb1fp2 q
                  have hfi : i < fps.length := by omega
                  have hzero : (arrb.size = c * e.sz) := by rw [g2.size, h3]
                  refine ⟨b1 :: (fps.set i fp3).flatten, arr, et, hetb, ⟨rfl, fun _ _ => rfl⟩, ?_, ?_, ?_⟩
                  · refine ⟨by simpa [Alg.std] using h.1, .inr ⟨b1, c, arrb, etb, fps.set i fp3, ?_, g1, by simpa [Alg.std] using h1, h2, hzero, by simp [Alg.std, h4], rfl, ?_⟩⟩
                    · rw [← hcs]; simp [Alg.std]
                    · intro j hj
                      have hj' : j < List.length x := by simpa [Alg.std] using hj
                      rw [getD_set hfi]
                      by_cases hji : j = i
                      · subst hji
                        simp only [if_true]
                        have : (Alg.std.setL x j z)[j]'hj = z := by simp [Alg.std]
                        rw [this]
                        exact g3
                      · simp only [hji, if_false]
                        have : (Alg.std.setL x i z)[j]'hj = x[j]'hj' := by simp [Alg.std, Ne.symm hji]
                        rw [this]
                        have hsg : seg arrb (j * e.sz) e.sz = seg arrs (j * e.sz) e.sz := by
                          refine g2.seg ?_
                          rcases Nat.lt_or_gt_of_ne hji with q | q
                          · left
                            have : (j + 1) * e.sz ≤ i * e.sz := Nat.mul_le_mul_right _ q
                            rw [Nat.add_mul, Nat.one_mul] at this
                            exact this
                          · right
                            have : (i + 1) * e.sz ≤ j * e.sz := Nat.mul_le_mul_right _ q
                            rw [Nat.add_mul, Nat.one_mul] at this
                            exact this
                        rw [hsg]
                        refine Own.frame hI hII (hel j hj') fun q hq => hk q ?_ (.inl ⟨List.mem_cons_of_mem _ (mem_flatten_getD.2 ⟨j, hq⟩), fun hq1 => hdj j i hji q hq (hsub q hq1)⟩)
                        rintro rfl
                        rcases hwh with ⟨e, _⟩ | h5
                        · exact hb1n (mem_flatten_getD.2 ⟨j, e ▸ hq⟩)
                        · exact hdj j i hji _ hq h5
                  · rw [List.nodup_cons]
                    refine ⟨fun hh => ?_, nodup_flatten.2 ⟨fun j => ?_, fun j k hjk q hq hq2 => ?_⟩⟩
                    · obtain ⟨j, hj⟩ := mem_flatten_getD.1 hh
                      rw [getD_set hfi] at hj
                      split at hj
                      · exact hb3 hj
                      · exact hb1n (mem_flatten_getD.2 ⟨j, hj⟩)
                    · rw [getD_set hfi]
                      split
                      · exact g4
                      · exact hnj j
                    · rw [getD_set hfi] at hq hq2
                      have key : ∀ j, j ≠ i → q ∈ fp3 → q ∉ fps.getD j [] := fun j hji h3 hj => by
                        rcases g5 q h3 with r | r
                        · exact hdj i j (Ne.symm hji) q r.1 hj
                        · exact hdj i j (Ne.symm hji) q (hsub q (hd q r (List.mem_cons_of_mem _ (mem_flatten_getD.2 ⟨j, hj⟩)))) hj
                      split at hq
                      · split at hq2
                        · omega
                        · exact key k (by assumption) hq hq2
                      · split at hq2
                        · exact key j (by assumption) hq2 hq
                        · exact hdj j k hjk q hq hq2
                  · intro k hk3
                    rcases List.mem_cons.1 hk3 with rfl | hk3
                    · exact .inl ⟨by simp, hb1fp1⟩
                    · obtain ⟨j, hj⟩ := mem_flatten_getD.1 hk3
                      rw [getD_set hfi] at hj
                      split at hj
                      · exact (g5 k hj).imp (fun q => ⟨List.mem_cons_of_mem _ (mem_flatten_getD.2 ⟨i, q.1⟩), q.2⟩) id
                      · rename_i hji
                        exact .inl ⟨List.mem_cons_of_mem _ (mem_flatten_getD.2 ⟨j, hj⟩), fun hq1 => hdj j i hji k hj (hsub k hq1)⟩
                · cases hs
            · cases hw
        | sh => simp [getAt] at hg
        | no => simp [getAt] at hg
        | pr _ _ => simp [getAt] at hg
    | int k => simp [walk] at hw
    | bool => simp [walk] at hw
    | str => simp [walk] at hw
    | unit => simp [walk] at hw

end Go.Vee
