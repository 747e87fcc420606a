import Derived.Test.YtcdlgemhmmkneaaVG
set_option linter.unusedSimpArgs false
set_option linter.unusedVariables false
namespace Go.Vee
open Go

/-- 'Own.lens' for a row whose header is in hand. -/
theorem Own.lensRow {w : World} {I : Nat → Prop} {e : Ty} {m1 : Md} {x : List e.den} {hdr : Value} {fp : List Nat} {i : Nat} {q : List Stp}
    {l' : Option (Nat × Nat)} {t' t2 : Ty} {m' : Md} {x' : t'.den} {cs' : List Value}
    (hnd : fp.Nodup) (h : Own w I (.sl e) (.ow m1) [hdr] x fp) (hg : getAt Alg.std (.sl e) (.ow m1) x (.idx i :: q) = some ⟨t', m', x'⟩)
    (hw : walk w (.sl e) [hdr] none (.idx i :: q) = some (t2, cs', l')) :
    ∃ b' off' fp1 arr0 et0, l' = some (b', off') ∧ t2 = t' ∧ Own w I t' m' cs' x' fp1 ∧ fp1.Nodup ∧ (∀ k ∈ fp1, k ∈ fp) ∧ b' ∉ fp1 ∧ b' ∈ fp ∧
      w.heap[b']? = some (.cells arr0 et0 (0, 0)) ∧ cs' = seg arr0 off' t'.sz ∧ off' + t'.sz ≤ arr0.size ∧
      ∀ (w' : World) (I' : Nat → Prop) (arr1 : Array Value) (et1 : TypeId) (y : t'.den) (fp2 : List Nat) (x2 : List e.den),
        (∀ k, I k → w'.heap[k]? = w.heap[k]?) → (∀ k, I k → I' k) →
        (∀ k, k ≠ b' → (k ∈ fp ∧ k ∉ fp1) → w'.heap[k]? = w.heap[k]?) →
        w'.heap[b']? = some (.cells arr1 et1 (0, 0)) → Near arr0 arr1 off' t'.sz →
        Own w' I' t' m' (seg arr1 off' t'.sz) y fp2 → fp2.Nodup → (∀ k ∈ fp2, k ∈ fp → k ∈ fp1) → b' ∉ fp2 →
        setAt Alg.std (.sl e) (.ow m1) x (.idx i :: q) t' m' y = some x2 →
        ∃ fp3, Own w' I' (.sl e) (.ow m1) [hdr] x2 fp3 ∧ fp3.Nodup ∧ (∀ k ∈ fp3, (k ∈ fp ∧ k ∉ fp1) ∨ k ∈ fp2) ∧
          (∀ b off n c arr, hdr = .slice (some ⟨b, off, none⟩) n c → w.heap[b]? = some arr → ∃ a1 a2 t1 t2, arr = .cells a1 t1 (0, 0) ∧ w'.heap[b]? = some (.cells a2 t2 (0, 0))) := by
  rcases h.2 with ⟨hh, rfl, rfl⟩ | ⟨b1, c, arrs, ets, fps, hc, hb1, h1, h2, h3, h4, rfl, hel⟩
  · cases hh; simp [walk] at hw
  · cases hc
    simp only [walk, hb1, Nat.zero_add] at hw
    split at hw
    · rename_i hlt
      simp only [getAt, getL_std _ _ _ hlt] at hg
      rw [List.nodup_cons] at hnd
      obtain ⟨hb1n, hnf⟩ := hnd
      obtain ⟨hnj, hdj⟩ := nodup_flatten.1 hnf
      have hin : ∀ j, j < List.length x → j * e.sz + e.sz ≤ arrs.size := fun j hj => by
        have : (j + 1) * e.sz ≤ c * e.sz := Nat.mul_le_mul_right _ (by omega)
        rw [Nat.add_mul, Nat.one_mul] at this
        omega
      have hb1i : b1 ∉ fps.getD i [] := fun hh => hb1n (mem_flatten_getD.2 ⟨i, hh⟩)
      obtain ⟨b', off', fp1, arr0, et0, rfl, ee, ho, hfp1nd, hsub, hbn, hwh, hh0, hcs', hsz', hlens⟩ := Own.lens q hb1 (hin i hlt) rfl hb1i (hnj i) (hel i hlt) hg hw
      refine ⟨b', off', fp1, arr0, et0, rfl, ee, ho, hfp1nd, fun k hk => List.mem_cons_of_mem _ (mem_flatten_getD.2 ⟨i, hsub k hk⟩), hbn, ?_, hh0, hcs', hsz', ?_⟩
      · rcases hwh with ⟨e, _⟩ | h5
        · simp [e]
        · exact List.mem_cons_of_mem _ (mem_flatten_getD.2 ⟨i, h5⟩)
      · intro w' I' arr1 et1 y fp2 x2 hI hII hk hb1' hn ho' hnd2 hd hbb' hs
        simp only [setAt, getL_std _ _ _ hlt] at hs
        split at hs
        · rename_i z hz
          cases hs
          have hb1fp1 : b1 ∉ fp1 := fun hh => hb1i (hsub _ hh)
          have hb1fp2 : b1 ∉ fp2 := fun hh => hb1fp1 (hd b1 hh (by simp))
          obtain ⟨fp3, arrb, etb, g1, g2, g3, g4, g5⟩ := hlens w' I' arr1 et1 y fp2 z hI hII
            (fun k hkb hkk => hk k hkb (by
              rcases hkk with q | q
              · exact ⟨List.mem_cons_of_mem _ (mem_flatten_getD.2 ⟨i, q.1⟩), q.2⟩
              · subst q; exact ⟨by simp, hb1fp1⟩))
            hb1' hn ho' hnd2 (fun k hk2 hkf => hd k hk2 (List.mem_cons_of_mem _ (mem_flatten_getD.2 ⟨i, hkf⟩))) hb1fp2 hbb' hz
          have hb3 : b1 ∉ fp3 := fun hh => by
            rcases g5 b1 hh with q | q
            · exact hb1i q.1
            · exact hb1fp2 q
          have hfi : i < fps.length := by omega
          have hzero : (arrb.size = c * e.sz) := by rw [g2.size, h3]
          refine ⟨b1 :: (fps.set i fp3).flatten, ?_, ?_, ?_, ?_⟩
          · refine ⟨by simpa [Alg.std] using h.1, .inr ⟨b1, c, arrb, etb, fps.set i fp3, by simp [Alg.std], g1, by simpa [Alg.std] using h1, h2, hzero, by simp [Alg.std, h4], rfl, ?_⟩⟩
            intro j hj
            have hj' : j < List.length x := by simpa [Alg.std] using hj
            rw [getD_set hfi]
            by_cases hji : j = i
            · subst hji
              simp only [if_true]
              have : (Alg.std.setL x j z)[j]'hj = z := by simp [Alg.std]
              rw [this]
              exact g3
            · simp only [hji, if_false]
              have : (Alg.std.setL x i z)[j]'hj = x[j]'hj' := by simp [Alg.std, Ne.symm hji]
              rw [this]
              have hsg : seg arrb (j * e.sz) e.sz = seg arrs (j * e.sz) e.sz := by
                refine g2.seg ?_
                rcases Nat.lt_or_gt_of_ne hji with q | q
                · left
                  have : (j + 1) * e.sz ≤ i * e.sz := Nat.mul_le_mul_right _ q
                  rw [Nat.add_mul, Nat.one_mul] at this
                  exact this
                · right
                  have : (i + 1) * e.sz ≤ j * e.sz := Nat.mul_le_mul_right _ q
                  rw [Nat.add_mul, Nat.one_mul] at this
                  exact this
              rw [hsg]
              refine Own.frame hI hII (hel j hj') fun q hq => hk q ?_ ⟨List.mem_cons_of_mem _ (mem_flatten_getD.2 ⟨j, hq⟩), fun hq1 => hdj j i hji q hq (hsub q hq1)⟩
              rintro rfl
              rcases hwh with ⟨e, _⟩ | h5
              · exact hb1n (mem_flatten_getD.2 ⟨j, e ▸ hq⟩)
              · exact hdj j i hji _ hq h5
          · rw [List.nodup_cons]
            refine ⟨fun hh => ?_, nodup_flatten.2 ⟨fun j => ?_, fun j k hjk q hq hq2 => ?_⟩⟩
            · obtain ⟨j, hj⟩ := mem_flatten_getD.1 hh
              rw [getD_set hfi] at hj
              split at hj
              · exact hb3 hj
              · exact hb1n (mem_flatten_getD.2 ⟨j, hj⟩)
            · rw [getD_set hfi]
              split
              · exact g4
              · exact hnj j
            · rw [getD_set hfi] at hq hq2
              have key : ∀ j, j ≠ i → q ∈ fp3 → q ∉ fps.getD j [] := fun j hji h3 hj => by
                rcases g5 q h3 with r | r
                · exact hdj i j (Ne.symm hji) q r.1 hj
                · exact hdj i j (Ne.symm hji) q (hsub q (hd q r (List.mem_cons_of_mem _ (mem_flatten_getD.2 ⟨j, hj⟩)))) hj
              split at hq
              · split at hq2
                · omega
                · exact key k (by assumption) hq hq2
              · split at hq2
                · exact key j (by assumption) hq2 hq
                · exact hdj j k hjk q hq hq2
          · intro k hk3
            rcases List.mem_cons.1 hk3 with rfl | hk3
            · exact .inl ⟨by simp, hb1fp1⟩
            · obtain ⟨j, hj⟩ := mem_flatten_getD.1 hk3
              rw [getD_set hfi] at hj
              split at hj
              · exact (g5 k hj).imp (fun q => ⟨List.mem_cons_of_mem _ (mem_flatten_getD.2 ⟨i, q.1⟩), q.2⟩) id
              · rename_i hji
                exact .inl ⟨List.mem_cons_of_mem _ (mem_flatten_getD.2 ⟨j, hj⟩), fun hq1 => hdj j i hji k hj (hsub k hq1)⟩
          · intro b off n c2 ob hq hob
            cases hq
            rw [hb1] at hob
            cases hob
            exact ⟨_, _, _, _, rfl, g1⟩
        · cases hs
    · cases hw

end Go.Vee
