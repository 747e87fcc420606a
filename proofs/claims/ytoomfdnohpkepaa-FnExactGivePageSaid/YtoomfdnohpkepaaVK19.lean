/-
  Contracts of functions of the program: what each returns for all arguments that its precondition lets in.
-/
import Derived.Test.YtoomfdnohpkepaaVK18
set_option linter.unusedSimpArgs false
set_option linter.unusedVariables false
set_option maxRecDepth 100000
set_option maxHeartbeats 4000000
set_option synthInstance.maxHeartbeats 4000000
set_option synthInstance.maxSize 20000
namespace Go.Vee
open Go
def one1 {α : Type} (p : α → Bool) : List α → Prop
  | [] => True
  | x :: l => (p x = true → l.any p = false) ∧ one1 p l
theorem filter_none {α : Type} (p : α → Bool) (l : List α) (h : l.any p = false) : l.filter (fun x => !p x) = l := by
  rw [List.filter_eq_self]
  intro x hx
  have := List.any_eq_false.1 h x hx
  simpa using this
theorem findG_one {α : Type} (p : α → Bool) : ∀ (l : List α) (i : Int), one1 p l → (l.any p = true → ∃ k : Nat, findG p l i = i + k ∧ k < l.length ∧ l.take k ++ l.drop (k + 1) = l.filter (fun x => !p x)) ∧ (l.any p = false → findG p l i = -1 ∧ l.filter (fun x => !p x) = l)
  | [], i, _ => ⟨fun h => by simp at h, fun _ => ⟨rfl, rfl⟩⟩
  | x :: l, i, ⟨h1, h2⟩ => by
    obtain ⟨g1, g2⟩ := findG_one p l (i + 1) h2
    cases hp : p x with
    | true =>
      refine ⟨fun _ => ⟨0, by simp [findG, hp], by simp, ?_⟩, fun h => by simp [hp] at h⟩
      have := filter_none p l (h1 hp)
      simp [List.filter_cons, hp, this]
    | false =>
      refine ⟨fun h => ?_, fun h => ?_⟩
      · simp only [List.any_cons, hp, Bool.false_or] at h
        obtain ⟨k, e1, e2, e3⟩ := g1 h
        refine ⟨k + 1, by simp only [findG, hp, Bool.false_eq_true, if_false, e1]; omega, by simp; omega, ?_⟩
        simp [List.filter_cons, hp, e3]
      · simp only [List.any_cons, hp, Bool.false_or] at h
        obtain ⟨e1, e2⟩ := g2 h
        exact ⟨by simp [findG, hp, e1], by simp [List.filter_cons, hp, e2]⟩
theorem del_find {α : Type} (p : α → Bool) (l : List α) (h : one1 p l) : (0 ≤ findG p l 0 → findG p l 0 < l.length ∧ l.take (findG p l 0).toNat ++ l.drop (findG p l 0 + 1).toNat = l.filter (fun x => !p x)) ∧ (¬ 0 ≤ findG p l 0 → l.filter (fun x => !p x) = l) := by
  obtain ⟨g1, g2⟩ := findG_one p l 0 h
  cases ha : l.any p with
  | true =>
    obtain ⟨k, e1, e2, e3⟩ := g1 ha
    rw [e1]
    refine ⟨fun _ => ⟨by omega, ?_⟩, fun h => by omega⟩
    rw [show (0 + (k : Int)).toNat = k by omega, show (0 + (k : Int) + 1).toNat = k + 1 by omega]
    exact e3
  | false =>
    obtain ⟨e1, e2⟩ := g2 ha
    rw [e1]
    exact ⟨fun h => by omega, fun _ => e2⟩
theorem rise_lt : ∀ (l : List Int) (x : Int), rise (x :: l) = true → ∀ y ∈ l, x < y
  | [], _, _, y, hy => by simp at hy
  | z :: l, x, h, y, hy => by
    simp only [rise, Bool.and_eq_true, decide_eq_true_eq] at h
    rcases List.mem_cons.1 hy with rfl | hy
    · exact h.1
    · have := rise_lt l z h.2 y hy
      omega
theorem rise_tail (x : Int) (l : List Int) (h : rise (x :: l) = true) : rise l = true := by
  cases l with
  | nil => rfl
  | cons y l => simp only [rise, Bool.and_eq_true] at h; exact h.2
theorem rise_one (n : Int) : ∀ l : List Int, rise l = true → one1 (fun x => decide (n = x)) l
  | [], _ => trivial
  | x :: l, h => ⟨fun hx => by
      have hx : n = x := by simpa using hx
      rw [List.any_eq_false]
      intro y hy
      have := rise_lt l x h y hy
      simp; omega, rise_one n l (rise_tail x l h)⟩
theorem one1_idx {α : Type} (p : α → Bool) (d : α) : ∀ l : List α, (∀ i j, i < j → j < l.length → p (l.getD i d) = true → p (l.getD j d) = true → False) → one1 p l
  | [], _ => trivial
  | x :: l, h => ⟨fun hx => by
      rw [List.any_eq_false]
      intro y hy hp
      obtain ⟨j, hj, rfl⟩ := List.mem_iff_getElem.1 hy
      exact h 0 (j + 1) (by omega) (by simp; omega) (by simpa using hx) (by simpa [List.getD_eq_getElem?_getD, hj] using hp),
    one1_idx p d l fun i j hij hj h1 h2 => h (i + 1) (j + 1) (by omega) (by simp; omega) (by simpa using h1) (by simpa using h2)⟩
theorem dup_none (l : List PutT) : ∀ n, dupTo l n = false → ∀ i, i < n → seenP l i i = false
  | 0, _, i, hi => by omega
  | n + 1, h, i, hi => by
    simp only [dupTo, Bool.or_eq_false_iff] at h
    rcases Nat.lt_or_eq_of_le (Nat.le_of_lt_succ hi) with g | g
    · exact dup_none l n h.1 i g
    · subst g; exact h.2
theorem puts_one (n : Int) (l : List PutT) (h : dupTo l l.length = false) : one1 (fun x : PutT => decide (x.1 = n)) l :=
  one1_idx _ putD l fun i j hij hj h1 h2 => by
    have hs := dup_none l _ h j hj
    unfold seenP at hs
    have := List.any_eq_false.1 hs (l.getD i putD) (by
      rw [List.mem_take_iff_getElem]
      exact ⟨i, by omega, by simp [List.getD_eq_getElem?_getD, show i < l.length by omega]⟩)
    simp only [decide_eq_true_eq] at this h1 h2
    exact this (by rw [h2, h1])
def without (l : List Int) (n : Int) : List Int := l.filter (fun x => !decide (n = x))
def putsNot (l : List PutT) (n : Int) : List PutT := l.filter (fun x => !decide (x.1 = n))
def giveD (d : DraftT) (n : Int) : DraftT := ((d.1.1, putsNot d.1.2.1 n, ()), d.2.1, without d.2.2.1 n, ())
theorem diskFault_dup (d : DiskT) (h : diskFault d = 0) : dupTo d.2.1 d.2.1.length = false := by
  unfold diskFault at h
  repeat' split at h
  all_goals first | (exfalso; omega) | skip
  all_goals first | simp_all | skip
theorem draftFault_rise (d : DraftT) (h : draftFault d = 0) : rise d.2.2.1 = true := by
  unfold draftFault at h
  split at h
  · omega
  · unfold draftRest at h
    repeat' split at h
    all_goals first | (exfalso; omega) | skip
    all_goals simp_all
theorem find_contains (l : List Int) (n : Int) : decide (0 ≤ findG (fun x => decide (n = x)) l 0) = l.contains n := by
  rw [findG_any _ _ _ (by omega), any_contains]
theorem filter_step {α : Type} (p : α → Bool) (l : List α) (d : α) (i : Nat) (h : i < l.length) : (l.take (i + 1)).filter p = if p (l.getD i d) = true then (l.take i).filter p ++ [l.getD i d] else (l.take i).filter p := by
  have e : l.take (i + 1) = l.take i ++ [l.getD i d] := by
    rw [List.take_add_one, List.getElem?_eq_getElem h]; simp [List.getD_eq_getElem?_getD, h]
  rw [e, List.filter_append]
  generalize l.getD i d = x
  cases hp : p x <;> simp [List.filter_cons, hp]
theorem filter_len {α : Type} (p : α → Bool) (l : List α) (i : Nat) : ((l.take i).filter p).length ≤ l.length := Nat.le_trans (List.length_filter_le _ _) (by simp; omega)
def giveP (d : DraftT) (id : Int) : Int × DraftT × Unit := if draftFault d ≠ 0 then (draftFault d, zDraft, ()) else if d.2.2.1.contains id = false then (4, zDraft, ()) else (0, giveD d id, ())
theorem totL_filter {α : Type} (f : α → Nat) (p : α → Bool) : ∀ l : List α, totL f (l.filter p) ≤ totL f l
  | [] => by simp
  | x :: l => by
    have := totL_filter f p l
    simp only [List.filter_cons]
    split
    · simp only [totL]; omega
    · simp only [totL]; omega
theorem giveP_tot (d : DraftT) (id : Int) : tot (.pair (.pair (.sl (.sl (.int .u8))) (.pair (.sl (.pair (.int .i64) (.pair (.sl (.int .u8)) .unit))) .unit)) (.pair (.sl (.int .i64)) (.pair (.sl (.int .i64)) .unit))) (giveP d id).2.1 ≤ tot (.pair (.pair (.sl (.sl (.int .u8))) (.pair (.sl (.pair (.int .i64) (.pair (.sl (.int .u8)) .unit))) .unit)) (.pair (.sl (.int .i64)) (.pair (.sl (.int .i64)) .unit))) d := by
  unfold giveP
  split
  · simp [tot, totL]
  split
  · simp [tot, totL]
  · have e1 : tot (.sl tPut) (putsNot d.1.2.1 id) ≤ tot (.sl tPut) d.1.2.1 := totL_filter _ _ _
    have e2 : (without d.2.2.1 id).length ≤ d.2.2.1.length := List.length_filter_le _ _
    simp only [giveD, tDisk, tPut, tot_p, tot_u, tot_int] at e1 ⊢
    omega

def F_sl_Delete_int64 (s : List (Int)) (i : Int) (j : Int) : List (Int) := s.take i.toNat ++ s.drop j.toNat
def Q_sl_Delete_int64 (s : List (Int)) (i : Int) (j : Int) : Prop := 0 ≤ i ∧ i ≤ j ∧ j ≤ s.length
open Go.Proofs Go.RowKit Go.Lib in
theorem del_173 (w : World) (b c i j n : Nat) (arr : Array Value) (et : TypeId) (hb : w.heap[b]? = some (.cells arr et (0, 0))) (hsz : arr.size = c) (hn : n ≤ c) (hc : c ≤ 9223372036854775807) (hij : i ≤ j) (hj : j ≤ n) (h1 : ∀ k, k < n → ∀ u, arr[k]? = some u → u.oneCell' = true) :
    Calls pg 173 #[.slice (some ⟨b, 0, none⟩) n c, .int .i64 i, .int .i64 j] w fun e w' => e = .returned (.slice (some ⟨b, 0, none⟩) (n - (j - i)) c) ∧
      ∃ arr', Keeps (fun k => k = b) w w' ∧ w'.heap[b]? = some (.cells arr' et (0, 0)) ∧ arr'.size = arr.size ∧ (∀ k, k < i → arr'[k]? = arr[k]?) ∧ ∀ k, k < (n - j) → arr'[i + k]? = arr[j + k]? := by
  by_cases heq : i = j
  · subst heq
    have h0 : Calls pg 173 #[.slice (some ⟨b, 0, none⟩) n c, .int .i64 i, .int .i64 i] w fun e w' => e = .returned (.slice (some ⟨b, 0, none⟩) n c) ∧ w' = w := by
      go_enter Go.Proofs.Try.func173, Go.Proofs.Try.ntmps173
      go_wp2
      all_goals (go_ret; exact ⟨rfl, rfl⟩)
    refine h0.mono ?_
    rintro e w' ⟨rfl, rfl⟩
    exact ⟨by rw [Nat.sub_self, Nat.sub_zero], arr, Keeps.refl _ _, hb, rfl, fun _ _ => rfl, fun _ _ => rfl⟩
  · have hlt : i < j := by omega
    obtain ⟨news, hnews⟩ : ∃ news, news = seg arr (j) ((n - j)) := ⟨_, rfl⟩
    have hbd : j + (n - j) ≤ arr.size := by omega
    have hlen : news.length = (n - j) := by rw [hnews]; exact seg_length hbd
    have hget : ∀ t, t < (n - j) → news[t]? = arr[j + t]? := fun t ht => by rw [hnews]; exact seg_get ht
    obtain ⟨A, hA, hsrc⟩ : ∃ A : Addr, (if c = j then some (⟨b, 0, none⟩ : Addr) else some ⟨b, j, none⟩) = some A ∧ Hid (∀ t u, news[t]? = some u → w.drew.cell? (A.add t) = some u) := by
      by_cases h : c = j
      · refine ⟨⟨b, 0, none⟩, by simp [h], fun t u hu => ?_⟩
        have h0 : news.length = 0 := by rw [hlen]; omega
        rw [List.length_eq_zero_iff.1 h0] at hu
        simp at hu
      · refine ⟨⟨b, j, none⟩, by simp [h], fun t u hu => ?_⟩
        have ht : t < (n - j) := by
          have := (List.getElem?_eq_some_iff.1 hu).1
          rwa [hlen] at this
        rw [hget t ht] at hu
        rw [add_lit']
        have hk : j + t < arr.size := by omega
        rw [show w.drew.cell? ⟨b, j + t, none⟩ = w.cell? ⟨b, j + t, none⟩ from rfl, (cell_of_heap hb hk).1]
        rw [Array.getElem?_eq_getElem hk] at hu
        exact hu
    have s1' : news.length = (n - j) * 1 := by omega
    have s1 : Hid (news.length = (n - j) * 1) := s1'
    have s2 : Hid (∀ u ∈ news, u.oneCell' = true) := by
      intro u hu
      obtain ⟨t, ht, rfl⟩ := List.getElem_of_mem hu
      rw [hlen] at ht
      have := hget t ht
      rw [List.getElem?_eq_getElem (by omega)] at this
      exact h1 (j + t) (by omega) _ this.symm
    have s3 : Hid (∀ t, t < news.length → (w.drew.cell? ⟨b, 0 + i * 1 + t, none⟩).isSome = true ∧ w.drew.frozen? ⟨b, 0 + i * 1 + t, none⟩ = false) := by
      intro t ht
      rw [hlen] at ht
      have hk : 0 + i * 1 + t < arr.size := by omega
      exact ⟨by rw [show w.drew.cell? ⟨b, 0 + i * 1 + t, none⟩ = w.cell? ⟨b, 0 + i * 1 + t, none⟩ from rfl, (cell_of_heap hb hk).1]; rfl, (cell_of_heap hb hk).2⟩
    obtain ⟨W1, hW1⟩ : ∃ W1, W1 = w.drew.setCells b (0 + i * 1) news := ⟨_, rfl⟩
    obtain ⟨arr1, g1, g2, g3, g4, g5⟩ := heap_setCells b news (0 + i * 1) w.drew arr et (0, 0) hb (by rw [hlen]; omega)
    rw [← hW1] at g1 g5
    have hzc : (Value.int .i64 0).cells.size = 1 := rfl
    have hcl : ∀ ty, (Builtin.clear_ #[43] ty #[.slice (some ⟨b, (i + (n - j)), none⟩) (n - (i + (n - j))) (c - (i + (n - j)))]).run pg W1 = .ok (.tuple #[]) (W1.setCells b ((i + (n - j))) (Builtin.zeroCells (Value.int .i64 0).cells (n - (i + (n - j)))).toList) :=
      fun ty => run_clear_any W1 43 2 ty _ Go.Proofs.Try.underlying43 Go.Proofs.Try.zeroValue2 (by decide) b ((i + (n - j))) _ _ (by omega) (fun t ht => by
        rw [hzc] at ht
        have hk : (i + (n - j)) + t < arr1.size := by omega
        rw [(cell_of_heap g1 hk).1]; rfl) (fun t ht => by
        rw [hzc] at ht
        exact (cell_of_heap g1 (by omega)).2)
    have hW : Hid (W1 = w.drew.setCells b (0 + i * 1) news) := hW1
    have hmx := mixed
    have hic : i ≤ c := by omega
    have hjc : j ≤ c := by omega
    have hK1 : Hid (W1.heap[b]? = some (.cells arr1 et (0, 0))) := g1
    have hK2 : Hid (Keeps (fun k => k = b) w.drew W1) := g5
    have hK3 : Hid (∀ k, (k < 0 + i * 1 ∨ 0 + i * 1 + news.length ≤ k) → arr1[k]? = arr[k]?) := g3
    have hK4 : Hid (∀ j, j < news.length → arr1[0 + i * 1 + j]? = news[j]?) := g4
    have hK5 : Hid (∀ t, t < (n - j) → news[t]? = arr[j + t]?) := hget
    clear hW1 g1 g5 g3 g4 hget hnews
    go_enter Go.Proofs.Try.func173, Go.Proofs.Try.ntmps173
    go_wp2_with fail
    go_region_law_o (refine step_append_room rfl (.tmp 22) (.tmp 25) 43 rfl 2 Go.Proofs.Try.t2 1 Go.Proofs.Try.underlying43 (by kernel_rfl) rfl b 0 i c (by simp [Act.eval, Act.put]) A (n - j) (c - j) news (by simp [Act.eval, Act.put, hA]) s1.out hsrc.out s2.out (by omega) s3.out ?_; rw [← hW.out])
    go_wp2
    go_ret
    have hzl : (Builtin.zeroCells (Value.int .i64 0).cells (n - (i + (n - j)))).toList.length = (n - (i + (n - j))) * 1 := by simp [Builtin.zeroCells, hzc]
    obtain ⟨arr2, q1, q2, q3, q4, q5⟩ := heap_setCells b (Builtin.zeroCells (Value.int .i64 0).cells (n - (i + (n - j)))).toList ((i + (n - j))) W1 arr1 et (0, 0) hK1.out (by rw [hzl]; omega)
    have k3 := hK3.out
    have k4 := hK4.out
    have k5 := hK5.out
    rw [hlen] at k3 k4
    have kk := ((Keeps.drew (fun k => k = b) w).trans hK2.out).trans q5
    refine ⟨by rw [show n - (j - i) = i + (n - j) by omega]; rfl, arr2, kk, q1, q2.trans g2, fun k hk => ?_, fun k hk => ?_⟩
    · rw [q3 k (by omega), k3 k (by omega)]
    · rw [q3 _ (by omega), show i + k = 0 + i * 1 + k by omega, k4 k (by omega), k5 k (by omega)]
open Go.Proofs Go.RowKit Go.Lib in
theorem delrun_173 : DelRun pg 173 1 := by
  refine ⟨fun w => ?_, fun w b c i j n arr et hb hsz hn hc hij hj h1 => ?_⟩
  · go_enter Go.Proofs.Try.func173, Go.Proofs.Try.ntmps173
    go_wp2
    all_goals (go_ret; exact ⟨rfl, rfl⟩)
  · have hh := del_173 w b c i j n arr et hb (by omega) hn hc hij hj (fun k hk => h1 k (by omega))
    simp only [Nat.mul_one]
    exact hh

def con_sl_Delete_int64 : Con := ⟨false, g3 (pV (.sl (.int .i64)) (.ow .sh)) (pD (.int .i64)) (pD (.int .i64)) fun s i j => ⟨[Q_sl_Delete_int64 s i j], [⟨(.sl (.int .i64)), (.ow .sh), F_sl_Delete_int64 s i j⟩], [.junk]⟩, [(.ow .sh)], false, 0⟩
theorem ok_sl_Delete_int64 : ConOk pg 173 con_sl_Delete_int64 := ok_delete (e := (.int .i64)) (m := .sh) (Enters.of (by kernel_rfl)) delrun_173 Q_sl_Delete_int64 F_sl_Delete_int64 (fun xs i j h => h) (fun xs i j => rfl)

def F_sl_Delete_Put (s : List ((Int) × (List (Int)) × Unit)) (i : Int) (j : Int) : List ((Int) × (List (Int)) × Unit) := s.take i.toNat ++ s.drop j.toNat
def Q_sl_Delete_Put (s : List ((Int) × (List (Int)) × Unit)) (i : Int) (j : Int) : Prop := 0 ≤ i ∧ i ≤ j ∧ j ≤ s.length
open Go.Proofs Go.RowKit Go.Lib in
theorem del_174 (w : World) (b c i j n : Nat) (arr : Array Value) (et : TypeId) (hb : w.heap[b]? = some (.cells arr et (0, 0))) (hsz : arr.size = c * 2) (hn : n ≤ c) (hc : c ≤ 9223372036854775807) (hij : i ≤ j) (hj : j ≤ n) (h1 : ∀ k, k < n * 2 → ∀ u, arr[k]? = some u → u.oneCell' = true) :
    Calls pg 174 #[.slice (some ⟨b, 0, none⟩) n c, .int .i64 i, .int .i64 j] w fun e w' => e = .returned (.slice (some ⟨b, 0, none⟩) (n - (j - i)) c) ∧
      ∃ arr', Keeps (fun k => k = b) w w' ∧ w'.heap[b]? = some (.cells arr' et (0, 0)) ∧ arr'.size = arr.size ∧ (∀ k, k < i * 2 → arr'[k]? = arr[k]?) ∧ ∀ k, k < (n - j) * 2 → arr'[i * 2 + k]? = arr[j * 2 + k]? := by
  by_cases heq : i = j
  · subst heq
    have h0 : Calls pg 174 #[.slice (some ⟨b, 0, none⟩) n c, .int .i64 i, .int .i64 i] w fun e w' => e = .returned (.slice (some ⟨b, 0, none⟩) n c) ∧ w' = w := by
      go_enter Go.Proofs.Try.func174, Go.Proofs.Try.ntmps174
      go_wp2
      all_goals (go_ret; exact ⟨rfl, rfl⟩)
    refine h0.mono ?_
    rintro e w' ⟨rfl, rfl⟩
    exact ⟨by rw [Nat.sub_self, Nat.sub_zero], arr, Keeps.refl _ _, hb, rfl, fun _ _ => rfl, fun _ _ => rfl⟩
  · have hlt : i < j := by omega
    obtain ⟨news, hnews⟩ : ∃ news, news = seg arr (j * 2) ((n - j) * 2) := ⟨_, rfl⟩
    have hbd : j * 2 + (n - j) * 2 ≤ arr.size := by omega
    have hlen : news.length = (n - j) * 2 := by rw [hnews]; exact seg_length hbd
    have hget : ∀ t, t < (n - j) * 2 → news[t]? = arr[j * 2 + t]? := fun t ht => by rw [hnews]; exact seg_get ht
    obtain ⟨A, hA, hsrc⟩ : ∃ A : Addr, (if c = j then some (⟨b, 0, none⟩ : Addr) else some ⟨b, j * 2, none⟩) = some A ∧ Hid (∀ t u, news[t]? = some u → w.drew.cell? (A.add t) = some u) := by
      by_cases h : c = j
      · refine ⟨⟨b, 0, none⟩, by simp [h], fun t u hu => ?_⟩
        have h0 : news.length = 0 := by rw [hlen]; omega
        rw [List.length_eq_zero_iff.1 h0] at hu
        simp at hu
      · refine ⟨⟨b, j * 2, none⟩, by simp [h], fun t u hu => ?_⟩
        have ht : t < (n - j) * 2 := by
          have := (List.getElem?_eq_some_iff.1 hu).1
          rwa [hlen] at this
        rw [hget t ht] at hu
        rw [add_lit']
        have hk : j * 2 + t < arr.size := by omega
        rw [show w.drew.cell? ⟨b, j * 2 + t, none⟩ = w.cell? ⟨b, j * 2 + t, none⟩ from rfl, (cell_of_heap hb hk).1]
        rw [Array.getElem?_eq_getElem hk] at hu
        exact hu
    have s1' : news.length = (n - j) * 2 := by omega
    have s1 : Hid (news.length = (n - j) * 2) := s1'
    have s2 : Hid (∀ u ∈ news, u.oneCell' = true) := by
      intro u hu
      obtain ⟨t, ht, rfl⟩ := List.getElem_of_mem hu
      rw [hlen] at ht
      have := hget t ht
      rw [List.getElem?_eq_getElem (by omega)] at this
      exact h1 (j * 2 + t) (by omega) _ this.symm
    have s3 : Hid (∀ t, t < news.length → (w.drew.cell? ⟨b, 0 + i * 2 + t, none⟩).isSome = true ∧ w.drew.frozen? ⟨b, 0 + i * 2 + t, none⟩ = false) := by
      intro t ht
      rw [hlen] at ht
      have hk : 0 + i * 2 + t < arr.size := by omega
      exact ⟨by rw [show w.drew.cell? ⟨b, 0 + i * 2 + t, none⟩ = w.cell? ⟨b, 0 + i * 2 + t, none⟩ from rfl, (cell_of_heap hb hk).1]; rfl, (cell_of_heap hb hk).2⟩
    obtain ⟨W1, hW1⟩ : ∃ W1, W1 = w.drew.setCells b (0 + i * 2) news := ⟨_, rfl⟩
    obtain ⟨arr1, g1, g2, g3, g4, g5⟩ := heap_setCells b news (0 + i * 2) w.drew arr et (0, 0) hb (by rw [hlen]; omega)
    rw [← hW1] at g1 g5
    have hzc : (Value.agg #[.int .i64 0, .slice none 0 0]).cells.size = 2 := rfl
    have hcl : ∀ ty, (Builtin.clear_ #[28] ty #[.slice (some ⟨b, (i + (n - j)) * 2, none⟩) (n - (i + (n - j))) (c - (i + (n - j)))]).run pg W1 = .ok (.tuple #[]) (W1.setCells b ((i + (n - j)) * 2) (Builtin.zeroCells (Value.agg #[.int .i64 0, .slice none 0 0]).cells (n - (i + (n - j)))).toList) :=
      fun ty => run_clear_any W1 28 145 ty _ Go.Proofs.Try.underlying28 Go.Proofs.Try.zeroValue145 (by decide) b ((i + (n - j)) * 2) _ _ (by omega) (fun t ht => by
        rw [hzc] at ht
        have hk : (i + (n - j)) * 2 + t < arr1.size := by omega
        rw [(cell_of_heap g1 hk).1]; rfl) (fun t ht => by
        rw [hzc] at ht
        exact (cell_of_heap g1 (by omega)).2)
    have hW : Hid (W1 = w.drew.setCells b (0 + i * 2) news) := hW1
    have hmx := mixed
    have hic : i ≤ c := by omega
    have hjc : j ≤ c := by omega
    have hK1 : Hid (W1.heap[b]? = some (.cells arr1 et (0, 0))) := g1
    have hK2 : Hid (Keeps (fun k => k = b) w.drew W1) := g5
    have hK3 : Hid (∀ k, (k < 0 + i * 2 ∨ 0 + i * 2 + news.length ≤ k) → arr1[k]? = arr[k]?) := g3
    have hK4 : Hid (∀ j, j < news.length → arr1[0 + i * 2 + j]? = news[j]?) := g4
    have hK5 : Hid (∀ t, t < (n - j) * 2 → news[t]? = arr[j * 2 + t]?) := hget
    clear hW1 g1 g5 g3 g4 hget hnews
    go_enter Go.Proofs.Try.func174, Go.Proofs.Try.ntmps174
    go_wp2_with fail
    go_region_law_o (refine step_append_room rfl (.tmp 22) (.tmp 25) 28 rfl 145 Go.Proofs.Try.t145 2 Go.Proofs.Try.underlying28 (by kernel_rfl) rfl b 0 i c (by simp [Act.eval, Act.put]) A (n - j) (c - j) news (by simp [Act.eval, Act.put, hA]) s1.out hsrc.out s2.out (by omega) s3.out ?_; rw [← hW.out])
    go_wp2
    go_ret
    have hzl : (Builtin.zeroCells (Value.agg #[.int .i64 0, .slice none 0 0]).cells (n - (i + (n - j)))).toList.length = (n - (i + (n - j))) * 2 := by simp [Builtin.zeroCells, hzc]
    obtain ⟨arr2, q1, q2, q3, q4, q5⟩ := heap_setCells b (Builtin.zeroCells (Value.agg #[.int .i64 0, .slice none 0 0]).cells (n - (i + (n - j)))).toList ((i + (n - j)) * 2) W1 arr1 et (0, 0) hK1.out (by rw [hzl]; omega)
    have k3 := hK3.out
    have k4 := hK4.out
    have k5 := hK5.out
    rw [hlen] at k3 k4
    have kk := ((Keeps.drew (fun k => k = b) w).trans hK2.out).trans q5
    refine ⟨by rw [show n - (j - i) = i + (n - j) by omega]; rfl, arr2, kk, q1, q2.trans g2, fun k hk => ?_, fun k hk => ?_⟩
    · rw [q3 k (by omega), k3 k (by omega)]
    · rw [q3 _ (by omega), show i * 2 + k = 0 + i * 2 + k by omega, k4 k (by omega), k5 k (by omega)]
open Go.Proofs Go.RowKit Go.Lib in
theorem delrun_174 : DelRun pg 174 2 := by
  refine ⟨fun w => ?_, fun w b c i j n arr et hb hsz hn hc hij hj h1 => ?_⟩
  · go_enter Go.Proofs.Try.func174, Go.Proofs.Try.ntmps174
    go_wp2
    all_goals (go_ret; exact ⟨rfl, rfl⟩)
  · have hh := del_174 w b c i j n arr et hb (by omega) hn hc hij hj (fun k hk => h1 k (by omega))
    exact hh

def con_sl_Delete_Put : Con := ⟨false, g3 (pV (.sl (.pair (.int .i64) (.pair (.sl (.int .u8)) .unit))) (.ow (.pr .sh (.pr (.ow .sh) .sh)))) (pD (.int .i64)) (pD (.int .i64)) fun s i j => ⟨[Q_sl_Delete_Put s i j], [⟨(.sl (.pair (.int .i64) (.pair (.sl (.int .u8)) .unit))), (.ow (.pr .sh (.pr (.ow .sh) .sh))), F_sl_Delete_Put s i j⟩], [.junk]⟩, [(.ow (.pr .sh (.pr (.ow .sh) .sh)))], false, 0⟩
theorem ok_sl_Delete_Put : ConOk pg 174 con_sl_Delete_Put := ok_delete (e := (.pair (.int .i64) (.pair (.sl (.int .u8)) .unit))) (m := (.pr .sh (.pr (.ow .sh) .sh))) (Enters.of (by kernel_rfl)) delrun_174 Q_sl_Delete_Put F_sl_Delete_Put (fun xs i j h => h) (fun xs i j => rfl)

def F_i_Draft_give (d : ((List (List (Int))) × (List ((Int) × (List (Int)) × Unit)) × Unit) × (List (Int)) × (List (Int)) × Unit) (id : Int) : Bool := d.2.2.1.contains id
def B_i_Draft_give_d (d : ((List (List (Int))) × (List ((Int) × (List (Int)) × Unit)) × Unit) × (List (Int)) × (List (Int)) × Unit) (id : Int) : ((List (List (Int))) × (List ((Int) × (List (Int)) × Unit)) × Unit) × (List (Int)) × (List (Int)) × Unit := if d.2.2.1.contains id = true then giveD d id else d
def Q_i_Draft_give (d : ((List (List (Int))) × (List ((Int) × (List (Int)) × Unit)) × Unit) × (List (Int)) × (List (Int)) × Unit) (id : Int) : Prop := (tot tDisk d.1 ≤ 1048576 ∧ d.2.1.length ≤ 1048576 ∧ d.2.2.1.length ≤ 1048576) ∧ rise d.2.2.1 = true ∧ dupTo d.1.2.1 d.1.2.1.length = false
def O_i_Draft_give : Opt := ⟨fun i => false, fun i => [], fun i => .done, fun i => none, fun i => false, fun i => []⟩
def τ_i_Draft_give : Env := Env.of [(2, (.int .i64)), (3, (.int .i64)), (4, .bool), (28, (.sl (.pair (.int .i64) (.pair (.sl (.int .u8)) .unit)))), (30, (.pair (.sl (.sl (.int .u8))) (.pair (.sl (.pair (.int .i64) (.pair (.sl (.int .u8)) .unit))) .unit))), (43, (.sl (.int .i64))), (56, (.pair (.pair (.sl (.sl (.int .u8))) (.pair (.sl (.pair (.int .i64) (.pair (.sl (.int .u8)) .unit))) .unit)) (.pair (.sl (.int .i64)) (.pair (.sl (.int .i64)) .unit))))] [(135, (.pair (.pair (.sl (.sl (.int .u8))) (.pair (.sl (.pair (.int .i64) (.pair (.sl (.int .u8)) .unit))) .unit)) (.pair (.sl (.int .i64)) (.pair (.sl (.int .i64)) .unit))))] []

theorem ct_i_Draft_give (d : ((List (List (Int))) × (List ((Int) × (List (Int)) × Unit)) × Unit) × (List (Int)) × (List (Int)) × Unit) (id : Int) : Ct pg 133 [.mp (.pair (.pair (.sl (.sl (.int .u8))) (.pair (.sl (.pair (.int .i64) (.pair (.sl (.int .u8)) .unit))) .unit)) (.pair (.sl (.int .i64)) (.pair (.sl (.int .i64)) .unit))) (.pr (.pr (.ow (.ow .sh)) (.pr (.ow (.pr .sh (.pr (.ow .sh) .sh))) .sh)) (.pr (.ow .sh) (.pr (.ow .sh) .sh))) d, .dat (.int .i64) id] ⟨[Q_i_Draft_give d id], [⟨.bool, .sh, F_i_Draft_give d id⟩], [.mp (.pair (.pair (.sl (.sl (.int .u8))) (.pair (.sl (.pair (.int .i64) (.pair (.sl (.int .u8)) .unit))) .unit)) (.pair (.sl (.int .i64)) (.pair (.sl (.int .i64)) .unit))) (.pr (.pr (.ow (.ow .sh)) (.pr (.ow (.pr .sh (.pr (.ow .sh) .sh))) .sh)) (.pr (.ow .sh) (.pr (.ow .sh) .sh))) (B_i_Draft_give_d d id)]⟩ := by
  refine ct_claim (O := O_i_Draft_give) (τ := τ_i_Draft_give) (EnvOk.of (by kernel_rfl) (by kernel_rfl)) (GOk.of (.cons ok_sl_Index_int64 (.cons ok_i_Disk_putFor (.cons ok_sl_Delete_int64 (.cons ok_sl_Delete_Put .nil))) : AllOk pg [(167, con_sl_Index_int64), (150, con_i_Disk_putFor), (173, con_sl_Delete_int64), (174, con_sl_Delete_Put)])) mixed (Enters.of (by kernel_rfl)) (fn := Go.Proofs.Try.f133) (by kernel_rfl) rfl (by kernel_rfl) ?_
  intro hp hw
  have hq : Q_i_Draft_give d id := hp _ (List.mem_singleton.2 rfl)
  clear hp
  change claim Lg.std Alg.std τ_i_Draft_give (Gam.of [(167, ⟨true, g2 (pD (.sl (.int .i64))) (pD (.int .i64)) fun a n => ⟨[Q_sl_Index_int64 a n], [⟨(.int .i64), .sh, F_sl_Index_int64 a n⟩], []⟩, [], false, 0⟩), (150, ⟨true, g2 (pD (.pair (.sl (.sl (.int .u8))) (.pair (.sl (.pair (.int .i64) (.pair (.sl (.int .u8)) .unit))) .unit))) (pD (.int .i64)) fun d n => ⟨[Q_i_Disk_putFor d n], [⟨(.int .i64), .sh, F_i_Disk_putFor d n⟩], []⟩, [], false, 0⟩), (173, ⟨false, g3 (pV (.sl (.int .i64)) (.ow .sh)) (pD (.int .i64)) (pD (.int .i64)) fun s i j => ⟨[Q_sl_Delete_int64 s i j], [⟨(.sl (.int .i64)), (.ow .sh), F_sl_Delete_int64 s i j⟩], [.junk]⟩, [(.ow .sh)], false, 0⟩), (174, ⟨false, g3 (pV (.sl (.pair (.int .i64) (.pair (.sl (.int .u8)) .unit))) (.ow (.pr .sh (.pr (.ow .sh) .sh)))) (pD (.int .i64)) (pD (.int .i64)) fun s i j => ⟨[Q_sl_Delete_Put s i j], [⟨(.sl (.pair (.int .i64) (.pair (.sl (.int .u8)) .unit))), (.ow (.pr .sh (.pr (.ow .sh) .sh))), F_sl_Delete_Put s i j⟩], [.junk]⟩, [(.ow (.pr .sh (.pr (.ow .sh) .sh)))], false, 0⟩)]) O_i_Draft_give Go.Proofs.Try.f133 [.mp (.pair (.pair (.sl (.sl (.int .u8))) (.pair (.sl (.pair (.int .i64) (.pair (.sl (.int .u8)) .unit))) .unit)) (.pair (.sl (.int .i64)) (.pair (.sl (.int .i64)) .unit))) (.pr (.pr (.ow (.ow .sh)) (.pr (.ow (.pr .sh (.pr (.ow .sh) .sh))) .sh)) (.pr (.ow .sh) (.pr (.ow .sh) .sh))) d, .dat (.int .i64) id] ⟨[Q_i_Draft_give d id], [⟨.bool, .sh, F_i_Draft_give d id⟩], [.mp (.pair (.pair (.sl (.sl (.int .u8))) (.pair (.sl (.pair (.int .i64) (.pair (.sl (.int .u8)) .unit))) .unit)) (.pair (.sl (.int .i64)) (.pair (.sl (.int .i64)) .unit))) (.pr (.pr (.ow (.ow .sh)) (.pr (.ow (.pr .sh (.pr (.ow .sh) .sh))) .sh)) (.pr (.ow .sh) (.pr (.ow .sh) .sh))) (B_i_Draft_give_d d id)]⟩
  generalize hg_F_sl_Index_int64 : F_sl_Index_int64 = g_F_sl_Index_int64
  generalize hg_Q_sl_Index_int64 : Q_sl_Index_int64 = g_Q_sl_Index_int64
  generalize hg_F_i_Disk_putFor : F_i_Disk_putFor = g_F_i_Disk_putFor
  generalize hg_Q_i_Disk_putFor : Q_i_Disk_putFor = g_Q_i_Disk_putFor
  generalize hg_F_sl_Delete_int64 : F_sl_Delete_int64 = g_F_sl_Delete_int64
  generalize hg_Q_sl_Delete_int64 : Q_sl_Delete_int64 = g_Q_sl_Delete_int64
  generalize hg_F_sl_Delete_Put : F_sl_Delete_Put = g_F_sl_Delete_Put
  generalize hg_Q_sl_Delete_Put : Q_sl_Delete_Put = g_Q_sl_Delete_Put
  generalize hR0 : F_i_Draft_give d id = R0
  generalize hB_d : B_i_Draft_give_d d id = B_d
  generalize Q_i_Draft_give d id = Q0
  generalize hL : Lg.std = L
  generalize hA : Alg.std = A
  cbv
  subst hL hA
  try dsimp only [Ty.den]
  obtain ⟨⟨d_0_0, d_0_1, ⟨⟩⟩, d_1, d_2, ⟨⟩⟩ := d
  simp only [Q_i_Draft_give] at hq
  obtain ⟨hq0, hq1, hq2⟩ := hq
  try dsimp only at hq1 hq2
  have hd1 := del_find _ _ (rise_one id d_2 hq1)
  have hd2 := del_find _ _ (puts_one id d_0_1 hq2)
  have hfc := find_contains d_2 id
  have hle1 : d_0_1.length ≤ 9223372036854775807 := hw.1.1.2.1.1
  have hle2 : d_2.length ≤ 9223372036854775807 := hw.1.2.2.1.1
  have hr1 := findG_range (fun x => decide (id = x)) d_2 0 (by omega)
  have hr2 := findG_range (fun x : PutT => decide (x.1 = id)) d_0_1 0 (by omega)
  subst hR0 hB_d hg_F_sl_Index_int64 hg_Q_sl_Index_int64 hg_F_i_Disk_putFor hg_Q_i_Disk_putFor hg_F_sl_Delete_int64 hg_Q_sl_Delete_int64 hg_F_sl_Delete_Put hg_Q_sl_Delete_Put
  simp only [Lg.std, Alg.std, List.drop_zero, List.take_length, F_sl_Index_int64, F_i_Disk_putFor, F_sl_Delete_int64, F_sl_Delete_Put, Q_sl_Index_int64, Q_i_Disk_putFor, Q_sl_Delete_int64, Q_sl_Delete_Put, F_i_Draft_give, B_i_Draft_give_d, giveD, without, putsNot] at *
  generalize findG (fun x => decide (id = x)) d_2 0 = k1 at *
  generalize findG (fun x : PutT => decide (x.1 = id)) d_0_1 0 = k2 at *
  try simp only [true_and, and_true, false_implies, implies_true, imp_self]
  repeat' (first | intro _ | apply And.intro)
  all_goals grind
def con_i_Draft_give : Con := ⟨true, g2 (pW (.pair (.pair (.sl (.sl (.int .u8))) (.pair (.sl (.pair (.int .i64) (.pair (.sl (.int .u8)) .unit))) .unit)) (.pair (.sl (.int .i64)) (.pair (.sl (.int .i64)) .unit))) (.pr (.pr (.ow (.ow .sh)) (.pr (.ow (.pr .sh (.pr (.ow .sh) .sh))) .sh)) (.pr (.ow .sh) (.pr (.ow .sh) .sh)))) (pD (.int .i64)) fun d id => ⟨[Q_i_Draft_give d id], [⟨.bool, .sh, F_i_Draft_give d id⟩], [.mp (.pair (.pair (.sl (.sl (.int .u8))) (.pair (.sl (.pair (.int .i64) (.pair (.sl (.int .u8)) .unit))) .unit)) (.pair (.sl (.int .i64)) (.pair (.sl (.int .i64)) .unit))) (.pr (.pr (.ow (.ow .sh)) (.pr (.ow (.pr .sh (.pr (.ow .sh) .sh))) .sh)) (.pr (.ow .sh) (.pr (.ow .sh) .sh))) (B_i_Draft_give_d d id)]⟩, [(.pr (.pr (.ow (.ow .sh)) (.pr (.ow (.pr .sh (.pr (.ow .sh) .sh))) .sh)) (.pr (.ow .sh) (.pr (.ow .sh) .sh)))], false, 0⟩
theorem ok_i_Draft_give : ConOk pg 133 con_i_Draft_give := ConOk.g2 (Enters.of (by kernel_rfl)) ct_i_Draft_give

def F_s_l1Without (list : List (Int)) (n : Int) : List (Int) := without list n
def Q_s_l1Without (list : List (Int)) (n : Int) : Prop := list.length ≤ 1048576
def O_s_l1Without : Opt := ⟨fun i => false, fun i => (match decide (i = 3) with | true => [true, true, false, false, false, true, true, false, false, false, false, false, false, false, false, false, false, false, false, false, false, false, false, false, false, false, false, false] | false => []), fun i => .done, fun i => none, fun i => (match decide (i = 3) with | true => true | false => false), fun i => []⟩
def τ_s_l1Without : Env := Env.of [(2, (.int .i64)), (3, (.int .i64)), (4, .bool), (43, (.sl (.int .i64)))] [] []

theorem ct_s_l1Without (list : List (Int)) (n : Int) : Ct pg 172 [.dat (.sl (.int .i64)) list, .dat (.int .i64) n] ⟨[Q_s_l1Without list n], [⟨(.sl (.int .i64)), (.ow .sh), F_s_l1Without list n⟩], []⟩ := by
  refine ct_claim (O := O_s_l1Without) (τ := τ_s_l1Without) (EnvOk.of (by kernel_rfl) (by kernel_rfl)) (GOk.of (.nil : AllOk pg [])) mixed (Enters.of (by kernel_rfl)) (fn := Go.Proofs.Try.f172) (by kernel_rfl) rfl (by kernel_rfl) ?_
  intro hp hw
  have hq : Q_s_l1Without list n := hp _ (List.mem_singleton.2 rfl)
  clear hp
  change claim Lg.std Alg.std τ_s_l1Without (Gam.of []) O_s_l1Without Go.Proofs.Try.f172 [.dat (.sl (.int .i64)) list, .dat (.int .i64) n] ⟨[Q_s_l1Without list n], [⟨(.sl (.int .i64)), (.ow .sh), F_s_l1Without list n⟩], []⟩
  generalize hR0 : F_s_l1Without list n = R0
  generalize Q_s_l1Without list n = Q0
  generalize hL : Lg.std = L
  generalize hA : Alg.std = A
  cbv
  subst hL hA
  try dsimp only [Ty.den]
  simp only [Q_s_l1Without] at hq
  repeat' (first | intro _ | apply And.intro)
  all_goals first | trivial | ((fail_if_success (refine lp_v (V := Unit) (fun _ => ⟨[], []⟩) (fun _ => True) (fun _ => 0) () ?_ ?_ ?_)); subst hR0; (try simp only [Alg.std, F_s_l1Without] at *); all_goals grind) | skip
  refine lp_v (V := (Int) × (Nat) × (List Int)) (fun ((i, N, xs) : (Int) × (Nat) × (List Int)) => ⟨[.dat (.sl (.int .i64)) list, .dat (.int .i64) n, .junk, .junk, .junk, .ref (.int .i64) 0 0 [] 0 N, .dat (.int .i64) i, .junk, .junk, .junk, .junk, .junk, .junk, .junk, .junk, .junk, .junk, .junk, .junk, .junk, .junk, .junk, .junk, .junk, .junk, .junk, .junk, .junk], [some (.row 0 (.int .i64) .sh xs)]⟩) (fun ((i, N, xs) : (Int) × (Nat) × (List Int)) => N = xs.length ∧ 0 ≤ i ∧ i ≤ list.length ∧ xs = (list.take i.toNat).filter (fun x => !decide (n = x))) (fun ((i, N, xs) : (Int) × (Nat) × (List Int)) => list.length - i.toNat) (0, _, _) rfl ?_ ?_
  · subst hR0
    (try simp only [Alg.std, F_s_l1Without] at *)
    all_goals grind
  rintro ⟨i, N, xs⟩ hf I hI
  replace hf : N = xs.length ∧ 0 ≤ i ∧ i ≤ list.length ∧ xs = (list.take i.toNat).filter (fun x => !decide (n = x)) := hf
  generalize hL : Lg.std = L
  generalize hA : Alg.std = A
  cbv
  subst hL hA
  try dsimp only [Ty.den]
  subst hI
  obtain ⟨h1, h2, h3, h4⟩ := hf
  have h3' : i ≤ (list.length : Int) := h3
  have hsu : (i + 1).toNat = i.toNat + 1 := by omega
  have hs := fun (h : i.toNat < list.length) => filter_step (fun x => !decide (n = x)) list 0 i.toNat h
  have hl := filter_len (fun x => !decide (n = x)) list i.toNat
  have hta := fun (h : list.length ≤ i.toNat) => List.take_of_length_le h
  repeat' (first | intro _ | apply And.intro)
  all_goals first | (with_reducible exact True.intro) | ((fail_if_success (refine lp_v (V := Unit) (fun _ => ⟨[], []⟩) (fun _ => True) (fun _ => 0) () ?_ ?_ ?_)); (try simp only [Lg.std, Alg.std, List.drop_zero, List.take_length] at *); (try refine ⟨(_, _, _), rfl, ?_, ?_⟩); (all_goals (subst hR0; (try simp only [Lg.std, Alg.std, List.drop_zero, List.take_length, F_s_l1Without] at *); first | done | (grind [without])))) | skip
def con_s_l1Without : Con := ⟨true, g2 (pD (.sl (.int .i64))) (pD (.int .i64)) fun list n => ⟨[Q_s_l1Without list n], [⟨(.sl (.int .i64)), (.ow .sh), F_s_l1Without list n⟩], []⟩, [], false, 0⟩
theorem ok_s_l1Without : ConOk pg 172 con_s_l1Without := ConOk.g2 (Enters.of (by kernel_rfl)) ct_s_l1Without

def B_s_l16Give_d (d : ((List (List (Int))) × (List ((Int) × (List (Int)) × Unit)) × Unit) × (List (Int)) × (List (Int)) × Unit) (id : Int) : ((List (List (Int))) × (List ((Int) × (List (Int)) × Unit)) × Unit) × (List (Int)) × (List (Int)) × Unit := giveD d id
def Q_s_l16Give (d : ((List (List (Int))) × (List ((Int) × (List (Int)) × Unit)) × Unit) × (List (Int)) × (List (Int)) × Unit) (id : Int) : Prop := (tot tDisk d.1 ≤ 1048576 ∧ d.2.1.length ≤ 1048576 ∧ d.2.2.1.length ≤ 1048576) ∧ ∀ i, i < d.1.2.1.length → (d.1.2.1.getD i putD).2.1.length = 96
def O_s_l16Give : Opt := ⟨fun i => false, fun i => (match decide (i = 3) with | true => [true, true, false, false, true, true, false, false, false, false, false, false, false, false, false, false, false, false, false, false, false, false, false, false, false, false, false, false, false, false, false, false, false, false, false, false, false, false, false, false, false, false, false, false, false, false, false, false, false, false, false, false, false] | false => []), fun i => .done, fun i => none, fun i => (match decide (i = 3) with | true => true | false => false), fun i => (match decide (i = 3) with | true => [(0, some 1, (.pair (.int .i64) (.pair (.sl (.int .u8)) .unit)), (.pr .sh (.pr .no .sh)))] | false => [])⟩
def τ_s_l16Give : Env := Env.of [(2, (.int .i64)), (3, (.int .i64)), (4, .bool), (28, (.sl (.pair (.int .i64) (.pair (.sl (.int .u8)) .unit)))), (30, (.pair (.sl (.sl (.int .u8))) (.pair (.sl (.pair (.int .i64) (.pair (.sl (.int .u8)) .unit))) .unit))), (43, (.sl (.int .i64))), (56, (.pair (.pair (.sl (.sl (.int .u8))) (.pair (.sl (.pair (.int .i64) (.pair (.sl (.int .u8)) .unit))) .unit)) (.pair (.sl (.int .i64)) (.pair (.sl (.int .i64)) .unit)))), (145, (.pair (.int .i64) (.pair (.sl (.int .u8)) .unit)))] [(135, (.pair (.pair (.sl (.sl (.int .u8))) (.pair (.sl (.pair (.int .i64) (.pair (.sl (.int .u8)) .unit))) .unit)) (.pair (.sl (.int .i64)) (.pair (.sl (.int .i64)) .unit))))] []

theorem ct_s_l16Give (d : ((List (List (Int))) × (List ((Int) × (List (Int)) × Unit)) × Unit) × (List (Int)) × (List (Int)) × Unit) (id : Int) : Ct pg 132 [.mp (.pair (.pair (.sl (.sl (.int .u8))) (.pair (.sl (.pair (.int .i64) (.pair (.sl (.int .u8)) .unit))) .unit)) (.pair (.sl (.int .i64)) (.pair (.sl (.int .i64)) .unit))) (.pr (.pr (.ow (.ow .sh)) (.pr (.ow (.pr .sh (.pr (.ow .sh) .sh))) .sh)) (.pr (.ow .sh) (.pr (.ow .sh) .sh))) d, .dat (.int .i64) id] ⟨[Q_s_l16Give d id], [], [.mp (.pair (.pair (.sl (.sl (.int .u8))) (.pair (.sl (.pair (.int .i64) (.pair (.sl (.int .u8)) .unit))) .unit)) (.pair (.sl (.int .i64)) (.pair (.sl (.int .i64)) .unit))) (.pr (.pr (.ow (.ow .sh)) (.pr (.ow (.pr .sh (.pr (.ow .sh) .sh))) .sh)) (.pr (.ow .sh) (.pr (.ow .sh) .sh))) (B_s_l16Give_d d id)]⟩ := by
  refine ct_claim (O := O_s_l16Give) (τ := τ_s_l16Give) (EnvOk.of (by kernel_rfl) (by kernel_rfl)) (GOk.of (.cons ok_s_l1Without .nil : AllOk pg [(172, con_s_l1Without)])) mixed (Enters.of (by kernel_rfl)) (fn := Go.Proofs.Try.f132) (by kernel_rfl) rfl (by kernel_rfl) ?_
  intro hp hw
  have hq : Q_s_l16Give d id := hp _ (List.mem_singleton.2 rfl)
  clear hp
  change claim Lg.std Alg.std τ_s_l16Give (Gam.of [(172, ⟨true, g2 (pD (.sl (.int .i64))) (pD (.int .i64)) fun list n => ⟨[Q_s_l1Without list n], [⟨(.sl (.int .i64)), (.ow .sh), F_s_l1Without list n⟩], []⟩, [], false, 0⟩)]) O_s_l16Give Go.Proofs.Try.f132 [.mp (.pair (.pair (.sl (.sl (.int .u8))) (.pair (.sl (.pair (.int .i64) (.pair (.sl (.int .u8)) .unit))) .unit)) (.pair (.sl (.int .i64)) (.pair (.sl (.int .i64)) .unit))) (.pr (.pr (.ow (.ow .sh)) (.pr (.ow (.pr .sh (.pr (.ow .sh) .sh))) .sh)) (.pr (.ow .sh) (.pr (.ow .sh) .sh))) d, .dat (.int .i64) id] ⟨[Q_s_l16Give d id], [], [.mp (.pair (.pair (.sl (.sl (.int .u8))) (.pair (.sl (.pair (.int .i64) (.pair (.sl (.int .u8)) .unit))) .unit)) (.pair (.sl (.int .i64)) (.pair (.sl (.int .i64)) .unit))) (.pr (.pr (.ow (.ow .sh)) (.pr (.ow (.pr .sh (.pr (.ow .sh) .sh))) .sh)) (.pr (.ow .sh) (.pr (.ow .sh) .sh))) (B_s_l16Give_d d id)]⟩
  generalize hg_F_s_l1Without : F_s_l1Without = g_F_s_l1Without
  generalize hg_Q_s_l1Without : Q_s_l1Without = g_Q_s_l1Without
  generalize hB_d : B_s_l16Give_d d id = B_d
  generalize Q_s_l16Give d id = Q0
  generalize hL : Lg.std = L
  generalize hA : Alg.std = A
  cbv
  subst hL hA
  try dsimp only [Ty.den]
  obtain ⟨⟨d_0_0, d_0_1, ⟨⟩⟩, d_1, d_2, ⟨⟩⟩ := d
  simp only [Q_s_l16Give] at hq
  have hle := tot_len tPut d_0_1
  simp only [tot_p, tot_u] at hq
  repeat' (first | intro _ | apply And.intro)
  all_goals first | trivial | ((fail_if_success (refine lp_v (V := Unit) (fun _ => ⟨[], []⟩) (fun _ => True) (fun _ => 0) () ?_ ?_ ?_)); subst hB_d hg_F_s_l1Without hg_Q_s_l1Without; (try simp only [Alg.std, F_s_l1Without, Q_s_l1Without, B_s_l16Give_d] at *); all_goals grind) | skip
  refine lp_v (V := (Int) × (Nat) × (Nat) × (Nat) × (Nat) × (Nat) × (List (List Int)) × (List PutT) × (List Int) × (List Int) × (List PutT)) (fun ((i, NS, K, NK, NT, N, ss, zs, kk, tt, xs) : (Int) × (Nat) × (Nat) × (Nat) × (Nat) × (Nat) × (List (List Int)) × (List PutT) × (List Int) × (List Int) × (List PutT)) => ⟨[.bptr 0 0, .dat (.int .i64) id, .junk, .junk, .ref (.pair (.int .i64) (.pair (.sl (.int .u8)) .unit)) 5 0 [] 0 N, .dat (.int .i64) i, .junk, .junk, .junk, .junk, .junk, .junk, .junk, .junk, .junk, .junk, .junk, .junk, .junk, .junk, .junk, .junk, .junk, .junk, .junk, .junk, .junk, .junk, .junk, .junk, .junk, .junk, .junk, .junk, .junk, .junk, .junk, .junk, .junk, .junk, .junk, .junk, .junk, .junk, .junk, .junk, .junk, .junk, .junk, .junk, .junk, .junk, .junk], [some (.box [.ref (.sl (.int .u8)) 1 0 [] 0 NS, .ref (.pair (.int .i64) (.pair (.sl (.int .u8)) .unit)) 2 0 [] 0 K, .ref (.int .i64) 3 0 [] 0 NK, .ref (.int .i64) 4 0 [] 0 NT]), some (.row 0 (.sl (.int .u8)) (.ow .sh) ss), some (.row 0 (.pair (.int .i64) (.pair (.sl (.int .u8)) .unit)) (.pr .sh (.pr .no .sh)) zs), some (.row 0 (.int .i64) .sh kk), some (.row 0 (.int .i64) .sh tt), some (.row 0 (.pair (.int .i64) (.pair (.sl (.int .u8)) .unit)) (.pr .sh (.pr (.ow .sh) .sh)) xs), some (.gh [.bptr 0 0])]⟩) (fun ((i, NS, K, NK, NT, N, ss, zs, kk, tt, xs) : (Int) × (Nat) × (Nat) × (Nat) × (Nat) × (Nat) × (List (List Int)) × (List PutT) × (List Int) × (List Int) × (List PutT)) => NS = d_0_0.length ∧ ss = d_0_0 ∧ K = d_0_1.length ∧ NK = d_1.length ∧ kk = d_1 ∧ tt = without d_2 id ∧ NT = tt.length ∧ N = xs.length ∧ 0 ≤ i ∧ i ≤ d_0_1.length ∧ xs = (d_0_1.take i.toNat).filter (fun x => !decide (x.1 = id)) ∧ zs.drop i.toNat = d_0_1.drop i.toNat) (fun ((i, NS, K, NK, NT, N, ss, zs, kk, tt, xs) : (Int) × (Nat) × (Nat) × (Nat) × (Nat) × (Nat) × (List (List Int)) × (List PutT) × (List Int) × (List Int) × (List PutT)) => d_0_1.length - i.toNat) (0, _, _, _, _, _, _, _, _, _, _) rfl ?_ ?_
  · subst hB_d hg_F_s_l1Without hg_Q_s_l1Without
    (try simp only [Alg.std, F_s_l1Without, Q_s_l1Without, B_s_l16Give_d] at *)
    all_goals grind
  rintro ⟨i, NS, K, NK, NT, N, ss, zs, kk, tt, xs⟩ hf I hI
  replace hf : NS = d_0_0.length ∧ ss = d_0_0 ∧ K = d_0_1.length ∧ NK = d_1.length ∧ kk = d_1 ∧ tt = without d_2 id ∧ NT = tt.length ∧ N = xs.length ∧ 0 ≤ i ∧ i ≤ d_0_1.length ∧ xs = (d_0_1.take i.toNat).filter (fun x => !decide (x.1 = id)) ∧ zs.drop i.toNat = d_0_1.drop i.toNat := hf
  generalize hL : Lg.std = L
  generalize hA : Alg.std = A
  cbv
  subst hL hA
  try dsimp only [Ty.den]
  subst hI
  obtain ⟨h1, h2, h3, h4, h5, h6, h7, h8, h9, h10, h11, h12⟩ := hf
  have h10' : i ≤ (d_0_1.length : Int) := h10
  have hsu : (i + 1).toNat = i.toNat + 1 := by omega
  have ha := drop_at (zs := zs) putD h12
  have hn := fun v => drop_next (zs := zs) v h12
  have hn2 := drop_next' (zs := zs) h12
  have hs := fun (h : i.toNat < d_0_1.length) => filter_step (fun x : PutT => !decide (x.1 = id)) d_0_1 putD i.toNat h
  have hb := fun (h : i.toNat < d_0_1.length) => hq.2 i.toNat h
  have hxl := filter_len (fun x : PutT => !decide (x.1 = id)) d_0_1 i.toNat
  have hta := fun (h : d_0_1.length ≤ i.toNat) => List.take_of_length_le h
  try dsimp only [putD] at ha hb hs hn
  repeat' (first | intro _ | apply And.intro)
  all_goals first | (with_reducible exact True.intro) | ((fail_if_success (refine lp_v (V := Unit) (fun _ => ⟨[], []⟩) (fun _ => True) (fun _ => 0) () ?_ ?_ ?_)); (try simp only [Lg.std, Alg.std, List.drop_zero, List.take_length] at *); (try refine ⟨(_, _, _, _, _, _, _, _, _, _, _), rfl, ?_, ?_⟩); (all_goals (subst hB_d hg_F_s_l1Without hg_Q_s_l1Without; (try simp only [Lg.std, Alg.std, List.drop_zero, List.take_length, F_s_l1Without, Q_s_l1Without, B_s_l16Give_d] at *); first | done | ((try simp only [ha] at *); (try generalize d_0_1.getD i.toNat (0, [], ()) = xa at *); (try obtain ⟨xa0, xa1, ⟨⟩⟩ := xa); (try dsimp only at *); grind [giveD, without, putsNot])))) | skip
def con_s_l16Give : Con := ⟨true, g2 (pW (.pair (.pair (.sl (.sl (.int .u8))) (.pair (.sl (.pair (.int .i64) (.pair (.sl (.int .u8)) .unit))) .unit)) (.pair (.sl (.int .i64)) (.pair (.sl (.int .i64)) .unit))) (.pr (.pr (.ow (.ow .sh)) (.pr (.ow (.pr .sh (.pr (.ow .sh) .sh))) .sh)) (.pr (.ow .sh) (.pr (.ow .sh) .sh)))) (pD (.int .i64)) fun d id => ⟨[Q_s_l16Give d id], [], [.mp (.pair (.pair (.sl (.sl (.int .u8))) (.pair (.sl (.pair (.int .i64) (.pair (.sl (.int .u8)) .unit))) .unit)) (.pair (.sl (.int .i64)) (.pair (.sl (.int .i64)) .unit))) (.pr (.pr (.ow (.ow .sh)) (.pr (.ow (.pr .sh (.pr (.ow .sh) .sh))) .sh)) (.pr (.ow .sh) (.pr (.ow .sh) .sh))) (B_s_l16Give_d d id)]⟩, [(.pr (.pr (.ow (.ow .sh)) (.pr (.ow (.pr .sh (.pr (.ow .sh) .sh))) .sh)) (.pr (.ow .sh) (.pr (.ow .sh) .sh)))], false, 0⟩
theorem ok_s_l16Give : ConOk pg 132 con_s_l16Give := ConOk.g2 (Enters.of (by kernel_rfl)) ct_s_l16Give

def F_s_GivePage (d : ((List (List (Int))) × (List ((Int) × (List (Int)) × Unit)) × Unit) × (List (Int)) × (List (Int)) × Unit) (id : Int) : (Int) × (((List (List (Int))) × (List ((Int) × (List (Int)) × Unit)) × Unit) × (List (Int)) × (List (Int)) × Unit) × Unit := giveP d id
def Q_s_GivePage (d : ((List (List (Int))) × (List ((Int) × (List (Int)) × Unit)) × Unit) × (List (Int)) × (List (Int)) × Unit) (id : Int) : Prop := tot tDisk d.1 ≤ 1048576 ∧ d.2.1.length ≤ 1048576 ∧ d.2.2.1.length ≤ 1048576
def O_s_GivePage : Opt := ⟨fun i => false, fun i => [], fun i => .done, fun i => none, fun i => false, fun i => []⟩
def τ_s_GivePage : Env := Env.of [(2, (.int .i64)), (4, .bool), (43, (.sl (.int .i64))), (56, (.pair (.pair (.sl (.sl (.int .u8))) (.pair (.sl (.pair (.int .i64) (.pair (.sl (.int .u8)) .unit))) .unit)) (.pair (.sl (.int .i64)) (.pair (.sl (.int .i64)) .unit)))), (64, (.pair (.int .i64) (.pair (.pair (.pair (.sl (.sl (.int .u8))) (.pair (.sl (.pair (.int .i64) (.pair (.sl (.int .u8)) .unit))) .unit)) (.pair (.sl (.int .i64)) (.pair (.sl (.int .i64)) .unit))) .unit)))] [(135, (.pair (.pair (.sl (.sl (.int .u8))) (.pair (.sl (.pair (.int .i64) (.pair (.sl (.int .u8)) .unit))) .unit)) (.pair (.sl (.int .i64)) (.pair (.sl (.int .i64)) .unit))))] []

theorem ct_s_GivePage (d : ((List (List (Int))) × (List ((Int) × (List (Int)) × Unit)) × Unit) × (List (Int)) × (List (Int)) × Unit) (id : Int) : Ct pg 66 [.dat (.pair (.pair (.sl (.sl (.int .u8))) (.pair (.sl (.pair (.int .i64) (.pair (.sl (.int .u8)) .unit))) .unit)) (.pair (.sl (.int .i64)) (.pair (.sl (.int .i64)) .unit))) d, .dat (.int .i64) id] ⟨[Q_s_GivePage d id], [⟨(.pair (.int .i64) (.pair (.pair (.pair (.sl (.sl (.int .u8))) (.pair (.sl (.pair (.int .i64) (.pair (.sl (.int .u8)) .unit))) .unit)) (.pair (.sl (.int .i64)) (.pair (.sl (.int .i64)) .unit))) .unit)), (.pr .sh (.pr (.pr (.pr (.ow (.ow .sh)) (.pr (.ow (.pr .sh (.pr (.ow .sh) .sh))) .sh)) (.pr (.ow .sh) (.pr (.ow .sh) .sh))) .sh)), F_s_GivePage d id⟩], []⟩ := by
  refine ct_claim (O := O_s_GivePage) (τ := τ_s_GivePage) (EnvOk.of (by kernel_rfl) (by kernel_rfl)) (GOk.of (.cons ok_s_l1Has (.cons ok_s_DraftFault (.cons ok_s_l16Copy (.cons ok_s_l16Give .nil))) : AllOk pg [(131, con_s_l1Has), (105, con_s_DraftFault), (110, con_s_l16Copy), (132, con_s_l16Give)])) mixed (Enters.of (by kernel_rfl)) (fn := Go.Proofs.Try.f66) (by kernel_rfl) rfl (by kernel_rfl) ?_
  intro hp hw
  have hq : Q_s_GivePage d id := hp _ (List.mem_singleton.2 rfl)
  clear hp
  change claim Lg.std Alg.std τ_s_GivePage (Gam.of [(131, ⟨true, g2 (pD (.sl (.int .i64))) (pD (.int .i64)) fun a n => ⟨[Q_s_l1Has a n], [⟨.bool, .sh, F_s_l1Has a n⟩], []⟩, [], false, 0⟩), (105, ⟨true, g1 (pD (.pair (.pair (.sl (.sl (.int .u8))) (.pair (.sl (.pair (.int .i64) (.pair (.sl (.int .u8)) .unit))) .unit)) (.pair (.sl (.int .i64)) (.pair (.sl (.int .i64)) .unit)))) fun d => ⟨[Q_s_DraftFault d], [⟨(.int .i64), .sh, F_s_DraftFault d⟩], []⟩, [], false, 0⟩), (110, ⟨true, g1 (pP (.pair (.pair (.sl (.sl (.int .u8))) (.pair (.sl (.pair (.int .i64) (.pair (.sl (.int .u8)) .unit))) .unit)) (.pair (.sl (.int .i64)) (.pair (.sl (.int .i64)) .unit)))) fun d => ⟨[Q_s_l16Copy d], [⟨(.pair (.pair (.sl (.sl (.int .u8))) (.pair (.sl (.pair (.int .i64) (.pair (.sl (.int .u8)) .unit))) .unit)) (.pair (.sl (.int .i64)) (.pair (.sl (.int .i64)) .unit))), (.pr (.pr (.ow (.ow .sh)) (.pr (.ow (.pr .sh (.pr (.ow .sh) .sh))) .sh)) (.pr (.ow .sh) (.pr (.ow .sh) .sh))), F_s_l16Copy d⟩], []⟩, [], false, 0⟩), (132, ⟨true, g2 (pW (.pair (.pair (.sl (.sl (.int .u8))) (.pair (.sl (.pair (.int .i64) (.pair (.sl (.int .u8)) .unit))) .unit)) (.pair (.sl (.int .i64)) (.pair (.sl (.int .i64)) .unit))) (.pr (.pr (.ow (.ow .sh)) (.pr (.ow (.pr .sh (.pr (.ow .sh) .sh))) .sh)) (.pr (.ow .sh) (.pr (.ow .sh) .sh)))) (pD (.int .i64)) fun d id => ⟨[Q_s_l16Give d id], [], [.mp (.pair (.pair (.sl (.sl (.int .u8))) (.pair (.sl (.pair (.int .i64) (.pair (.sl (.int .u8)) .unit))) .unit)) (.pair (.sl (.int .i64)) (.pair (.sl (.int .i64)) .unit))) (.pr (.pr (.ow (.ow .sh)) (.pr (.ow (.pr .sh (.pr (.ow .sh) .sh))) .sh)) (.pr (.ow .sh) (.pr (.ow .sh) .sh))) (B_s_l16Give_d d id)]⟩, [(.pr (.pr (.ow (.ow .sh)) (.pr (.ow (.pr .sh (.pr (.ow .sh) .sh))) .sh)) (.pr (.ow .sh) (.pr (.ow .sh) .sh)))], false, 0⟩)]) O_s_GivePage Go.Proofs.Try.f66 [.dat (.pair (.pair (.sl (.sl (.int .u8))) (.pair (.sl (.pair (.int .i64) (.pair (.sl (.int .u8)) .unit))) .unit)) (.pair (.sl (.int .i64)) (.pair (.sl (.int .i64)) .unit))) d, .dat (.int .i64) id] ⟨[Q_s_GivePage d id], [⟨(.pair (.int .i64) (.pair (.pair (.pair (.sl (.sl (.int .u8))) (.pair (.sl (.pair (.int .i64) (.pair (.sl (.int .u8)) .unit))) .unit)) (.pair (.sl (.int .i64)) (.pair (.sl (.int .i64)) .unit))) .unit)), (.pr .sh (.pr (.pr (.pr (.ow (.ow .sh)) (.pr (.ow (.pr .sh (.pr (.ow .sh) .sh))) .sh)) (.pr (.ow .sh) (.pr (.ow .sh) .sh))) .sh)), F_s_GivePage d id⟩], []⟩
  generalize hg_F_s_l1Has : F_s_l1Has = g_F_s_l1Has
  generalize hg_Q_s_l1Has : Q_s_l1Has = g_Q_s_l1Has
  generalize hg_F_s_DraftFault : F_s_DraftFault = g_F_s_DraftFault
  generalize hg_Q_s_DraftFault : Q_s_DraftFault = g_Q_s_DraftFault
  generalize hg_F_s_l16Copy : F_s_l16Copy = g_F_s_l16Copy
  generalize hg_Q_s_l16Copy : Q_s_l16Copy = g_Q_s_l16Copy
  generalize hg_B_s_l16Give_d : B_s_l16Give_d = g_B_s_l16Give_d
  generalize hg_Q_s_l16Give : Q_s_l16Give = g_Q_s_l16Give
  generalize hR0 : F_s_GivePage d id = R0
  generalize Q_s_GivePage d id = Q0
  generalize hL : Lg.std = L
  generalize hA : Alg.std = A
  cbv
  subst hL hA
  try dsimp only [Ty.den]
  obtain ⟨⟨d_0_0, d_0_1, ⟨⟩⟩, d_1, d_2, ⟨⟩⟩ := d
  have hdf := draftFault_96 ((d_0_0, d_0_1, ()), d_1, d_2, ())
  have hdr := draftFault_rise ((d_0_0, d_0_1, ()), d_1, d_2, ())
  have hdd := fun h => diskFault_dup (d_0_0, d_0_1, ()) (draftFault_disk ((d_0_0, d_0_1, ()), d_1, d_2, ()) h)
  subst hR0 hg_F_s_l1Has hg_Q_s_l1Has hg_F_s_DraftFault hg_Q_s_DraftFault hg_F_s_l16Copy hg_Q_s_l16Copy hg_B_s_l16Give_d hg_Q_s_l16Give
  simp only [Q_s_GivePage] at hq
  simp only [tot_p, tot_u, tot_int] at hq
  simp only [Lg.std, Alg.std, List.drop_zero, List.take_length, F_s_l1Has, F_s_DraftFault, F_s_l16Copy, B_s_l16Give_d, Q_s_l1Has, Q_s_DraftFault, Q_s_l16Copy, Q_s_l16Give, F_s_GivePage, giveP] at *
  try simp only [true_and, and_true, false_implies, implies_true, imp_self]
  try simp only [tot_p, tot_u, tot_int, List.length_nil]
  repeat' (first | intro _ | apply And.intro)
  all_goals grind
def con_s_GivePage : Con := ⟨true, g2 (pD (.pair (.pair (.sl (.sl (.int .u8))) (.pair (.sl (.pair (.int .i64) (.pair (.sl (.int .u8)) .unit))) .unit)) (.pair (.sl (.int .i64)) (.pair (.sl (.int .i64)) .unit)))) (pD (.int .i64)) fun d id => ⟨[Q_s_GivePage d id], [⟨(.pair (.int .i64) (.pair (.pair (.pair (.sl (.sl (.int .u8))) (.pair (.sl (.pair (.int .i64) (.pair (.sl (.int .u8)) .unit))) .unit)) (.pair (.sl (.int .i64)) (.pair (.sl (.int .i64)) .unit))) .unit)), (.pr .sh (.pr (.pr (.pr (.ow (.ow .sh)) (.pr (.ow (.pr .sh (.pr (.ow .sh) .sh))) .sh)) (.pr (.ow .sh) (.pr (.ow .sh) .sh))) .sh)), F_s_GivePage d id⟩], []⟩, [], false, 0⟩
theorem ok_s_GivePage : ConOk pg 66 con_s_GivePage := ConOk.g2 (Enters.of (by kernel_rfl)) ct_s_GivePage

def F_i_GivePage (d : ((List (List (Int))) × (List ((Int) × (List (Int)) × Unit)) × Unit) × (List (Int)) × (List (Int)) × Unit) (id : Int) : (Int) × (((List (List (Int))) × (List ((Int) × (List (Int)) × Unit)) × Unit) × (List (Int)) × (List (Int)) × Unit) × Unit := giveP d id
def Q_i_GivePage (d : ((List (List (Int))) × (List ((Int) × (List (Int)) × Unit)) × Unit) × (List (Int)) × (List (Int)) × Unit) (id : Int) : Prop := tot tDisk d.1 ≤ 1048576 ∧ d.2.1.length ≤ 1048576 ∧ d.2.2.1.length ≤ 1048576
def O_i_GivePage : Opt := ⟨fun i => false, fun i => [], fun i => .done, fun i => none, fun i => false, fun i => []⟩
def τ_i_GivePage : Env := Env.of [(2, (.int .i64)), (4, .bool), (56, (.pair (.pair (.sl (.sl (.int .u8))) (.pair (.sl (.pair (.int .i64) (.pair (.sl (.int .u8)) .unit))) .unit)) (.pair (.sl (.int .i64)) (.pair (.sl (.int .i64)) .unit)))), (64, (.pair (.int .i64) (.pair (.pair (.pair (.sl (.sl (.int .u8))) (.pair (.sl (.pair (.int .i64) (.pair (.sl (.int .u8)) .unit))) .unit)) (.pair (.sl (.int .i64)) (.pair (.sl (.int .i64)) .unit))) .unit)))] [(135, (.pair (.pair (.sl (.sl (.int .u8))) (.pair (.sl (.pair (.int .i64) (.pair (.sl (.int .u8)) .unit))) .unit)) (.pair (.sl (.int .i64)) (.pair (.sl (.int .i64)) .unit))))] []

theorem ct_i_GivePage (d : ((List (List (Int))) × (List ((Int) × (List (Int)) × Unit)) × Unit) × (List (Int)) × (List (Int)) × Unit) (id : Int) : Ct pg 67 [.dat (.pair (.pair (.sl (.sl (.int .u8))) (.pair (.sl (.pair (.int .i64) (.pair (.sl (.int .u8)) .unit))) .unit)) (.pair (.sl (.int .i64)) (.pair (.sl (.int .i64)) .unit))) d, .dat (.int .i64) id] ⟨[Q_i_GivePage d id], [⟨(.pair (.int .i64) (.pair (.pair (.pair (.sl (.sl (.int .u8))) (.pair (.sl (.pair (.int .i64) (.pair (.sl (.int .u8)) .unit))) .unit)) (.pair (.sl (.int .i64)) (.pair (.sl (.int .i64)) .unit))) .unit)), (.pr .sh (.pr (.pr (.pr (.ow (.ow .sh)) (.pr (.ow (.pr .sh (.pr (.ow .sh) .sh))) .sh)) (.pr (.ow .sh) (.pr (.ow .sh) .sh))) .sh)), F_i_GivePage d id⟩], []⟩ := by
  refine ct_claim (O := O_i_GivePage) (τ := τ_i_GivePage) (EnvOk.of (by kernel_rfl) (by kernel_rfl)) (GOk.of (.cons ok_i_DraftFault (.cons ok_i_ownDraft (.cons ok_i_Draft_give .nil)) : AllOk pg [(107, con_i_DraftFault), (111, con_i_ownDraft), (133, con_i_Draft_give)])) mixed (Enters.of (by kernel_rfl)) (fn := Go.Proofs.Try.f67) (by kernel_rfl) rfl (by kernel_rfl) ?_
  intro hp hw
  have hq : Q_i_GivePage d id := hp _ (List.mem_singleton.2 rfl)
  clear hp
  change claim Lg.std Alg.std τ_i_GivePage (Gam.of [(107, ⟨true, g1 (pD (.pair (.pair (.sl (.sl (.int .u8))) (.pair (.sl (.pair (.int .i64) (.pair (.sl (.int .u8)) .unit))) .unit)) (.pair (.sl (.int .i64)) (.pair (.sl (.int .i64)) .unit)))) fun d => ⟨[Q_i_DraftFault d], [⟨(.int .i64), .sh, F_i_DraftFault d⟩], []⟩, [], false, 0⟩), (111, ⟨true, g1 (pD (.pair (.pair (.sl (.sl (.int .u8))) (.pair (.sl (.pair (.int .i64) (.pair (.sl (.int .u8)) .unit))) .unit)) (.pair (.sl (.int .i64)) (.pair (.sl (.int .i64)) .unit)))) fun d => ⟨[Q_i_ownDraft d], [⟨(.pair (.pair (.sl (.sl (.int .u8))) (.pair (.sl (.pair (.int .i64) (.pair (.sl (.int .u8)) .unit))) .unit)) (.pair (.sl (.int .i64)) (.pair (.sl (.int .i64)) .unit))), (.np (.pr (.pr (.ow (.ow .sh)) (.pr (.ow (.pr .sh (.pr (.ow .sh) .sh))) .sh)) (.pr (.ow .sh) (.pr (.ow .sh) .sh)))), F_i_ownDraft d⟩], []⟩, [], false, 0⟩), (133, ⟨true, g2 (pW (.pair (.pair (.sl (.sl (.int .u8))) (.pair (.sl (.pair (.int .i64) (.pair (.sl (.int .u8)) .unit))) .unit)) (.pair (.sl (.int .i64)) (.pair (.sl (.int .i64)) .unit))) (.pr (.pr (.ow (.ow .sh)) (.pr (.ow (.pr .sh (.pr (.ow .sh) .sh))) .sh)) (.pr (.ow .sh) (.pr (.ow .sh) .sh)))) (pD (.int .i64)) fun d id => ⟨[Q_i_Draft_give d id], [⟨.bool, .sh, F_i_Draft_give d id⟩], [.mp (.pair (.pair (.sl (.sl (.int .u8))) (.pair (.sl (.pair (.int .i64) (.pair (.sl (.int .u8)) .unit))) .unit)) (.pair (.sl (.int .i64)) (.pair (.sl (.int .i64)) .unit))) (.pr (.pr (.ow (.ow .sh)) (.pr (.ow (.pr .sh (.pr (.ow .sh) .sh))) .sh)) (.pr (.ow .sh) (.pr (.ow .sh) .sh))) (B_i_Draft_give_d d id)]⟩, [(.pr (.pr (.ow (.ow .sh)) (.pr (.ow (.pr .sh (.pr (.ow .sh) .sh))) .sh)) (.pr (.ow .sh) (.pr (.ow .sh) .sh)))], false, 0⟩)]) O_i_GivePage Go.Proofs.Try.f67 [.dat (.pair (.pair (.sl (.sl (.int .u8))) (.pair (.sl (.pair (.int .i64) (.pair (.sl (.int .u8)) .unit))) .unit)) (.pair (.sl (.int .i64)) (.pair (.sl (.int .i64)) .unit))) d, .dat (.int .i64) id] ⟨[Q_i_GivePage d id], [⟨(.pair (.int .i64) (.pair (.pair (.pair (.sl (.sl (.int .u8))) (.pair (.sl (.pair (.int .i64) (.pair (.sl (.int .u8)) .unit))) .unit)) (.pair (.sl (.int .i64)) (.pair (.sl (.int .i64)) .unit))) .unit)), (.pr .sh (.pr (.pr (.pr (.ow (.ow .sh)) (.pr (.ow (.pr .sh (.pr (.ow .sh) .sh))) .sh)) (.pr (.ow .sh) (.pr (.ow .sh) .sh))) .sh)), F_i_GivePage d id⟩], []⟩
  generalize hg_F_i_DraftFault : F_i_DraftFault = g_F_i_DraftFault
  generalize hg_Q_i_DraftFault : Q_i_DraftFault = g_Q_i_DraftFault
  generalize hg_F_i_ownDraft : F_i_ownDraft = g_F_i_ownDraft
  generalize hg_Q_i_ownDraft : Q_i_ownDraft = g_Q_i_ownDraft
  generalize hg_F_i_Draft_give : F_i_Draft_give = g_F_i_Draft_give
  generalize hg_B_i_Draft_give_d : B_i_Draft_give_d = g_B_i_Draft_give_d
  generalize hg_Q_i_Draft_give : Q_i_Draft_give = g_Q_i_Draft_give
  generalize hR0 : F_i_GivePage d id = R0
  generalize Q_i_GivePage d id = Q0
  generalize hL : Lg.std = L
  generalize hA : Alg.std = A
  cbv
  subst hL hA
  try dsimp only [Ty.den]
  obtain ⟨⟨d_0_0, d_0_1, ⟨⟩⟩, d_1, d_2, ⟨⟩⟩ := d
  have hdf := draftFault_96 ((d_0_0, d_0_1, ()), d_1, d_2, ())
  have hdr := draftFault_rise ((d_0_0, d_0_1, ()), d_1, d_2, ())
  have hdd := fun h => diskFault_dup (d_0_0, d_0_1, ()) (draftFault_disk ((d_0_0, d_0_1, ()), d_1, d_2, ()) h)
  subst hR0 hg_F_i_DraftFault hg_Q_i_DraftFault hg_F_i_ownDraft hg_Q_i_ownDraft hg_F_i_Draft_give hg_B_i_Draft_give_d hg_Q_i_Draft_give
  simp only [Q_i_GivePage] at hq
  simp only [tot_p, tot_u, tot_int] at hq
  simp only [Lg.std, Alg.std, List.drop_zero, List.take_length, F_i_DraftFault, F_i_ownDraft, F_i_Draft_give, B_i_Draft_give_d, Q_i_DraftFault, Q_i_ownDraft, Q_i_Draft_give, F_i_GivePage, giveP] at *
  try simp only [true_and, and_true, false_implies, implies_true, imp_self]
  try simp only [tot_p, tot_u, tot_int, List.length_nil]
  repeat' (first | intro _ | apply And.intro)
  all_goals grind
def con_i_GivePage : Con := ⟨true, g2 (pD (.pair (.pair (.sl (.sl (.int .u8))) (.pair (.sl (.pair (.int .i64) (.pair (.sl (.int .u8)) .unit))) .unit)) (.pair (.sl (.int .i64)) (.pair (.sl (.int .i64)) .unit)))) (pD (.int .i64)) fun d id => ⟨[Q_i_GivePage d id], [⟨(.pair (.int .i64) (.pair (.pair (.pair (.sl (.sl (.int .u8))) (.pair (.sl (.pair (.int .i64) (.pair (.sl (.int .u8)) .unit))) .unit)) (.pair (.sl (.int .i64)) (.pair (.sl (.int .i64)) .unit))) .unit)), (.pr .sh (.pr (.pr (.pr (.ow (.ow .sh)) (.pr (.ow (.pr .sh (.pr (.ow .sh) .sh))) .sh)) (.pr (.ow .sh) (.pr (.ow .sh) .sh))) .sh)), F_i_GivePage d id⟩], []⟩, [], false, 0⟩
theorem ok_i_GivePage : ConOk pg 67 con_i_GivePage := ConOk.g2 (Enters.of (by kernel_rfl)) ct_i_GivePage

def F_w_FnExactGivePage (d : ((List (List (Int))) × (List ((Int) × (List (Int)) × Unit)) × Unit) × (List (Int)) × (List (Int)) × Unit) (i : Int) : Bool := true
def Q_w_FnExactGivePage (d : ((List (List (Int))) × (List ((Int) × (List (Int)) × Unit)) × Unit) × (List (Int)) × (List (Int)) × Unit) (i : Int) : Prop := True
def O_w_FnExactGivePage : Opt := ⟨fun i => false, fun i => [], fun i => (match decide (i = 10) with | true => (.alt 0 (.alt 1 (.alt 2 (.alt 3 (.take 4 .done) .no) .no) .no) (.alt 1 (.alt 0 (.alt 2 (.alt 3 (.take 4 .done) .no) .no) (.alt 2 (.alt 0 (.alt 3 (.take 4 .done) .no) .no) .no)) .no)) | false => .done), fun i => (match decide (i = 10) with | true => some [false, true, true, false, false, false, true, true, true, false, false, false, false, false, false, false, false, false, false, false, false, false, false, false, false, false, false, false, false, false, false, false, false, false, false, true, false, false, false, false, false, false, false, false, false, false, false, false, false, false, false, false, false, false, false, false, false, false, false, false, false, false, false, false, false, false, false, false, false, false, false, false, false, false] | false => none), fun i => false, fun i => []⟩
def τ_w_FnExactGivePage : Env := Env.of [(2, (.int .i64)), (3, (.int .i64)), (4, .bool), (50, (.pair (.pair (.sl (.sl (.int .u8))) (.pair (.sl (.pair (.int .i64) (.pair (.sl (.int .u8)) .unit))) .unit)) (.pair (.sl (.int .i64)) (.pair (.sl (.int .i64)) .unit)))), (56, (.pair (.pair (.sl (.sl (.int .u8))) (.pair (.sl (.pair (.int .i64) (.pair (.sl (.int .u8)) .unit))) .unit)) (.pair (.sl (.int .i64)) (.pair (.sl (.int .i64)) .unit)))), (64, (.pair (.int .i64) (.pair (.pair (.pair (.sl (.sl (.int .u8))) (.pair (.sl (.pair (.int .i64) (.pair (.sl (.int .u8)) .unit))) .unit)) (.pair (.sl (.int .i64)) (.pair (.sl (.int .i64)) .unit))) .unit)))] [] []

theorem ct_w_FnExactGivePage (d : ((List (List (Int))) × (List ((Int) × (List (Int)) × Unit)) × Unit) × (List (Int)) × (List (Int)) × Unit) (i : Int) : Ct pg 11 [.dat (.pair (.pair (.sl (.sl (.int .u8))) (.pair (.sl (.pair (.int .i64) (.pair (.sl (.int .u8)) .unit))) .unit)) (.pair (.sl (.int .i64)) (.pair (.sl (.int .i64)) .unit))) d, .dat (.int .i64) i] ⟨[Q_w_FnExactGivePage d i], [⟨.bool, .sh, F_w_FnExactGivePage d i⟩], []⟩ := by
  refine ct_claim (O := O_w_FnExactGivePage) (τ := τ_w_FnExactGivePage) (EnvOk.of (by kernel_rfl) (by kernel_rfl)) (GOk.of (.cons ok_w_toDraft (.cons ok_w_eqDraft (.cons ok_w_szDraft (.cons ok_w_markDraft (.cons ok_w_eqDraftResult (.cons ok_w_markDraftResult (.cons ok_w_heldDraftResult (.cons ok_s_GivePage (.cons ok_i_GivePage .nil)))))))) : AllOk pg [(33, con_w_toDraft), (36, con_w_eqDraft), (31, con_w_szDraft), (37, con_w_markDraft), (42, con_w_eqDraftResult), (43, con_w_markDraftResult), (44, con_w_heldDraftResult), (66, con_s_GivePage), (67, con_i_GivePage)])) mixed (Enters.of (by kernel_rfl)) (fn := Go.Proofs.Try.f11) (by kernel_rfl) rfl (by kernel_rfl) ?_
  intro hp hw
  have hq : Q_w_FnExactGivePage d i := hp _ (List.mem_singleton.2 rfl)
  clear hp
  change claim Lg.std Alg.std τ_w_FnExactGivePage (Gam.of [(33, ⟨true, g1 (pD (.pair (.pair (.sl (.sl (.int .u8))) (.pair (.sl (.pair (.int .i64) (.pair (.sl (.int .u8)) .unit))) .unit)) (.pair (.sl (.int .i64)) (.pair (.sl (.int .i64)) .unit)))) fun a => ⟨[Q_w_toDraft a], [⟨(.pair (.pair (.sl (.sl (.int .u8))) (.pair (.sl (.pair (.int .i64) (.pair (.sl (.int .u8)) .unit))) .unit)) (.pair (.sl (.int .i64)) (.pair (.sl (.int .i64)) .unit))), (.pr (.pr (.ow (.ow .sh)) (.pr (.ow (.pr .sh (.pr (.ow .sh) .sh))) .sh)) (.pr (.ow .sh) (.pr (.ow .sh) .sh))), F_w_toDraft a⟩], []⟩, [], false, 0⟩), (36, ⟨true, g2 (pD (.pair (.pair (.sl (.sl (.int .u8))) (.pair (.sl (.pair (.int .i64) (.pair (.sl (.int .u8)) .unit))) .unit)) (.pair (.sl (.int .i64)) (.pair (.sl (.int .i64)) .unit)))) (pD (.pair (.pair (.sl (.sl (.int .u8))) (.pair (.sl (.pair (.int .i64) (.pair (.sl (.int .u8)) .unit))) .unit)) (.pair (.sl (.int .i64)) (.pair (.sl (.int .i64)) .unit)))) fun a b => ⟨[Q_w_eqDraft a b], [⟨.bool, .sh, F_w_eqDraft a b⟩], []⟩, [], false, 0⟩), (31, ⟨true, g2 (pD (.pair (.pair (.sl (.sl (.int .u8))) (.pair (.sl (.pair (.int .i64) (.pair (.sl (.int .u8)) .unit))) .unit)) (.pair (.sl (.int .i64)) (.pair (.sl (.int .i64)) .unit)))) (pD (.int .i64)) fun a left => ⟨[Q_w_szDraft a left], [⟨(.int .i64), .sh, F_w_szDraft a left⟩], []⟩, [], false, 0⟩), (37, ⟨true, g2 (pV (.pair (.pair (.sl (.sl (.int .u8))) (.pair (.sl (.pair (.int .i64) (.pair (.sl (.int .u8)) .unit))) .unit)) (.pair (.sl (.int .i64)) (.pair (.sl (.int .i64)) .unit))) (.pr (.pr (.ow (.ow .sh)) (.pr (.ow (.pr .sh (.pr (.ow .sh) .sh))) .sh)) (.pr (.ow .sh) (.pr (.ow .sh) .sh)))) (pD (.int .i64)) fun a k => ⟨[Q_w_markDraft a k], [⟨(.int .i64), .sh, F_w_markDraft a k⟩], [.mv (.pair (.pair (.sl (.sl (.int .u8))) (.pair (.sl (.pair (.int .i64) (.pair (.sl (.int .u8)) .unit))) .unit)) (.pair (.sl (.int .i64)) (.pair (.sl (.int .i64)) .unit))) (.pr (.pr (.ow (.ow .sh)) (.pr (.ow (.pr .sh (.pr (.ow .sh) .sh))) .sh)) (.pr (.ow .sh) (.pr (.ow .sh) .sh))) (B_w_markDraft_a a k)]⟩, [(.pr (.pr (.ow (.ow .sh)) (.pr (.ow (.pr .sh (.pr (.ow .sh) .sh))) .sh)) (.pr (.ow .sh) (.pr (.ow .sh) .sh)))], false, 0⟩), (42, ⟨true, g2 (pD (.pair (.int .i64) (.pair (.pair (.pair (.sl (.sl (.int .u8))) (.pair (.sl (.pair (.int .i64) (.pair (.sl (.int .u8)) .unit))) .unit)) (.pair (.sl (.int .i64)) (.pair (.sl (.int .i64)) .unit))) .unit))) (pD (.pair (.int .i64) (.pair (.pair (.pair (.sl (.sl (.int .u8))) (.pair (.sl (.pair (.int .i64) (.pair (.sl (.int .u8)) .unit))) .unit)) (.pair (.sl (.int .i64)) (.pair (.sl (.int .i64)) .unit))) .unit))) fun a b => ⟨[Q_w_eqDraftResult a b], [⟨.bool, .sh, F_w_eqDraftResult a b⟩], []⟩, [], false, 0⟩), (43, ⟨true, g2 (pV (.pair (.int .i64) (.pair (.pair (.pair (.sl (.sl (.int .u8))) (.pair (.sl (.pair (.int .i64) (.pair (.sl (.int .u8)) .unit))) .unit)) (.pair (.sl (.int .i64)) (.pair (.sl (.int .i64)) .unit))) .unit)) (.pr .sh (.pr (.pr (.pr (.ow (.ow .sh)) (.pr (.ow (.pr .sh (.pr (.ow .sh) .sh))) .sh)) (.pr (.ow .sh) (.pr (.ow .sh) .sh))) .sh))) (pD (.int .i64)) fun a k => ⟨[Q_w_markDraftResult a k], [⟨(.int .i64), .sh, F_w_markDraftResult a k⟩], [.mv (.pair (.int .i64) (.pair (.pair (.pair (.sl (.sl (.int .u8))) (.pair (.sl (.pair (.int .i64) (.pair (.sl (.int .u8)) .unit))) .unit)) (.pair (.sl (.int .i64)) (.pair (.sl (.int .i64)) .unit))) .unit)) (.pr .sh (.pr (.pr (.pr (.ow (.ow .sh)) (.pr (.ow (.pr .sh (.pr (.ow .sh) .sh))) .sh)) (.pr (.ow .sh) (.pr (.ow .sh) .sh))) .sh)) (B_w_markDraftResult_a a k)]⟩, [(.pr .sh (.pr (.pr (.pr (.ow (.ow .sh)) (.pr (.ow (.pr .sh (.pr (.ow .sh) .sh))) .sh)) (.pr (.ow .sh) (.pr (.ow .sh) .sh))) .sh))], false, 0⟩), (44, ⟨true, g2 (pD (.pair (.int .i64) (.pair (.pair (.pair (.sl (.sl (.int .u8))) (.pair (.sl (.pair (.int .i64) (.pair (.sl (.int .u8)) .unit))) .unit)) (.pair (.sl (.int .i64)) (.pair (.sl (.int .i64)) .unit))) .unit))) (pD (.int .i64)) fun a k => ⟨[Q_w_heldDraftResult a k], [⟨(.int .i64), .sh, F_w_heldDraftResult a k⟩], []⟩, [], false, 0⟩), (66, ⟨true, g2 (pD (.pair (.pair (.sl (.sl (.int .u8))) (.pair (.sl (.pair (.int .i64) (.pair (.sl (.int .u8)) .unit))) .unit)) (.pair (.sl (.int .i64)) (.pair (.sl (.int .i64)) .unit)))) (pD (.int .i64)) fun d id => ⟨[Q_s_GivePage d id], [⟨(.pair (.int .i64) (.pair (.pair (.pair (.sl (.sl (.int .u8))) (.pair (.sl (.pair (.int .i64) (.pair (.sl (.int .u8)) .unit))) .unit)) (.pair (.sl (.int .i64)) (.pair (.sl (.int .i64)) .unit))) .unit)), (.pr .sh (.pr (.pr (.pr (.ow (.ow .sh)) (.pr (.ow (.pr .sh (.pr (.ow .sh) .sh))) .sh)) (.pr (.ow .sh) (.pr (.ow .sh) .sh))) .sh)), F_s_GivePage d id⟩], []⟩, [], false, 0⟩), (67, ⟨true, g2 (pD (.pair (.pair (.sl (.sl (.int .u8))) (.pair (.sl (.pair (.int .i64) (.pair (.sl (.int .u8)) .unit))) .unit)) (.pair (.sl (.int .i64)) (.pair (.sl (.int .i64)) .unit)))) (pD (.int .i64)) fun d id => ⟨[Q_i_GivePage d id], [⟨(.pair (.int .i64) (.pair (.pair (.pair (.sl (.sl (.int .u8))) (.pair (.sl (.pair (.int .i64) (.pair (.sl (.int .u8)) .unit))) .unit)) (.pair (.sl (.int .i64)) (.pair (.sl (.int .i64)) .unit))) .unit)), (.pr .sh (.pr (.pr (.pr (.ow (.ow .sh)) (.pr (.ow (.pr .sh (.pr (.ow .sh) .sh))) .sh)) (.pr (.ow .sh) (.pr (.ow .sh) .sh))) .sh)), F_i_GivePage d id⟩], []⟩, [], false, 0⟩)]) O_w_FnExactGivePage Go.Proofs.Try.f11 [.dat (.pair (.pair (.sl (.sl (.int .u8))) (.pair (.sl (.pair (.int .i64) (.pair (.sl (.int .u8)) .unit))) .unit)) (.pair (.sl (.int .i64)) (.pair (.sl (.int .i64)) .unit))) d, .dat (.int .i64) i] ⟨[Q_w_FnExactGivePage d i], [⟨.bool, .sh, F_w_FnExactGivePage d i⟩], []⟩
  generalize hg_F_w_toDraft : F_w_toDraft = g_F_w_toDraft
  generalize hg_Q_w_toDraft : Q_w_toDraft = g_Q_w_toDraft
  generalize hg_F_w_eqDraft : F_w_eqDraft = g_F_w_eqDraft
  generalize hg_Q_w_eqDraft : Q_w_eqDraft = g_Q_w_eqDraft
  generalize hg_F_w_szDraft : F_w_szDraft = g_F_w_szDraft
  generalize hg_Q_w_szDraft : Q_w_szDraft = g_Q_w_szDraft
  generalize hg_F_w_markDraft : F_w_markDraft = g_F_w_markDraft
  generalize hg_B_w_markDraft_a : B_w_markDraft_a = g_B_w_markDraft_a
  generalize hg_Q_w_markDraft : Q_w_markDraft = g_Q_w_markDraft
  generalize hg_F_w_eqDraftResult : F_w_eqDraftResult = g_F_w_eqDraftResult
  generalize hg_Q_w_eqDraftResult : Q_w_eqDraftResult = g_Q_w_eqDraftResult
  generalize hg_F_w_markDraftResult : F_w_markDraftResult = g_F_w_markDraftResult
  generalize hg_B_w_markDraftResult_a : B_w_markDraftResult_a = g_B_w_markDraftResult_a
  generalize hg_Q_w_markDraftResult : Q_w_markDraftResult = g_Q_w_markDraftResult
  generalize hg_F_w_heldDraftResult : F_w_heldDraftResult = g_F_w_heldDraftResult
  generalize hg_Q_w_heldDraftResult : Q_w_heldDraftResult = g_Q_w_heldDraftResult
  generalize hg_F_s_GivePage : F_s_GivePage = g_F_s_GivePage
  generalize hg_Q_s_GivePage : Q_s_GivePage = g_Q_s_GivePage
  generalize hg_F_i_GivePage : F_i_GivePage = g_F_i_GivePage
  generalize hg_Q_i_GivePage : Q_i_GivePage = g_Q_i_GivePage
  generalize hR0 : F_w_FnExactGivePage d i = R0
  generalize Q_w_FnExactGivePage d i = Q0
  generalize hL : Lg.std = L
  generalize hA : Alg.std = A
  cbv
  subst hL hA
  try dsimp only [Ty.den]
  obtain ⟨⟨d_0_0, d_0_1, ⟨⟩⟩, d_1, d_2, ⟨⟩⟩ := d
  have hct_d := cnt_tot (.pair (.pair (.sl (.sl (.int .u8))) (.pair (.sl (.pair (.int .i64) (.pair (.sl (.int .u8)) .unit))) .unit)) (.pair (.sl (.int .i64)) (.pair (.sl (.int .i64)) .unit))) ((d_0_0, d_0_1, PUnit.unit), d_1, d_2, PUnit.unit) (by decide)
  rcases Classical.em (tot (.pair (.pair (.sl (.sl (.int .u8))) (.pair (.sl (.pair (.int .i64) (.pair (.sl (.int .u8)) .unit))) .unit)) (.pair (.sl (.int .i64)) (.pair (.sl (.int .i64)) .unit))) ((d_0_0, d_0_1, PUnit.unit), d_1, d_2, PUnit.unit) ≤ 1048576) with hB | hB
  · have htt := giveP_tot ((d_0_0, d_0_1, PUnit.unit), d_1, d_2, PUnit.unit) i
    have hct := cnt_tot (.pair (.int .i64) (.pair (.pair (.pair (.sl (.sl (.int .u8))) (.pair (.sl (.pair (.int .i64) (.pair (.sl (.int .u8)) .unit))) .unit)) (.pair (.sl (.int .i64)) (.pair (.sl (.int .i64)) .unit))) .unit)) (giveP ((d_0_0, d_0_1, PUnit.unit), d_1, d_2, PUnit.unit) i) (by decide)
    have htr : tot (.pair (.int .i64) (.pair (.pair (.pair (.sl (.sl (.int .u8))) (.pair (.sl (.pair (.int .i64) (.pair (.sl (.int .u8)) .unit))) .unit)) (.pair (.sl (.int .i64)) (.pair (.sl (.int .i64)) .unit))) .unit)) (giveP ((d_0_0, d_0_1, PUnit.unit), d_1, d_2, PUnit.unit) i) = tot (.pair (.pair (.sl (.sl (.int .u8))) (.pair (.sl (.pair (.int .i64) (.pair (.sl (.int .u8)) .unit))) .unit)) (.pair (.sl (.int .i64)) (.pair (.sl (.int .i64)) .unit))) (giveP ((d_0_0, d_0_1, PUnit.unit), d_1, d_2, PUnit.unit) i).2.1 := by simp only [tot_p, tot_u, tot_i, Nat.zero_add, Nat.add_zero]
    have hc0 : cnt false (.pair (.int .i64) (.pair (.pair (.pair (.sl (.sl (.int .u8))) (.pair (.sl (.pair (.int .i64) (.pair (.sl (.int .u8)) .unit))) .unit)) (.pair (.sl (.int .i64)) (.pair (.sl (.int .i64)) .unit))) .unit)) (giveP ((d_0_0, d_0_1, PUnit.unit), d_1, d_2, PUnit.unit) i) ≤ 4000000000 := by
      have := hct
      omega
    try simp only [tDisk, tPut, tot_int] at *
    subst hR0 hg_F_w_toDraft hg_Q_w_toDraft hg_F_w_eqDraft hg_Q_w_eqDraft hg_F_w_szDraft hg_Q_w_szDraft hg_F_w_markDraft hg_B_w_markDraft_a hg_Q_w_markDraft hg_F_w_eqDraftResult hg_Q_w_eqDraftResult hg_F_w_markDraftResult hg_B_w_markDraftResult_a hg_Q_w_markDraftResult hg_F_w_heldDraftResult hg_Q_w_heldDraftResult hg_F_s_GivePage hg_Q_s_GivePage hg_F_i_GivePage hg_Q_i_GivePage
    simp only [Lg.std, Alg.std, List.drop_zero, List.take_length, F_w_toDraft, F_w_eqDraft, F_w_szDraft, F_w_markDraft, F_w_eqDraftResult, F_w_markDraftResult, F_w_heldDraftResult, F_s_GivePage, F_i_GivePage, B_w_markDraft_a, B_w_markDraftResult_a, Q_w_toDraft, Q_w_eqDraft, Q_w_szDraft, Q_w_markDraft, Q_w_eqDraftResult, Q_w_markDraftResult, Q_w_heldDraftResult, Q_s_GivePage, Q_i_GivePage, F_w_FnExactGivePage]
    generalize hW : (giveP ((d_0_0, d_0_1, PUnit.unit), d_1, d_2, PUnit.unit) i : (Int) × (((List (List (Int))) × (List ((Int) × (List (Int)) × Unit)) × Unit) × (List (Int)) × (List (Int)) × Unit) × Unit) = w at *
    clear hW
    obtain ⟨w_0, ⟨⟨w_1_0_0, w_1_0_1, ⟨⟩⟩, w_1_1, w_1_2, ⟨⟩⟩, ⟨⟩⟩ := w
    try dsimp only at *
    have hm := hd_mk false (.pair (.int .i64) (.pair (.pair (.pair (.sl (.sl (.int .u8))) (.pair (.sl (.pair (.int .i64) (.pair (.sl (.int .u8)) .unit))) .unit)) (.pair (.sl (.int .i64)) (.pair (.sl (.int .i64)) .unit))) .unit)) (w_0, ((w_1_0_0, w_1_0_1, PUnit.unit), w_1_1, w_1_2, PUnit.unit), PUnit.unit) 1 (by omega)
    have mt_w_1_0_0 := fun k => mk_take false (.sl (.int .u8)) w_1_0_0 k
    dsimp only [Ty.den] at mt_w_1_0_0
    have mt_w_1_0_1 := fun k => mk_take false (.pair (.int .i64) (.pair (.sl (.int .u8)) .unit)) w_1_0_1 k
    dsimp only [Ty.den] at mt_w_1_0_1
    have mt_w_1_1 := fun k => mk_take false (.int .i64) w_1_1 k
    dsimp only [Ty.den] at mt_w_1_1
    have mt_w_1_2 := fun k => mk_take false (.int .i64) w_1_2 k
    dsimp only [Ty.den] at mt_w_1_2
    simp only [tot_p, tot_u, tot_i, tot_b, tot_s, cnt_p, cnt_u, cnt_i0, cnt_b0, cnt_s0, cnt_i1, cnt_b1, cnt_s1, cnt_l, mk_p, mk_u, mk_i0, mk_b0, mk_s0, mk_i1, mk_s1, mk_l, hd_p, hd_u, hd_i0, hd_b0, hd_s0, hd_i1, hd_b1, hd_s1, hd_l, mt_w_1_0_0, mt_w_1_0_1, mt_w_1_1, mt_w_1_2] at *
    try simp only [tDisk, tPut, tot_int] at *
    repeat' (first | intro _ | apply And.intro)
    all_goals grind [szf, cnt_mk, hd_mk]
  · subst hR0 hg_F_w_toDraft hg_Q_w_toDraft hg_F_w_eqDraft hg_Q_w_eqDraft hg_F_w_szDraft hg_Q_w_szDraft hg_F_w_markDraft hg_B_w_markDraft_a hg_Q_w_markDraft hg_F_w_eqDraftResult hg_Q_w_eqDraftResult hg_F_w_markDraftResult hg_B_w_markDraftResult_a hg_Q_w_markDraftResult hg_F_w_heldDraftResult hg_Q_w_heldDraftResult hg_F_s_GivePage hg_Q_s_GivePage hg_F_i_GivePage hg_Q_i_GivePage
    simp only [Lg.std, Alg.std, List.drop_zero, List.take_length, F_w_toDraft, F_w_eqDraft, F_w_szDraft, F_w_markDraft, F_w_eqDraftResult, F_w_markDraftResult, F_w_heldDraftResult, F_s_GivePage, F_i_GivePage, B_w_markDraft_a, B_w_markDraftResult_a, Q_w_toDraft, Q_w_eqDraft, Q_w_szDraft, Q_w_markDraft, Q_w_eqDraftResult, Q_w_markDraftResult, Q_w_heldDraftResult, Q_s_GivePage, Q_i_GivePage, F_w_FnExactGivePage]
    generalize hW : (giveP ((d_0_0, d_0_1, PUnit.unit), d_1, d_2, PUnit.unit) i : (Int) × (((List (List (Int))) × (List ((Int) × (List (Int)) × Unit)) × Unit) × (List (Int)) × (List (Int)) × Unit) × Unit) = w at *
    clear hW
    try simp only [tDisk, tPut, tot_int] at *
    simp only [tot_p, tot_u, tot_i, tot_b, tot_s, szf] at *
    repeat' (first | intro _ | apply And.intro)
    all_goals grind
def con_w_FnExactGivePage : Con := ⟨true, g2 (pD (.pair (.pair (.sl (.sl (.int .u8))) (.pair (.sl (.pair (.int .i64) (.pair (.sl (.int .u8)) .unit))) .unit)) (.pair (.sl (.int .i64)) (.pair (.sl (.int .i64)) .unit)))) (pD (.int .i64)) fun d i => ⟨[Q_w_FnExactGivePage d i], [⟨.bool, .sh, F_w_FnExactGivePage d i⟩], []⟩, [], false, 0⟩
theorem ok_w_FnExactGivePage : ConOk pg 11 con_w_FnExactGivePage := ConOk.g2 (Enters.of (by kernel_rfl)) ct_w_FnExactGivePage
end Go.Vee
