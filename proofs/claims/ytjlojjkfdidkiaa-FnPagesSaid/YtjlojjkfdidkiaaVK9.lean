/-
  Contracts of functions of the program: what each returns for all arguments that its precondition lets in.
-/
import Derived.Test.YtjlojjkfdidkiaaVK8
set_option linter.unusedSimpArgs false
set_option linter.unusedVariables false
set_option maxRecDepth 100000
set_option maxHeartbeats 4000000
set_option synthInstance.maxHeartbeats 4000000
set_option synthInstance.maxSize 20000000
namespace Go.Vee
open Go
abbrev PageT := Int × Int × List Int × Unit
theorem sumOf_inj : ∀ (l : List Int) (s t : Int), 0 ≤ s ∧ s < 65521 → 0 ≤ t ∧ t < 65521 → (∀ x ∈ l, 0 ≤ x ∧ x ≤ 255) → sumOf s l = sumOf t l → s = t
  | [], s, t, _, _, _, h => h
  | b :: l, s, t, hs, ht, hl, h => by
    have hb := hl b (by simp)
    have := sumOf_inj l ((227 * s + b + 1) % 65521) ((227 * t + b + 1) % 65521) (by omega) (by omega) (fun x hx => hl x (by simp [hx])) h
    omega
theorem sumOf_set : ∀ (l : List Int) (i : Nat) (v s : Int), 0 ≤ s ∧ s < 65521 → (∀ x ∈ l, 0 ≤ x ∧ x ≤ 255) → 0 ≤ v ∧ v ≤ 255 → i < l.length → v ≠ l.getD i 0 → sumOf s (l.set i v) ≠ sumOf s l
  | [], i, v, s, _, _, _, hi, _ => by simp at hi
  | b :: l, 0, v, s, hs, hl, hv, hi, hne => fun h => by
    have hb := hl b (by simp)
    have hn : v ≠ b := by simpa using hne
    have := sumOf_inj l ((227 * s + v + 1) % 65521) ((227 * s + b + 1) % 65521) (by omega) (by omega) (fun x hx => hl x (by simp [hx])) h
    omega
  | b :: l, i + 1, v, s, hs, hl, hv, hi, hne => fun h => by
    have hb := hl b (by simp)
    exact sumOf_set l i v ((227 * s + b + 1) % 65521) (by omega) (fun x hx => hl x (by simp [hx])) hv (by simpa using hi) (by simpa using hne) h
theorem pairOf_inj (a b : Int) (ha : 0 ≤ a ∧ a < 65536) (hb : 0 ≤ b ∧ b < 65536) (h : pairOf a = pairOf b) : a = b := by
  simp only [pairOf, List.cons.injEq, and_true] at h
  omega
theorem padded_byte (p : PageT) (hb : ∀ x ∈ p.2.2.1, 0 ≤ x ∧ x ≤ 255) : ∀ x ∈ padded p, 0 ≤ x ∧ x ≤ 255 := by
  intro x hx
  simp only [padded, List.mem_append, List.mem_cons, List.not_mem_nil, or_false, List.mem_replicate] at hx
  rcases hx with ((rfl | rfl | rfl) | hx) | ⟨_, rfl⟩
  · omega
  · omega
  · omega
  · exact hb x hx
  · omega
theorem pack_take (p : PageT) (h : p.2.2.1.length ≤ 91) : (packPage p).take 94 = padded p := by
  unfold packPage
  rw [List.take_append_of_le_length (by rw [padded_length p h]; exact Nat.le_refl _), List.take_of_length_le (by rw [padded_length p h]; exact Nat.le_refl _)]
theorem pack_drop (p : PageT) (h : p.2.2.1.length ≤ 91) : (packPage p).drop 94 = pairOf (sumOf 29 (padded p)) := by
  unfold packPage
  rw [List.drop_append_of_le_length (by rw [padded_length p h]; exact Nat.le_refl _), List.drop_of_length_le (by rw [padded_length p h]; exact Nat.le_refl _), List.nil_append]
theorem page_back (p : PageT) (h : pageFault p = 0) : readPage (packPage p) p.2.1 = (0, p, ()) := by
  have hl := pageFault_len p h
  have h1 := packPage_length p hl
  have h2 := pack_take p hl
  have h3 := pack_drop p hl
  have hp := h
  obtain ⟨k, i, bs, u⟩ := p
  unfold pageFault at h
  dsimp only at h hl h1 h2 h3 ⊢
  have hr : 1 ≤ k ∧ k ≤ 3 ∧ 2 ≤ i ∧ i ≤ 63 := by
    split at h
    · cases h
    · rename_i hh; exact Decidable.not_not.1 hh
  have e : packPage (k, i, bs, u) = k % 256 :: i % 256 :: (bs.length : Int) % 256 :: (bs ++ (List.replicate (94 - (3 + bs.length)) 0 ++ pairOf (sumOf 29 (padded (k, i, bs, u))))) := by
    simp [packPage, padded]
  have e1 : rdPage (packPage (k, i, bs, u)) i = (k, i, bs, u) := by
    unfold rdPage
    rw [e]
    have a1 : k % 256 = k := by omega
    have a2 : ((bs.length : Int) % 256).toNat = bs.length := by omega
    simp [a1, a2]
  unfold readPage
  rw [if_neg (by omega), if_neg (by omega)]
  unfold l15Read
  rw [e1, h2, h3, if_neg (by simp), if_neg (by rw [e]; simp; omega), if_neg (by rw [e]; simp; omega), if_neg (by simp [hp])]
theorem page_turned (p : PageT) (h : pageFault p = 0) (hb : ∀ x ∈ p.2.2.1, 0 ≤ x ∧ x ≤ 255) (a : Nat) (v : Int) (ha : a < 96) (hv : 0 ≤ v ∧ v ≤ 255) (hne : v ≠ (packPage p).getD a 0) : (readPage ((packPage p).set a v) p.2.1).1 = 11 := by
  have hl := pageFault_len p h
  have h1 := packPage_length p hl
  have h2 := pack_take p hl
  have h3 := pack_drop p hl
  have hpl := padded_length p hl
  have hpb := padded_byte p hb
  have hs := sumOf_range 29 (padded p) (by omega) hpb
  have hid : 2 ≤ p.2.1 ∧ p.2.1 ≤ 63 := by
    unfold pageFault at h
    split at h
    · cases h
    · rename_i hh; exact (Decidable.not_not.1 hh).2.2
  unfold readPage
  rw [if_neg (by simp [h1]), if_neg (by omega)]
  have key : pairOf (sumOf 29 (((packPage p).set a v).take 94)) ≠ ((packPage p).set a v).drop 94 := by
    by_cases c : a < 94
    · rw [List.take_set, h2, List.drop_set_of_lt (by omega), h3]
      have hg : (packPage p).getD a 0 = (padded p).getD a 0 := by
        rw [← h2]; simp [List.getD_eq_getElem?_getD, List.getElem?_take, c]
      have hne2 : v ≠ (padded p).getD a 0 := hg ▸ hne
      have hd := sumOf_set (padded p) a v 29 (by omega) hpb hv (by omega) hne2
      have hs2 := sumOf_range 29 ((padded p).set a v) (by omega) (fun x hx => by
        rcases List.mem_or_eq_of_mem_set hx with hx | rfl
        · exact hpb x hx
        · exact hv)
      intro e
      exact hd (pairOf_inj _ _ (by omega) (by omega) e)
    · have ht : ((packPage p).set a v).take 94 = padded p := by
        rw [List.take_set, h2, List.set_eq_of_length_le (by omega)]
      rw [ht, ← h3]
      intro e
      have e2 := congrArg (fun l => List.getD l (a - 94) 0) e
      simp only [List.getD_eq_getElem?_getD, List.getElem?_drop] at e2
      rw [show 94 + (a - 94) = a by omega, List.getElem?_set_self (by omega)] at e2
      rw [List.getD_eq_getElem?_getD] at hne
      exact hne (by simpa using e2.symm)
  unfold l15Read
  rw [if_pos key]
theorem page_form (d : List Int) (i : Int) (h : (readPage d i).1 = 0) : pageFault (readPage d i).2.1 = 0 ∧ packPage (readPage d i).2.1 = d := by
  unfold readPage at h ⊢
  split at h
  · cases h
  rename_i h1
  split at h
  · cases h
  rename_i h2
  rw [if_neg h1, if_neg h2]
  unfold l15Read at h ⊢
  dsimp only at h ⊢
  split at h
  · cases h
  rename_i h3
  split at h
  · cases h
  rename_i h4
  split at h
  · cases h
  rename_i h5
  split at h
  · cases h
  rename_i h6
  rw [if_neg h3, if_neg h4, if_neg h5, if_neg h6]
  exact ⟨Decidable.not_not.1 fun hh => h6 (.inl hh), Decidable.not_not.1 fun hh => h6 (.inr hh)⟩
theorem xor_byte (x y : Int) (hx : 0 ≤ x ∧ x ≤ 255) (hy : 1 ≤ y ∧ y ≤ 255) : 0 ≤ bitStd .xor .u8 x y ∧ bitStd .xor .u8 x y ≤ 255 ∧ bitStd .xor .u8 x y ≠ x := by
  have e : bitStd .xor .u8 x y = ((BitVec.ofInt 8 x ^^^ BitVec.ofInt 8 y).toNat : Int) := by
    have hl : (BitVec.ofInt 8 x ^^^ BitVec.ofInt 8 y).toNat < 256 := (BitVec.ofInt 8 x ^^^ BitVec.ofInt 8 y).isLt
    show IntKind.wrap .u8 ((BitVec.ofInt 8 x ^^^ BitVec.ofInt 8 y).toNat : Int) = _
    rw [wrap8]
    omega
  have hl : (BitVec.ofInt 8 x ^^^ BitVec.ofInt 8 y).toNat < 256 := (BitVec.ofInt 8 x ^^^ BitVec.ofInt 8 y).isLt
  rw [e]
  refine ⟨by omega, by omega, fun h => ?_⟩
  have hx2 : (BitVec.ofInt 8 x).toNat = x.toNat := by rw [BitVec.toNat_ofInt]; omega
  have hh : BitVec.ofInt 8 x ^^^ BitVec.ofInt 8 y = BitVec.ofInt 8 x := BitVec.eq_of_toNat_eq (by omega)
  have hz : BitVec.ofInt 8 y = 0#8 := by
    have := congrArg (fun z => BitVec.ofInt 8 x ^^^ z) hh
    simpa [← BitVec.xor_assoc] using this
  have := congrArg BitVec.toNat hz
  rw [BitVec.toNat_ofInt] at this
  simp at this
  omega

end Go.Vee
