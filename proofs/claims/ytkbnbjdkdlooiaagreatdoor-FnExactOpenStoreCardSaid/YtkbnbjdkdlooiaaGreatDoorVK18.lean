/-
  Contracts of functions of the program: what each returns for all arguments that its precondition lets in.
-/
import Derived.Test.YtkbnbjdkdlooiaaGreatDoorVK17
set_option linter.unusedSimpArgs false
set_option linter.unusedVariables false
set_option maxRecDepth 100000
set_option maxHeartbeats 4000000
set_option synthInstance.maxHeartbeats 4000000
set_option synthInstance.maxSize 20000000
namespace Go.Vee
open Go
def rs1 (d : List Int) : RdT := rdNext (d, false, ()) 2
def rs2 (d : List Int) : RdT := rdNext (rs1 d) 1
def rs3 (d : List Int) : RdT := rdNext (rs2 d) 1
def rs4 (d : List Int) : RdT := rdNext (rs3 d) 1
def rs5 (d : List Int) : RdT := rdNext (rs4 d) 1
def rs6 (d : List Int) : RdT := rdNext (rs5 d) 2
def rs7 (d : List Int) : RdT := rdNext (rs6 d) 1
def rs8 (d : List Int) : RdT := rdNext (rs7 d) 1
def rs9 (d : List Int) : RdT := rdNext (rs8 d) (rdOne (rs7 d))
/-- The head that the program reads, and whether the bytes came to an end. -/
def rsP (d : List Int) : SuperT := (rdPair (d, false, ()), rdOne (rs1 d), rdOne (rs2 d), rdOne (rs3 d), rdOne (rs4 d), rdPair (rs5 d), decide (rdOne (rs6 d) = 1), rdTake (rs8 d) (rdOne (rs7 d)), ((sigRd (rs9 d)).1, ()), ())
def rsF (d : List Int) : Bool := (sigRd (rs9 d)).2.2.1
/-- The reference's. -/
def spS (d : List Int) : SigT × Int := l2Read ((d.drop (10 + (d.getD 9 0).toNat)).take (92 - (10 + (d.getD 9 0).toNat)))
def spP (d : List Int) : SuperT := (d.getD 0 0 * 256 + d.getD 1 0, d.getD 2 0, d.getD 3 0, d.getD 4 0, d.getD 5 0, d.getD 6 0 * 256 + d.getD 7 0, decide (d.getD 8 0 = 1), (d.drop 10).take (d.getD 9 0).toNat, (spS d).1, ())
def frameOk (d : List Int) : Int := if ¬ (d.getD 94 0 = d.getD 0 0 ∧ d.getD 95 0 = d.getD 1 0) then 8 else if pairOf (sumOf 29 (d.take 92)) ≠ (d.drop 92).take 2 then 11 else 0
def l18Read (d : List Int) : SuperT × Int := if frameOk d ≠ 0 then (zSuper, frameOk d) else if d.getD 9 0 > 16 ∨ (spS d).2 = 0 ∨ superFault (spP d) ≠ 0 ∨ packSuper (spP d) ≠ d then (zSuper, 5) else (spP d, 0)
def readSuper (d : List Int) : Int × SuperT × Unit := if d.length ≠ 96 then (1, zSuper, ()) else ((l18Read d).2, (l18Read d).1, ())
theorem pair_val (n : Int) (h : 0 ≤ n ∧ n ≤ 60000) : (n / 256 % 256) * 256 + n % 256 = n := by omega
theorem rdPair_cons (x y : Int) (l : List Int) : rdPair (x :: y :: l, false, ()) = x * 256 + y := by
  rw [rdPair_good _ (by simp; omega)]; rfl
theorem rdNext2_cons (x y : Int) (l : List Int) : rdNext (x :: y :: l, false, ()) 2 = (l, false, ()) := by
  unfold rdNext rdBad
  rw [if_neg (by simp; omega)]
  rfl
def hd10 (p : SuperT) : List Int := [p.1 / 256 % 256, p.1 % 256, p.2.1, p.2.2.1, p.2.2.2.1, p.2.2.2.2.1, p.2.2.2.2.2.1 / 256 % 256, p.2.2.2.2.2.1 % 256, if p.2.2.2.2.2.2.1 = true then 1 else 0, (p.2.2.2.2.2.2.2.1.length : Int)]
theorem packSuper_parts (p : SuperT) (h : superFault p = 0) : ∃ z rest : List Int, packSuper p = hd10 p ++ (p.2.2.2.2.2.2.2.1 ++ (packSig p.2.2.2.2.2.2.2.2.1 ++ (z ++ rest))) ∧ 10 + p.2.2.2.2.2.2.2.1.length + (packSig p.2.2.2.2.2.2.2.2.1).length + z.length = 92 ∧ rest.length = 4 := by
  have g := super_good p h
  have hl := superHead_len p h
  refine ⟨List.replicate (92 - (superHead p).length) 0, pairOf (sumOf 29 (superPad p)) ++ pairOf p.1, ?_, ?_, by simp [pairOf]⟩
  · obtain ⟨_, _, g1, g2, g3, g4, g5, _⟩ := g
    have e1 : p.2.1 % 256 = p.2.1 := by omega
    have e2 : p.2.2.1 % 256 = p.2.2.1 := by omega
    have e3 : p.2.2.2.1 % 256 = p.2.2.2.1 := by omega
    have e4 : p.2.2.2.2.1 % 256 = p.2.2.2.2.1 := by omega
    have e5 : (p.2.2.2.2.2.2.2.1.length : Int) % 256 = p.2.2.2.2.2.2.2.1.length := by omega
    have hp : packSuper p = superPad p ++ (pairOf (sumOf 29 (superPad p)) ++ pairOf p.1) := by unfold packSuper; rw [List.append_assoc]
    rw [hp]
    generalize pairOf (sumOf 29 (superPad p)) ++ pairOf p.1 = q
    unfold superPad
    generalize List.replicate (92 - (superHead p).length) (0 : Int) = z
    unfold superHead
    simp only [e1, e2, e3, e4, e5, pairOf, hd10, List.cons_append, List.nil_append, List.append_assoc]
  · have : (superHead p).length = 10 + p.2.2.2.2.2.2.2.1.length + (packSig p.2.2.2.2.2.2.2.2.1).length := by
      simp [superHead, pairOf]; omega
    simp only [List.length_replicate]
    omega
/-- What is packed is what is read: the program's way. -/
theorem rs_fwd (p : SuperT) (h : superFault p = 0) : rsP (packSuper p) = p ∧ rsF (packSuper p) = false := by
  have g := super_good p h
  obtain ⟨z, rest, e, hz, hr⟩ := packSuper_parts p h
  rw [e]
  obtain ⟨gen, root, shadow, theory, next, version, moving, cursor, sym, ⟨⟩⟩ := p
  obtain ⟨g0, g1, g2, g3, g4, g5, g6, g7⟩ := g
  simp only [hd10, List.cons_append, List.nil_append] at *
  generalize htl : packSig sym ++ (z ++ rest) = tl at *
  have s1 : rs1 (gen / 256 % 256 :: gen % 256 :: root :: shadow :: theory :: next :: version / 256 % 256 :: version % 256 :: (if moving = true then 1 else 0) :: (cursor.length : Int) :: (cursor ++ tl)) = (root :: shadow :: theory :: next :: version / 256 % 256 :: version % 256 :: (if moving = true then 1 else 0) :: (cursor.length : Int) :: (cursor ++ tl), false, ()) := rdNext2_cons _ _ _
  generalize hd : gen / 256 % 256 :: gen % 256 :: root :: shadow :: theory :: next :: version / 256 % 256 :: version % 256 :: (if moving = true then 1 else 0) :: (cursor.length : Int) :: (cursor ++ tl) = d at *
  have s2 : rs2 d = (shadow :: theory :: next :: version / 256 % 256 :: version % 256 :: (if moving = true then 1 else 0) :: (cursor.length : Int) :: (cursor ++ tl), false, ()) := by unfold rs2; rw [s1, rdNext_cons]
  have s3 : rs3 d = (theory :: next :: version / 256 % 256 :: version % 256 :: (if moving = true then 1 else 0) :: (cursor.length : Int) :: (cursor ++ tl), false, ()) := by unfold rs3; rw [s2, rdNext_cons]
  have s4 : rs4 d = (next :: version / 256 % 256 :: version % 256 :: (if moving = true then 1 else 0) :: (cursor.length : Int) :: (cursor ++ tl), false, ()) := by unfold rs4; rw [s3, rdNext_cons]
  have s5 : rs5 d = (version / 256 % 256 :: version % 256 :: (if moving = true then 1 else 0) :: (cursor.length : Int) :: (cursor ++ tl), false, ()) := by unfold rs5; rw [s4, rdNext_cons]
  have s6 : rs6 d = ((if moving = true then 1 else 0) :: (cursor.length : Int) :: (cursor ++ tl), false, ()) := by unfold rs6; rw [s5, rdNext2_cons]
  have s7 : rs7 d = ((cursor.length : Int) :: (cursor ++ tl), false, ()) := by unfold rs7; rw [s6, rdNext_cons]
  have s8 : rs8 d = (cursor ++ tl, false, ()) := by unfold rs8; rw [s7, rdNext_cons]
  have s9 : rs9 d = (tl, false, ()) := by unfold rs9; rw [s7, s8, rdOne_cons, rdNext_app _ _ _ rfl]
  have sg : sigRd (tl, false, ()) = (sym.1, (z ++ rest, false, ())) := by rw [← htl]; exact sigRd_fwd sym (z ++ rest) g7
  have hm : decide ((if moving = true then (1 : Int) else 0) = 1) = moving := by cases moving <;> rfl
  have hgn := pair_val gen (by omega)
  have hvn := pair_val version (by omega)
  constructor
  · unfold rsP
    rw [s9, s8, s7, s6, s5, s4, s3, s2, s1, sg, rdOne_cons, rdOne_cons, rdOne_cons, rdOne_cons, rdOne_cons, rdOne_cons, rdPair_cons, rdTake_app _ _ _ rfl, hm, hvn, ← hd, rdPair_cons, hgn]
  · unfold rsF
    rw [s9, sg]
/-- What is packed is what is read: the reference's way. -/
theorem sp_fwd (p : SuperT) (h : superFault p = 0) : spP (packSuper p) = p ∧ (spS (packSuper p)).2 ≠ 0 ∧ ¬ (packSuper p).getD 9 0 > 16 := by
  have g := super_good p h
  obtain ⟨z, rest, e, hz, hr⟩ := packSuper_parts p h
  rw [e]
  obtain ⟨gen, root, shadow, theory, next, version, moving, cursor, sym, ⟨⟩⟩ := p
  obtain ⟨g0, g1, g2, g3, g4, g5, g6, g7⟩ := g
  simp only [hd10, List.cons_append, List.nil_append] at *
  have hS : spS (gen / 256 % 256 :: gen % 256 :: root :: shadow :: theory :: next :: version / 256 % 256 :: version % 256 :: (if moving = true then 1 else 0) :: (cursor.length : Int) :: (cursor ++ (packSig sym ++ (z ++ rest)))) = (sym, ((packSig sym).length : Int)) := by
    unfold spS
    simp only [List.getD_cons_succ, List.getD_cons_zero, Int.toNat_natCast]
    have e1 : 10 + cursor.length = cursor.length + 1 + 1 + 1 + 1 + 1 + 1 + 1 + 1 + 1 + 1 := by omega
    rw [e1]
    simp only [List.drop_succ_cons]
    rw [List.drop_append_of_le_length (Nat.le_refl _), List.drop_length, List.nil_append, ← List.append_assoc, List.take_append_of_le_length (by simp; omega), List.take_of_length_le (by simp; omega)]
    exact l2Read_fwd sym z g7
  have hm : decide ((if moving = true then (1 : Int) else 0) = 1) = moving := by cases moving <;> rfl
  have hgn := pair_val gen (by omega)
  have hvn := pair_val version (by omega)
  refine ⟨?_, ?_, ?_⟩
  · unfold spP
    rw [hS]
    simp only [List.getD_cons_succ, List.getD_cons_zero, Int.toNat_natCast, List.drop_succ_cons, List.drop_zero, hm, hgn, hvn, List.take_append_of_le_length (Nat.le_refl _), List.take_length]
  · rw [hS]
    simp [packSig]
    omega
  · simp only [List.getD_cons_succ, List.getD_cons_zero]
    omega
/-- The program reads as the reference does. -/
theorem readSuper_same (d : List Int) (h : frameOk d = 0) (hl : d.length = 96) : readSuper d = if rsF d = true ∨ superFault (rsP d) ≠ 0 ∨ packSuper (rsP d) ≠ d then (5, zSuper, ()) else (0, rsP d, ()) := by
  unfold readSuper l18Read
  rw [if_neg (by simpa using hl), if_neg (by simpa using h)]
  by_cases h1 : rsF d = true ∨ superFault (rsP d) ≠ 0 ∨ packSuper (rsP d) ≠ d
  · rw [if_pos h1]
    by_cases h2 : d.getD 9 0 > 16 ∨ (spS d).2 = 0 ∨ superFault (spP d) ≠ 0 ∨ packSuper (spP d) ≠ d
    · rw [if_pos h2]
    · exfalso
      simp only [not_or, Decidable.not_not] at h2
      obtain ⟨_, _, h3, h4⟩ := h2
      have hf := rs_fwd _ h3
      rw [h4] at hf
      rw [hf.1, hf.2, h3, h4] at h1
      simp at h1
  · rw [if_neg h1]
    simp only [not_or, Decidable.not_not, Bool.not_eq_true] at h1
    obtain ⟨_, h3, h4⟩ := h1
    have hf := sp_fwd _ h3
    rw [h4] at hf
    rw [if_neg, hf.1]
    rw [hf.1, h4]
    simp only [not_or, Decidable.not_not]
    exact ⟨hf.2.2, hf.2.1, h3, trivial⟩
theorem frame_8 (d : List Int) (h : ¬ (d.getD 94 0 = d.getD 0 0 ∧ d.getD 95 0 = d.getD 1 0)) : frameOk d = 8 := by unfold frameOk; exact if_pos h
theorem frame_11 (d : List Int) (h1 : d.getD 94 0 = d.getD 0 0) (h2 : d.getD 95 0 = d.getD 1 0) (h : pairOf (sumOf 29 (d.take 92)) ≠ (d.drop 92).take 2) : frameOk d = 11 := by
  unfold frameOk; rw [if_neg (fun k => k ⟨h1, h2⟩), if_pos h]
theorem frame_0 (d : List Int) (h1 : d.getD 94 0 = d.getD 0 0) (h2 : d.getD 95 0 = d.getD 1 0) (h : pairOf (sumOf 29 (d.take 92)) = (d.drop 92).take 2) : frameOk d = 0 := by
  unfold frameOk; rw [if_neg (fun k => k ⟨h1, h2⟩), if_neg (fun k => k h)]
theorem l18_bad (d : List Int) (h : frameOk d ≠ 0) : l18Read d = (zSuper, frameOk d) := by unfold l18Read; exact if_pos h
theorem l18_good (d : List Int) (h : frameOk d = 0) : l18Read d = if d.getD 9 0 > 16 ∨ (spS d).2 = 0 ∨ superFault (spP d) ≠ 0 ∨ packSuper (spP d) ≠ d then (zSuper, 5) else (spP d, 0) := by
  unfold l18Read; exact if_neg (fun k => k h)
theorem l18_8 (d : List Int) (h : ¬ (d.getD 94 0 = d.getD 0 0 ∧ d.getD 95 0 = d.getD 1 0)) : l18Read d = (zSuper, 8) := by
  have := frame_8 d h; rw [l18_bad d (by omega), this]
theorem l18_11 (d : List Int) (h1 : d.getD 94 0 = d.getD 0 0) (h2 : d.getD 95 0 = d.getD 1 0) (h : pairOf (sumOf 29 (d.take 92)) ≠ (d.drop 92).take 2) : l18Read d = (zSuper, 11) := by
  have := frame_11 d h1 h2 h; rw [l18_bad d (by omega), this]
theorem l18_r (d : List Int) (h1 : d.getD 94 0 = d.getD 0 0) (h2 : d.getD 95 0 = d.getD 1 0) (h : pairOf (sumOf 29 (d.take 92)) = (d.drop 92).take 2) :
    l18Read d = if d.getD 9 0 > 16 ∨ (spS d).2 = 0 ∨ superFault (spP d) ≠ 0 ∨ packSuper (spP d) ≠ d then (zSuper, 5) else (spP d, 0) := l18_good d (frame_0 d h1 h2 h)
theorem two_eq (d : List Int) (h : d.length = 96) : (d.take 2 = (d.drop 94).take 2) ↔ (d.getD 94 0 = d.getD 0 0 ∧ d.getD 95 0 = d.getD 1 0) := by
  have h1 : d.take 2 = [d.getD 0 0, d.getD 1 0] := by
    match d, h with
    | a :: b :: l, _ => rfl
    | [_], h => simp at h
  have h2 : (d.drop 94).take 2 = [d.getD 94 0, d.getD 95 0] := by
    have e1 := drop_cons d 0 94 (by omega)
    have e2 := drop_cons d 0 95 (by omega)
    rw [e1, e2]; rfl
  rw [h1, h2]
  constructor
  · intro e; injection e with e1 e2; injection e2 with e2 _; exact ⟨e1.symm, e2.symm⟩
  · rintro ⟨e1, e2⟩; rw [e1, e2]
theorem rdS_1 (d : List Int) (h : d.length ≠ 96) : readSuper d = (1, zSuper, ()) := by unfold readSuper; exact if_pos h
theorem rdS_8 (d : List Int) (h : d.length = 96) (h1 : ¬ d.take 2 = (d.drop 94).take 2) : readSuper d = (8, zSuper, ()) := by
  unfold readSuper; rw [if_neg (fun k => k h), l18_8 d (fun k => h1 ((two_eq d h).2 k))]
theorem rdS_11 (d : List Int) (h : d.length = 96) (h1 : d.take 2 = (d.drop 94).take 2) (h2 : pairOf (sumOf 29 (d.take 92)) ≠ (d.drop 92).take 2) : readSuper d = (11, zSuper, ()) := by
  have := (two_eq d h).1 h1
  unfold readSuper; rw [if_neg (fun k => k h), l18_11 d this.1 this.2 h2]
theorem rdS_f (d : List Int) (h : d.length = 96) (h1 : d.take 2 = (d.drop 94).take 2) (h2 : pairOf (sumOf 29 (d.take 92)) = (d.drop 92).take 2) : frameOk d = 0 := by
  have := (two_eq d h).1 h1
  exact frame_0 d this.1 this.2 h2
theorem rdNext_by (r : RdT) (n : Int) (h : ∀ y ∈ r.1, 0 ≤ y ∧ y ≤ 255) : ∀ y ∈ (rdNext r n).1, 0 ≤ y ∧ y ≤ 255 := by
  obtain ⟨x, f, ⟨⟩⟩ := r
  exact rdNext_bytes x f n _ _ rfl h
theorem rs_by (d : List Int) (h : ∀ y ∈ d, 0 ≤ y ∧ y ≤ 255) : (∀ y ∈ (rs5 d).1, 0 ≤ y ∧ y ≤ 255) ∧ (∀ y ∈ (rs6 d).1, 0 ≤ y ∧ y ≤ 255) ∧ (∀ y ∈ (rs7 d).1, 0 ≤ y ∧ y ≤ 255) ∧ (∀ y ∈ (rs9 d).1, 0 ≤ y ∧ y ≤ 255) := by
  have b5 : ∀ y ∈ (rs5 d).1, 0 ≤ y ∧ y ≤ 255 := rdNext_by _ _ (rdNext_by _ _ (rdNext_by _ _ (rdNext_by _ _ (rdNext_by _ _ h))))
  have b6 : ∀ y ∈ (rs6 d).1, 0 ≤ y ∧ y ≤ 255 := rdNext_by _ _ b5
  have b7 : ∀ y ∈ (rs7 d).1, 0 ≤ y ∧ y ≤ 255 := rdNext_by _ _ b6
  exact ⟨b5, b6, b7, rdNext_by _ _ (rdNext_by _ _ b7)⟩


def F_s_l18Read (data : List (Int)) : (Int) × (Int) × (Int) × (Int) × (Int) × (Int) × (Bool) × (List (Int)) × ((List ((List Int) × (Int) × Unit)) × Unit) × Unit := (l18Read data).1
def F_s_l18Read_1 (data : List (Int)) : Int := (l18Read data).2
def Q_s_l18Read (data : List (Int)) : Prop := data.length = 96
def O_s_l18Read : Opt := ⟨fun i => (match decide (i = 3) with | true => true | false => false), fun i => [], fun i => (match decide (i = 16) with | true => (.alt 0 (.alt 1 (.take 2 (.take 3 (.alt 4 (.alt 5 (.alt 6 (.alt 7 (.alt 8 (.take 9 .done) .no) .no) .no) (.alt 6 (.alt 5 (.alt 7 (.alt 8 (.take 9 .done) .no) .no) (.alt 7 (.alt 5 (.alt 8 (.take 9 .done) .no) .no) .no)) .no)) (.alt 6 (.alt 4 (.alt 5 (.alt 7 (.alt 8 (.take 9 .done) .no) .no) (.alt 7 (.alt 5 (.alt 8 (.take 9 .done) .no) .no) .no)) (.alt 7 (.alt 4 (.alt 5 (.alt 8 (.take 9 .done) .no) .no) .no) .no)) .no)))) .no) .no) | false => (match decide (i = 7) with | true => (.take 0 (.take 1 (.take 2 (.take 3 (.take 4 (.take 5 (.take 6 (.take 7 (.take 8 (.take 9 (.take 10 (.take 11 (.take 12 (.take 13 (.take 14 (.take 15 (.take 16 (.take 17 (.take 18 (.take 19 (.take 20 (.take 21 (.take 22 (.take 23 (.take 24 (.take 25 (.take 26 (.take 27 (.take 28 (.take 29 (.take 30 (.take 31 (.take 32 (.take 33 (.take 34 (.take 35 (.take 36 (.take 37 (.take 38 (.take 39 (.take 40 (.alt 41 (.alt 42 .done .no) .no)))))))))))))))))))))))))))))))))))))))))) | false => (match decide (i = 5) with | true => (.take 0 (.take 1 (.take 2 (.take 3 (.take 7 (.take 8 (.take 9 (.take 10 (.take 11 (.take 12 (.alt 4 (.alt 5 (.take 6 (.take 13 (.take 14 .done))) (.alt 13 (.alt 5 (.take 6 (.take 14 .done)) .no) .no)) (.alt 13 (.alt 4 (.alt 5 (.take 6 (.take 14 .done)) .no) .no) .no)))))))))))) | false => .done))), fun i => (match decide (i = 5) with | true => some [true, false, true, false, true, true, false, false, false, false, false, false, false, false, false, false, false, false, false, false, false, false, false, false, false, false, false, false, false, false, false, false, false, false, false, false, false, false, false, false, false, false, false, false, false, false, true, false, false, false, false, false, false, false, false, false, false, false, false, false, false, false, false, false, false, false, false, false, false, false, false, false, false, false, false, false, false, false, false, false, false, false, false, false, false, false, false, false, false, false, false, false, false, false, false, false, false, false, false, false, false, false, false, false, false, false, false, false, false, false, false, false, false, false, false, false, false, false, false, false, false, false, false, false, false, false, false, false, false, false] | false => none), fun i => false, fun i => [], fun i => false, fun i => none⟩
def τ_s_l18Read : Env := Env.of [(2, (.int .i64)), (3, (.int .i64)), (4, .bool), (5, (.int .u8)), (9, .str), (27, (.sl (.int .u8))), (30, (.pair (.sl (.pair .str (.pair (.int .i64) .unit))) .unit)), (32, (.pair (.int .i64) (.pair (.int .i64) (.pair (.int .i64) (.pair (.int .i64) (.pair (.int .i64) (.pair (.int .i64) (.pair .bool (.pair (.sl (.int .u8)) (.pair (.pair (.sl (.pair .str (.pair (.int .i64) .unit))) .unit) .unit))))))))))] [(130, (.pair (.int .i64) (.pair (.int .i64) (.pair (.int .i64) (.pair (.int .i64) (.pair (.int .i64) (.pair (.int .i64) (.pair .bool (.pair (.sl (.int .u8)) (.pair (.pair (.sl (.pair .str (.pair (.int .i64) .unit))) .unit) .unit))))))))))] []

theorem ct_s_l18Read (data : List (Int)) : Ct pg 110 [.dat (.sl (.int .u8)) data] ⟨[Q_s_l18Read data], [⟨(.pair (.int .i64) (.pair (.int .i64) (.pair (.int .i64) (.pair (.int .i64) (.pair (.int .i64) (.pair (.int .i64) (.pair .bool (.pair (.sl (.int .u8)) (.pair (.pair (.sl (.pair .str (.pair (.int .i64) .unit))) .unit) .unit))))))))), (.pr .sh (.pr .sh (.pr .sh (.pr .sh (.pr .sh (.pr .sh (.pr .sh (.pr (.ow .sh) (.pr (.pr (.ow (.pr .sh (.pr .sh .sh))) .sh) .sh))))))))), F_s_l18Read data⟩, ⟨(.int .i64), .sh, F_s_l18Read_1 data⟩], []⟩ := by
  refine ct_claim (O := O_s_l18Read) (τ := τ_s_l18Read) (EnvOk.of (by kernel_rfl) (by kernel_rfl)) (GOk.of (.cons ok_s_l1Sum (.cons ok_s_l1Pair (.cons ok_s_l1Copy (.cons ok_s_SuperFault (.cons ok_s_l2Read (.cons ok_s_l18Pack .nil))))) : AllOk pg [(180, con_s_l1Sum), (179, con_s_l1Pair), (181, con_s_l1Copy), (82, con_s_SuperFault), (182, con_s_l2Read), (146, con_s_l18Pack)])) mixed (Enters.of (by kernel_rfl)) (fn := Go.Proofs.Tryz.f110) (by kernel_rfl) rfl (by kernel_rfl) ?_
  intro hp hw
  have hq : Q_s_l18Read data := hp _ (List.mem_singleton.2 rfl)
  clear hp
  change claim Lg.std Alg.std τ_s_l18Read (Gam.of [(180, ⟨true, g1 (pD (.sl (.int .u8))) fun a => .one ⟨[Q_s_l1Sum a], [⟨(.int .i64), .sh, F_s_l1Sum a⟩], []⟩, [], false, 0⟩), (179, ⟨true, g1 (pD (.int .i64)) fun n => .one ⟨[Q_s_l1Pair n], [⟨(.sl (.int .u8)), (.ow .sh), F_s_l1Pair n⟩], []⟩, [], false, 0⟩), (181, ⟨true, g1 (pD (.sl (.int .u8))) fun data => .one ⟨[Q_s_l1Copy data], [⟨(.sl (.int .u8)), (.ow .sh), F_s_l1Copy data⟩], []⟩, [], false, 0⟩), (82, ⟨true, g1 (pD (.pair (.int .i64) (.pair (.int .i64) (.pair (.int .i64) (.pair (.int .i64) (.pair (.int .i64) (.pair (.int .i64) (.pair .bool (.pair (.sl (.int .u8)) (.pair (.pair (.sl (.pair .str (.pair (.int .i64) .unit))) .unit) .unit)))))))))) fun p => .one ⟨[Q_s_SuperFault p], [⟨(.int .i64), .sh, F_s_SuperFault p⟩], []⟩, [], false, 0⟩), (182, ⟨true, g1 (pD (.sl (.int .u8))) fun data => .one ⟨[Q_s_l2Read data], [⟨(.pair (.sl (.pair .str (.pair (.int .i64) .unit))) .unit), (.pr (.ow (.pr .sh (.pr .sh .sh))) .sh), F_s_l2Read data⟩, ⟨(.int .i64), .sh, F_s_l2Read_1 data⟩], []⟩, [], false, 0⟩), (146, ⟨true, g1 (pP (.pair (.int .i64) (.pair (.int .i64) (.pair (.int .i64) (.pair (.int .i64) (.pair (.int .i64) (.pair (.int .i64) (.pair .bool (.pair (.sl (.int .u8)) (.pair (.pair (.sl (.pair .str (.pair (.int .i64) .unit))) .unit) .unit)))))))))) fun p => .one ⟨[Q_s_l18Pack p], [⟨(.sl (.int .u8)), (.ow .sh), F_s_l18Pack p⟩], []⟩, [], false, 0⟩)]) O_s_l18Read Go.Proofs.Tryz.f110 [.dat (.sl (.int .u8)) data] ⟨[Q_s_l18Read data], [⟨(.pair (.int .i64) (.pair (.int .i64) (.pair (.int .i64) (.pair (.int .i64) (.pair (.int .i64) (.pair (.int .i64) (.pair .bool (.pair (.sl (.int .u8)) (.pair (.pair (.sl (.pair .str (.pair (.int .i64) .unit))) .unit) .unit))))))))), (.pr .sh (.pr .sh (.pr .sh (.pr .sh (.pr .sh (.pr .sh (.pr .sh (.pr (.ow .sh) (.pr (.pr (.ow (.pr .sh (.pr .sh .sh))) .sh) .sh))))))))), F_s_l18Read data⟩, ⟨(.int .i64), .sh, F_s_l18Read_1 data⟩], []⟩
  generalize hg_F_s_l1Sum : F_s_l1Sum = g_F_s_l1Sum
  generalize hg_Q_s_l1Sum : Q_s_l1Sum = g_Q_s_l1Sum
  generalize hg_F_s_l1Pair : F_s_l1Pair = g_F_s_l1Pair
  generalize hg_Q_s_l1Pair : Q_s_l1Pair = g_Q_s_l1Pair
  generalize hg_F_s_l1Copy : F_s_l1Copy = g_F_s_l1Copy
  generalize hg_Q_s_l1Copy : Q_s_l1Copy = g_Q_s_l1Copy
  generalize hg_F_s_SuperFault : F_s_SuperFault = g_F_s_SuperFault
  generalize hg_Q_s_SuperFault : Q_s_SuperFault = g_Q_s_SuperFault
  generalize hg_F_s_l2Read : F_s_l2Read = g_F_s_l2Read
  generalize hg_F_s_l2Read_1 : F_s_l2Read_1 = g_F_s_l2Read_1
  generalize hg_Q_s_l2Read : Q_s_l2Read = g_Q_s_l2Read
  generalize hg_F_s_l18Pack : F_s_l18Pack = g_F_s_l18Pack
  generalize hg_Q_s_l18Pack : Q_s_l18Pack = g_Q_s_l18Pack
  generalize hR0 : F_s_l18Read data = R0
  generalize hR1 : F_s_l18Read_1 data = R1
  generalize Q_s_l18Read data = Q0
  generalize hL : Lg.std = L
  generalize hA : Alg.std = A
  cbv
  subst hL hA
  try dsimp only [Ty.den]
  simp only [Q_s_l18Read] at hq
  have hby := u8s hw.1.2
  have b9 := getD_byte data hby 9
  have e1 := l18_8 data
  have e2 := l18_11 data
  have e3 := l18_r data
  have e4 : (10 + data.getD 9 0).toNat = 10 + (data.getD 9 0).toNat := by omega
  have e5 : (10 + data.getD 9 0 - 10).toNat = (data.getD 9 0).toNat := by omega
  have e6 : (92 - (10 + data.getD 9 0)).toNat = 92 - (10 + (data.getD 9 0).toNat) := by omega
  have e7 : spS data = l2Read ((data.drop (10 + (data.getD 9 0).toNat)).take (92 - (10 + (data.getD 9 0).toNat))) := rfl
  have e8 : spP data = (data.getD 0 0 * 256 + data.getD 1 0, data.getD 2 0, data.getD 3 0, data.getD 4 0, data.getD 5 0, data.getD 6 0 * 256 + data.getD 7 0, decide (data.getD 8 0 = 1), (data.drop 10).take (data.getD 9 0).toNat, (spS data).1, ()) := rfl
  have bs := fun k => getD_byte data hby k
  have hsn := sumOf_nonneg 29 (data.take 92) (by omega)
  subst hR0 hR1 hg_F_s_l1Sum hg_Q_s_l1Sum hg_F_s_l1Pair hg_Q_s_l1Pair hg_F_s_l1Copy hg_Q_s_l1Copy hg_F_s_SuperFault hg_Q_s_SuperFault hg_F_s_l2Read hg_F_s_l2Read_1 hg_Q_s_l2Read hg_F_s_l18Pack hg_Q_s_l18Pack
  simp only [Lg.std, Alg.std, List.drop_zero, List.take_length, F_s_l1Sum, F_s_l1Pair, F_s_l1Copy, F_s_SuperFault, F_s_l2Read, F_s_l18Pack, F_s_l2Read_1, Q_s_l1Sum, Q_s_l1Pair, Q_s_l1Copy, Q_s_SuperFault, Q_s_l2Read, Q_s_l18Pack, F_s_l18Read, F_s_l18Read_1, zSuper, zSig, Int.reduceSub, Int.reduceAdd, Int.reduceToNat, Int.toNat_natCast, Int.reduceLE, Int.reduceLT, Nat.reduceSub, Nat.reduceAdd, Int.toNat_zero, Int.toNat_one, Int.sub_zero, List.drop_zero] at *
  repeat' (first | intro _ | apply And.intro)
  all_goals grind
def con_s_l18Read : Con := ⟨true, g1 (pD (.sl (.int .u8))) fun data => .one ⟨[Q_s_l18Read data], [⟨(.pair (.int .i64) (.pair (.int .i64) (.pair (.int .i64) (.pair (.int .i64) (.pair (.int .i64) (.pair (.int .i64) (.pair .bool (.pair (.sl (.int .u8)) (.pair (.pair (.sl (.pair .str (.pair (.int .i64) .unit))) .unit) .unit))))))))), (.pr .sh (.pr .sh (.pr .sh (.pr .sh (.pr .sh (.pr .sh (.pr .sh (.pr (.ow .sh) (.pr (.pr (.ow (.pr .sh (.pr .sh .sh))) .sh) .sh))))))))), F_s_l18Read data⟩, ⟨(.int .i64), .sh, F_s_l18Read_1 data⟩], []⟩, [], false, 0⟩
theorem ok_s_l18Read : ConOk pg 110 con_s_l18Read := ConOk.g1 (Enters.of (by kernel_rfl)) ct_s_l18Read

def F_i_ReadSuper (data : List (Int)) : (Int) × ((Int) × (Int) × (Int) × (Int) × (Int) × (Int) × (Bool) × (List (Int)) × ((List ((List Int) × (Int) × Unit)) × Unit) × Unit) × Unit := readSuper data
def Q_i_ReadSuper (data : List (Int)) : Prop := data.length ≤ 1048576
def O_i_ReadSuper : Opt := ⟨fun i => (match decide (i = 3) with | true => true | false => false), fun i => (match decide (i = 9) with | true => [true, false, true, true, true, false, false, false, false, false, false, false, false, false, false, false, false, false, false, false, false, false, false, false, false, false, false, false, false, false, false, false, false, false, false, false, false, false, false, false, false, false, false, false, false, false, false, false, false, false, false, false, false, false, false, false, false, false, false, false, false, false, false, false, false, false, false, false, false, false, false, false, false, false, false] | false => (match decide (i = 11) with | true => [true, false, true, true, true, false, false, false, false, false, false, false, false, false, false, false, false, false, false, false, false, false, false, false, false, false, false, false, false, false, false, false, false, false, false, false, false, false, false, false, false, false, false, false, false, false, false, false, false, false, false, false, false, false, false, false, false, false, false, false, false, false, false, false, false, false, false, false, false, false, false, false, false, false, false] | false => (match decide (i = 12) with | true => [true, false, true, true, true, false, false, false, false, false, false, false, false, false, false, false, false, false, false, false, false, false, false, false, false, false, false, false, false, false, false, false, false, false, false, false, false, false, false, false, false, false, false, false, false, false, false, false, false, false, false, false, false, false, false, false, false, false, false, false, false, false, false, false, false, false, false, false, false, false, false, false, false, false, false] | false => (match decide (i = 13) with | true => [true, false, true, true, true, false, false, false, false, false, false, false, false, false, false, false, false, false, false, false, false, false, false, false, false, false, false, false, false, false, false, false, false, false, false, false, false, false, false, false, false, false, false, false, false, false, false, false, false, false, false, false, false, false, false, false, false, false, false, false, false, false, false, false, false, false, false, false, false, false, false, false, false, false, false] | false => [])))), fun i => (match decide (i = 5) with | true => (.take 0 (.take 1 (.take 5 (.take 6 (.alt 2 (.take 3 (.alt 4 (.alt 7 (.take 8 .done) .no) .no)) .no))))) | false => .done), fun i => none, fun i => false, fun i => [], fun i => (match decide (i = 13) with | true => true | false => (match decide (i = 12) with | true => true | false => (match decide (i = 11) with | true => true | false => (match decide (i = 9) with | true => true | false => false)))), fun i => none⟩
def τ_i_ReadSuper : Env := Env.of [(2, (.int .i64)), (3, (.int .i64)), (4, .bool), (5, (.int .u8)), (27, (.sl (.int .u8))), (30, (.pair (.sl (.pair .str (.pair (.int .i64) .unit))) .unit)), (32, (.pair (.int .i64) (.pair (.int .i64) (.pair (.int .i64) (.pair (.int .i64) (.pair (.int .i64) (.pair (.int .i64) (.pair .bool (.pair (.sl (.int .u8)) (.pair (.pair (.sl (.pair .str (.pair (.int .i64) .unit))) .unit) .unit)))))))))), (34, (.pair (.int .i64) (.pair (.pair (.int .i64) (.pair (.int .i64) (.pair (.int .i64) (.pair (.int .i64) (.pair (.int .i64) (.pair (.int .i64) (.pair .bool (.pair (.sl (.int .u8)) (.pair (.pair (.sl (.pair .str (.pair (.int .i64) .unit))) .unit) .unit))))))))) .unit))), (117, (.pair (.sl (.int .u8)) (.pair .bool .unit))), (165, (.pair (.int .i64) (.pair (.int .i64) .unit)))] [(115, (.pair (.sl (.int .u8)) (.pair .bool .unit)))] []

theorem ct_i_ReadSuper (data : List (Int)) : Ct pg 59 [.dat (.sl (.int .u8)) data] ⟨[Q_i_ReadSuper data], [⟨(.pair (.int .i64) (.pair (.pair (.int .i64) (.pair (.int .i64) (.pair (.int .i64) (.pair (.int .i64) (.pair (.int .i64) (.pair (.int .i64) (.pair .bool (.pair (.sl (.int .u8)) (.pair (.pair (.sl (.pair .str (.pair (.int .i64) .unit))) .unit) .unit))))))))) .unit)), (.pr .sh (.pr (.pr .sh (.pr .sh (.pr .sh (.pr .sh (.pr .sh (.pr .sh (.pr .sh (.pr (.ow .sh) (.pr (.pr (.ow (.pr .sh (.pr .sh .sh))) .sh) .sh))))))))) .sh)), F_i_ReadSuper data⟩], []⟩ := by
  refine ct_claim (O := O_i_ReadSuper) (τ := τ_i_ReadSuper) (EnvOk.of (by kernel_rfl) (by kernel_rfl)) (GOk.of (.cons ok_b_Equal (.cons ok_i_SumOf (.cons ok_i_pair (.cons ok_sl_Clone_byte (.cons ok_i_byteReader_take (.cons ok_i_byteReader_one (.cons ok_i_byteReader_pair (.cons ok_i_SuperFault (.cons ok_i_byteReader_signature (.cons ok_i_packedSuper .nil))))))))) : AllOk pg [(72, con_b_Equal), (117, con_i_SumOf), (116, con_i_pair), (119, con_sl_Clone_byte), (120, con_i_byteReader_take), (95, con_i_byteReader_one), (118, con_i_byteReader_pair), (87, con_i_SuperFault), (121, con_i_byteReader_signature), (122, con_i_packedSuper)])) mixed (Enters.of (by kernel_rfl)) (fn := Go.Proofs.Tryz.f59) (by kernel_rfl) rfl (by kernel_rfl) ?_
  intro hp hw
  have hq : Q_i_ReadSuper data := hp _ (List.mem_singleton.2 rfl)
  clear hp
  change claim Lg.std Alg.std τ_i_ReadSuper (Gam.of [(72, ⟨true, g2 (pD (.sl (.int .u8))) (pD (.sl (.int .u8))) fun a b => .one ⟨[Q_b_Equal a b], [⟨.bool, .sh, F_b_Equal a b⟩], []⟩, [], false, 0⟩), (117, ⟨true, g1 (pD (.sl (.int .u8))) fun a => .one ⟨[Q_i_SumOf a], [⟨(.pair (.int .i64) (.pair (.int .i64) .unit)), .sh, F_i_SumOf a⟩], []⟩, [], false, 0⟩), (116, ⟨true, g1 (pD (.int .i64)) fun n => .one ⟨[Q_i_pair n], [⟨(.sl (.int .u8)), (.ow .sh), F_i_pair n⟩], []⟩, [], false, 0⟩), (119, ⟨true, g1 (pD (.sl (.int .u8))) fun s => .one ⟨[Q_sl_Clone_byte s], [⟨(.sl (.int .u8)), (.ow .sh), F_sl_Clone_byte s⟩], []⟩, [], false, 0⟩), (120, ⟨true, g2 (pW (.pair (.sl (.int .u8)) (.pair .bool .unit)) .sh) (pD (.int .i64)) fun r n => .one ⟨[Q_i_byteReader_take r n], [⟨(.sl (.int .u8)), .sh, F_i_byteReader_take r n⟩], [.mp (.pair (.sl (.int .u8)) (.pair .bool .unit)) .sh (B_i_byteReader_take_r r n)]⟩, [.sh], false, 0⟩), (95, ⟨true, g1 (pW (.pair (.sl (.int .u8)) (.pair .bool .unit)) .sh) fun r => .one ⟨[Q_i_byteReader_one r], [⟨(.int .i64), .sh, F_i_byteReader_one r⟩], [.mp (.pair (.sl (.int .u8)) (.pair .bool .unit)) .sh (B_i_byteReader_one_r r)]⟩, [.sh], false, 0⟩), (118, ⟨true, g1 (pW (.pair (.sl (.int .u8)) (.pair .bool .unit)) .sh) fun r => .one ⟨[Q_i_byteReader_pair r], [⟨(.int .i64), .sh, F_i_byteReader_pair r⟩], [.mp (.pair (.sl (.int .u8)) (.pair .bool .unit)) .sh (B_i_byteReader_pair_r r)]⟩, [.sh], false, 0⟩), (87, ⟨true, g1 (pD (.pair (.int .i64) (.pair (.int .i64) (.pair (.int .i64) (.pair (.int .i64) (.pair (.int .i64) (.pair (.int .i64) (.pair .bool (.pair (.sl (.int .u8)) (.pair (.pair (.sl (.pair .str (.pair (.int .i64) .unit))) .unit) .unit)))))))))) fun p => .one ⟨[Q_i_SuperFault p], [⟨(.int .i64), .sh, F_i_SuperFault p⟩], []⟩, [], false, 0⟩), (121, ⟨true, g1 (pW (.pair (.sl (.int .u8)) (.pair .bool .unit)) .sh) fun r => .one ⟨[Q_i_byteReader_signature r], [⟨(.pair (.sl (.pair .str (.pair (.int .i64) .unit))) .unit), (.pr (.ow (.pr .sh (.pr .sh .sh))) .sh), F_i_byteReader_signature r⟩], [.mp (.pair (.sl (.int .u8)) (.pair .bool .unit)) .sh (B_i_byteReader_signature_r r)]⟩, [.sh], false, 0⟩), (122, ⟨true, g1 (pD (.pair (.int .i64) (.pair (.int .i64) (.pair (.int .i64) (.pair (.int .i64) (.pair (.int .i64) (.pair (.int .i64) (.pair .bool (.pair (.sl (.int .u8)) (.pair (.pair (.sl (.pair .str (.pair (.int .i64) .unit))) .unit) .unit)))))))))) fun p => .one ⟨[Q_i_packedSuper p], [⟨(.sl (.int .u8)), (.ow .sh), F_i_packedSuper p⟩], []⟩, [], false, 0⟩)]) O_i_ReadSuper Go.Proofs.Tryz.f59 [.dat (.sl (.int .u8)) data] ⟨[Q_i_ReadSuper data], [⟨(.pair (.int .i64) (.pair (.pair (.int .i64) (.pair (.int .i64) (.pair (.int .i64) (.pair (.int .i64) (.pair (.int .i64) (.pair (.int .i64) (.pair .bool (.pair (.sl (.int .u8)) (.pair (.pair (.sl (.pair .str (.pair (.int .i64) .unit))) .unit) .unit))))))))) .unit)), (.pr .sh (.pr (.pr .sh (.pr .sh (.pr .sh (.pr .sh (.pr .sh (.pr .sh (.pr .sh (.pr (.ow .sh) (.pr (.pr (.ow (.pr .sh (.pr .sh .sh))) .sh) .sh))))))))) .sh)), F_i_ReadSuper data⟩], []⟩
  generalize hg_F_b_Equal : F_b_Equal = g_F_b_Equal
  generalize hg_Q_b_Equal : Q_b_Equal = g_Q_b_Equal
  generalize hg_F_i_SumOf : F_i_SumOf = g_F_i_SumOf
  generalize hg_Q_i_SumOf : Q_i_SumOf = g_Q_i_SumOf
  generalize hg_F_i_pair : F_i_pair = g_F_i_pair
  generalize hg_Q_i_pair : Q_i_pair = g_Q_i_pair
  generalize hg_F_sl_Clone_byte : F_sl_Clone_byte = g_F_sl_Clone_byte
  generalize hg_Q_sl_Clone_byte : Q_sl_Clone_byte = g_Q_sl_Clone_byte
  generalize hg_F_i_byteReader_take : F_i_byteReader_take = g_F_i_byteReader_take
  generalize hg_B_i_byteReader_take_r : B_i_byteReader_take_r = g_B_i_byteReader_take_r
  generalize hg_Q_i_byteReader_take : Q_i_byteReader_take = g_Q_i_byteReader_take
  generalize hg_F_i_byteReader_one : F_i_byteReader_one = g_F_i_byteReader_one
  generalize hg_B_i_byteReader_one_r : B_i_byteReader_one_r = g_B_i_byteReader_one_r
  generalize hg_Q_i_byteReader_one : Q_i_byteReader_one = g_Q_i_byteReader_one
  generalize hg_F_i_byteReader_pair : F_i_byteReader_pair = g_F_i_byteReader_pair
  generalize hg_B_i_byteReader_pair_r : B_i_byteReader_pair_r = g_B_i_byteReader_pair_r
  generalize hg_Q_i_byteReader_pair : Q_i_byteReader_pair = g_Q_i_byteReader_pair
  generalize hg_F_i_SuperFault : F_i_SuperFault = g_F_i_SuperFault
  generalize hg_Q_i_SuperFault : Q_i_SuperFault = g_Q_i_SuperFault
  generalize hg_F_i_byteReader_signature : F_i_byteReader_signature = g_F_i_byteReader_signature
  generalize hg_B_i_byteReader_signature_r : B_i_byteReader_signature_r = g_B_i_byteReader_signature_r
  generalize hg_Q_i_byteReader_signature : Q_i_byteReader_signature = g_Q_i_byteReader_signature
  generalize hg_F_i_packedSuper : F_i_packedSuper = g_F_i_packedSuper
  generalize hg_Q_i_packedSuper : Q_i_packedSuper = g_Q_i_packedSuper
  generalize hR0 : F_i_ReadSuper data = R0
  generalize Q_i_ReadSuper data = Q0
  generalize hL : Lg.std = L
  generalize hA : Alg.std = A
  cbv
  subst hL hA
  try dsimp only [Ty.den]
  simp only [Q_i_ReadSuper] at hq
  have hby := u8s hw.1.2
  have e1 := rdS_1 data
  have e8 := rdS_8 data
  have e11 := rdS_11 data
  have ef := rdS_f data
  have hsn := sumOf_nonneg 29 (data.take 92) (by omega)
  have hl2 := fun (h : data.length = 96) => (by rw [List.length_take]; omega : (data.take 92).length = 92)
  generalize g1 : g_B_i_byteReader_pair_r (data, false, PUnit.unit) = r1 at *
  obtain ⟨x1, f1, ⟨⟩⟩ := r1
  try dsimp only
  generalize g2 : g_B_i_byteReader_one_r (x1, f1, PUnit.unit) = r2 at *
  obtain ⟨x2, f2, ⟨⟩⟩ := r2
  try dsimp only
  generalize g3 : g_B_i_byteReader_one_r (x2, f2, PUnit.unit) = r3 at *
  obtain ⟨x3, f3, ⟨⟩⟩ := r3
  try dsimp only
  generalize g4 : g_B_i_byteReader_one_r (x3, f3, PUnit.unit) = r4 at *
  obtain ⟨x4, f4, ⟨⟩⟩ := r4
  try dsimp only
  generalize g5 : g_B_i_byteReader_one_r (x4, f4, PUnit.unit) = r5 at *
  obtain ⟨x5, f5, ⟨⟩⟩ := r5
  try dsimp only
  repeat' (first | intro _ | apply And.intro)
  all_goals first | trivial | ((fail_if_success (refine lp_v (V := Unit) (fun _ => ⟨[], []⟩) (fun _ => True) (fun _ => 0) () ?_ ?_ ?_)); subst hR0 hg_F_b_Equal hg_Q_b_Equal hg_F_i_SumOf hg_Q_i_SumOf hg_F_i_pair hg_Q_i_pair hg_F_sl_Clone_byte hg_Q_sl_Clone_byte hg_F_i_byteReader_take hg_B_i_byteReader_take_r hg_Q_i_byteReader_take hg_F_i_byteReader_one hg_B_i_byteReader_one_r hg_Q_i_byteReader_one hg_F_i_byteReader_pair hg_B_i_byteReader_pair_r hg_Q_i_byteReader_pair hg_F_i_SuperFault hg_Q_i_SuperFault hg_F_i_byteReader_signature hg_B_i_byteReader_signature_r hg_Q_i_byteReader_signature hg_F_i_packedSuper hg_Q_i_packedSuper; (try simp only [Alg.std, F_b_Equal, F_i_SumOf, F_i_pair, F_sl_Clone_byte, F_i_byteReader_take, F_i_byteReader_one, F_i_byteReader_pair, F_i_SuperFault, F_i_byteReader_signature, F_i_packedSuper, B_i_byteReader_take_r, B_i_byteReader_one_r, B_i_byteReader_pair_r, B_i_byteReader_signature_r, Q_b_Equal, Q_i_SumOf, Q_i_pair, Q_sl_Clone_byte, Q_i_byteReader_take, Q_i_byteReader_one, Q_i_byteReader_pair, Q_i_SuperFault, Q_i_byteReader_signature, Q_i_packedSuper, F_i_ReadSuper] at *); all_goals grind) | skip
  all_goals (
    refine lp_v (V := (List Int) × (Bool) × (Int) × (Int) × (Int) × (Int) × (Int)) (fun ((x, f, g, a, b, e, n) : (List Int) × (Bool) × (Int) × (Int) × (Int) × (Int) × (Int)) => ⟨[.dat (.sl (.int .u8)) data, .junk, .bptr 0 0, .bptr 1 0, .bptr 2 0, .junk, .junk, .junk, .junk, .junk, .junk, .junk, .junk, .junk, .junk, .junk, .junk, .junk, .junk, .junk, .junk, .junk, .junk, .junk, .junk, .junk, .junk, .junk, .junk, .junk, .junk, .junk, .junk, .junk, .junk, .junk, .junk, .junk, .junk, .junk, .junk, .junk, .junk, .junk, .junk, .junk, .junk, .junk, .junk, .junk, .junk, .junk, .junk, .junk, .junk, .junk, .junk, .junk, .junk, .junk, .junk, .junk, .junk, .junk, .junk, .junk, .junk, .junk, .junk, .junk, .junk, .junk, .junk, .junk, .junk], [some (.box [.dat (.int .i64) 0, .dat (.int .i64) 0, .dat (.int .i64) 0, .dat (.int .i64) 0, .dat (.int .i64) 0, .dat (.int .i64) 0, .dat (.int .i64) 0, .dat .bool false, .nilS, .nilS]), some (.box [.dat (.sl (.int .u8)) x, .dat .bool f]), some (.box [.dat (.int .i64) g, .dat (.int .i64) a, .dat (.int .i64) b, .dat (.int .i64) e, .dat (.int .i64) n, .dat (.int .i64) 0, .dat .bool false, .nilS, .nilS])]⟩) (fun ((x, f, g, a, b, e, n) : (List Int) × (Bool) × (Int) × (Int) × (Int) × (Int) × (Int)) => data.length = 96 ∧ frameOk data = 0 ∧ rs5 data = (x, f, ()) ∧ g = rdPair (data, false, ()) ∧ a = rdOne (rs1 data) ∧ b = rdOne (rs2 data) ∧ e = rdOne (rs3 data) ∧ n = rdOne (rs4 data)) (fun ((x, f, g, a, b, e, n) : (List Int) × (Bool) × (Int) × (Int) × (Int) × (Int) × (Int)) => 0) (_, _, _, _, _, _, _) rfl ?_ ?_
    · (subst hR0 hg_F_b_Equal hg_Q_b_Equal hg_F_i_SumOf hg_Q_i_SumOf hg_F_i_pair hg_Q_i_pair hg_F_sl_Clone_byte hg_Q_sl_Clone_byte hg_F_i_byteReader_take hg_B_i_byteReader_take_r hg_Q_i_byteReader_take hg_F_i_byteReader_one hg_B_i_byteReader_one_r hg_Q_i_byteReader_one hg_F_i_byteReader_pair hg_B_i_byteReader_pair_r hg_Q_i_byteReader_pair hg_F_i_SuperFault hg_Q_i_SuperFault hg_F_i_byteReader_signature hg_B_i_byteReader_signature_r hg_Q_i_byteReader_signature hg_F_i_packedSuper hg_Q_i_packedSuper; simp only [Alg.std, F_b_Equal, F_i_SumOf, F_i_pair, F_sl_Clone_byte, F_i_byteReader_take, F_i_byteReader_one, F_i_byteReader_pair, F_i_SuperFault, F_i_byteReader_signature, F_i_packedSuper, B_i_byteReader_take_r, B_i_byteReader_one_r, B_i_byteReader_pair_r, B_i_byteReader_signature_r, Q_b_Equal, Q_i_SumOf, Q_i_pair, Q_sl_Clone_byte, Q_i_byteReader_take, Q_i_byteReader_one, Q_i_byteReader_pair, Q_i_SuperFault, Q_i_byteReader_signature, Q_i_packedSuper, F_i_ReadSuper] at *; have k1 : rs1 data = (x1, f1, ()) := g1; have k2 : rs2 data = (x2, f2, ()) := (by unfold rs2; rw [k1]; exact g2); have k3 : rs3 data = (x3, f3, ()) := (by unfold rs3; rw [k2]; exact g3); have k4 : rs4 data = (x4, f4, ()) := (by unfold rs4; rw [k3]; exact g4); have k5 : rs5 data = (x5, f5, ()) := (by unfold rs5; rw [k4]; exact g5);  grind)
    rintro ⟨x, f, g, a, b, e, n⟩ hf I hI
    replace hf : data.length = 96 ∧ frameOk data = 0 ∧ rs5 data = (x, f, ()) ∧ g = rdPair (data, false, ()) ∧ a = rdOne (rs1 data) ∧ b = rdOne (rs2 data) ∧ e = rdOne (rs3 data) ∧ n = rdOne (rs4 data) := hf
    generalize hL : Lg.std = L
    generalize hA : Alg.std = A
    cbv
    subst hL hA
    try dsimp only [Ty.den]
    subst hI
    generalize g1 : g_B_i_byteReader_pair_r (x, f, PUnit.unit) = r1 at *
    obtain ⟨x1, f1, ⟨⟩⟩ := r1
    try dsimp only
    generalize g2 : g_B_i_byteReader_one_r (x1, f1, PUnit.unit) = r2 at *
    obtain ⟨x2, f2, ⟨⟩⟩ := r2
    try dsimp only
    obtain ⟨h1, h2, h3, h4, h5, h6, h7, h8⟩ := hf
    repeat' (first | intro _ | apply And.intro)
    all_goals first | (with_reducible exact True.intro) | ((fail_if_success (refine lp_v (V := Unit) (fun _ => ⟨[], []⟩) (fun _ => True) (fun _ => 0) () ?_ ?_ ?_)); (try simp only [Lg.std, Alg.std, List.drop_zero, List.take_length] at *); (try refine ⟨(_, _, _, _, _, _, _), rfl, ?_, ?_⟩); (all_goals (subst hR0 hg_F_b_Equal hg_Q_b_Equal hg_F_i_SumOf hg_Q_i_SumOf hg_F_i_pair hg_Q_i_pair hg_F_sl_Clone_byte hg_Q_sl_Clone_byte hg_F_i_byteReader_take hg_B_i_byteReader_take_r hg_Q_i_byteReader_take hg_F_i_byteReader_one hg_B_i_byteReader_one_r hg_Q_i_byteReader_one hg_F_i_byteReader_pair hg_B_i_byteReader_pair_r hg_Q_i_byteReader_pair hg_F_i_SuperFault hg_Q_i_SuperFault hg_F_i_byteReader_signature hg_B_i_byteReader_signature_r hg_Q_i_byteReader_signature hg_F_i_packedSuper hg_Q_i_packedSuper; (try simp only [Lg.std, Alg.std, List.drop_zero, List.take_length, F_b_Equal, F_i_SumOf, F_i_pair, F_sl_Clone_byte, F_i_byteReader_take, F_i_byteReader_one, F_i_byteReader_pair, F_i_SuperFault, F_i_byteReader_signature, F_i_packedSuper, B_i_byteReader_take_r, B_i_byteReader_one_r, B_i_byteReader_pair_r, B_i_byteReader_signature_r, Q_b_Equal, Q_i_SumOf, Q_i_pair, Q_sl_Clone_byte, Q_i_byteReader_take, Q_i_byteReader_one, Q_i_byteReader_pair, Q_i_SuperFault, Q_i_byteReader_signature, Q_i_packedSuper, F_i_ReadSuper] at *); first | done | (grind)))) | skip
    all_goals (
      refine lp_v (V := (List Int) × (Bool) × (Int) × (Int) × (Int) × (Int) × (Int) × (Int) × (Bool)) (fun ((x, f, g, a, b, e, n, v, m) : (List Int) × (Bool) × (Int) × (Int) × (Int) × (Int) × (Int) × (Int) × (Bool)) => ⟨[.dat (.sl (.int .u8)) data, .junk, .bptr 0 0, .bptr 1 0, .bptr 2 0, .junk, .junk, .junk, .junk, .junk, .junk, .junk, .junk, .junk, .junk, .junk, .junk, .junk, .junk, .junk, .junk, .junk, .junk, .junk, .junk, .junk, .junk, .junk, .junk, .junk, .junk, .junk, .junk, .junk, .junk, .junk, .junk, .junk, .junk, .junk, .junk, .junk, .junk, .junk, .junk, .junk, .junk, .junk, .junk, .junk, .junk, .junk, .junk, .junk, .junk, .junk, .junk, .junk, .junk, .junk, .junk, .junk, .junk, .junk, .junk, .junk, .junk, .junk, .junk, .junk, .junk, .junk, .junk, .junk, .junk], [some (.box [.dat (.int .i64) 0, .dat (.int .i64) 0, .dat (.int .i64) 0, .dat (.int .i64) 0, .dat (.int .i64) 0, .dat (.int .i64) 0, .dat (.int .i64) 0, .dat .bool false, .nilS, .nilS]), some (.box [.dat (.sl (.int .u8)) x, .dat .bool f]), some (.box [.dat (.int .i64) g, .dat (.int .i64) a, .dat (.int .i64) b, .dat (.int .i64) e, .dat (.int .i64) n, .dat (.int .i64) v, .dat .bool m, .nilS, .nilS])]⟩) (fun ((x, f, g, a, b, e, n, v, m) : (List Int) × (Bool) × (Int) × (Int) × (Int) × (Int) × (Int) × (Int) × (Bool)) => data.length = 96 ∧ frameOk data = 0 ∧ rs7 data = (x, f, ()) ∧ g = rdPair (data, false, ()) ∧ a = rdOne (rs1 data) ∧ b = rdOne (rs2 data) ∧ e = rdOne (rs3 data) ∧ n = rdOne (rs4 data) ∧ v = rdPair (rs5 data) ∧ m = decide (rdOne (rs6 data) = 1)) (fun ((x, f, g, a, b, e, n, v, m) : (List Int) × (Bool) × (Int) × (Int) × (Int) × (Int) × (Int) × (Int) × (Bool)) => 0) (_, _, _, _, _, _, _, _, _) rfl ?_ ?_
      · (subst hR0 hg_F_b_Equal hg_Q_b_Equal hg_F_i_SumOf hg_Q_i_SumOf hg_F_i_pair hg_Q_i_pair hg_F_sl_Clone_byte hg_Q_sl_Clone_byte hg_F_i_byteReader_take hg_B_i_byteReader_take_r hg_Q_i_byteReader_take hg_F_i_byteReader_one hg_B_i_byteReader_one_r hg_Q_i_byteReader_one hg_F_i_byteReader_pair hg_B_i_byteReader_pair_r hg_Q_i_byteReader_pair hg_F_i_SuperFault hg_Q_i_SuperFault hg_F_i_byteReader_signature hg_B_i_byteReader_signature_r hg_Q_i_byteReader_signature hg_F_i_packedSuper hg_Q_i_packedSuper; simp only [Alg.std, F_b_Equal, F_i_SumOf, F_i_pair, F_sl_Clone_byte, F_i_byteReader_take, F_i_byteReader_one, F_i_byteReader_pair, F_i_SuperFault, F_i_byteReader_signature, F_i_packedSuper, B_i_byteReader_take_r, B_i_byteReader_one_r, B_i_byteReader_pair_r, B_i_byteReader_signature_r, Q_b_Equal, Q_i_SumOf, Q_i_pair, Q_sl_Clone_byte, Q_i_byteReader_take, Q_i_byteReader_one, Q_i_byteReader_pair, Q_i_SuperFault, Q_i_byteReader_signature, Q_i_packedSuper, F_i_ReadSuper] at *; have q1 : rs6 data = rdNext (rs5 data) 2 := rfl; have q2 : rs7 data = rdNext (rs6 data) 1 := rfl;  grind)
      rintro ⟨x, f, g, a, b, e, n, v, m⟩ hf I hI
      replace hf : data.length = 96 ∧ frameOk data = 0 ∧ rs7 data = (x, f, ()) ∧ g = rdPair (data, false, ()) ∧ a = rdOne (rs1 data) ∧ b = rdOne (rs2 data) ∧ e = rdOne (rs3 data) ∧ n = rdOne (rs4 data) ∧ v = rdPair (rs5 data) ∧ m = decide (rdOne (rs6 data) = 1) := hf
      generalize hL : Lg.std = L
      generalize hA : Alg.std = A
      cbv
      subst hL hA
      try dsimp only [Ty.den]
      subst hI
      have by7 := (rs_by data hby).2.2.1
      rw [hf.2.2.1] at by7
      generalize g1 : g_B_i_byteReader_one_r (x, f, PUnit.unit) = r1 at *
      obtain ⟨x1, f1, ⟨⟩⟩ := r1
      try dsimp only
      generalize g2 : g_B_i_byteReader_take_r (x1, f1, PUnit.unit) (g_F_i_byteReader_one (x, f, PUnit.unit)) = r2 at *
      obtain ⟨x2, f2, ⟨⟩⟩ := r2
      try dsimp only
      obtain ⟨h1, h2, h3, h4, h5, h6, h7, h8, h9, h10⟩ := hf
      repeat' (first | intro _ | apply And.intro)
      all_goals first | (with_reducible exact True.intro) | ((fail_if_success (refine lp_v (V := Unit) (fun _ => ⟨[], []⟩) (fun _ => True) (fun _ => 0) () ?_ ?_ ?_)); (try simp only [Lg.std, Alg.std, List.drop_zero, List.take_length] at *); (try refine ⟨(_, _, _, _, _, _, _, _, _), rfl, ?_, ?_⟩); (all_goals (subst hR0 hg_F_b_Equal hg_Q_b_Equal hg_F_i_SumOf hg_Q_i_SumOf hg_F_i_pair hg_Q_i_pair hg_F_sl_Clone_byte hg_Q_sl_Clone_byte hg_F_i_byteReader_take hg_B_i_byteReader_take_r hg_Q_i_byteReader_take hg_F_i_byteReader_one hg_B_i_byteReader_one_r hg_Q_i_byteReader_one hg_F_i_byteReader_pair hg_B_i_byteReader_pair_r hg_Q_i_byteReader_pair hg_F_i_SuperFault hg_Q_i_SuperFault hg_F_i_byteReader_signature hg_B_i_byteReader_signature_r hg_Q_i_byteReader_signature hg_F_i_packedSuper hg_Q_i_packedSuper; (try simp only [Lg.std, Alg.std, List.drop_zero, List.take_length, F_b_Equal, F_i_SumOf, F_i_pair, F_sl_Clone_byte, F_i_byteReader_take, F_i_byteReader_one, F_i_byteReader_pair, F_i_SuperFault, F_i_byteReader_signature, F_i_packedSuper, B_i_byteReader_take_r, B_i_byteReader_one_r, B_i_byteReader_pair_r, B_i_byteReader_signature_r, Q_b_Equal, Q_i_SumOf, Q_i_pair, Q_sl_Clone_byte, Q_i_byteReader_take, Q_i_byteReader_one, Q_i_byteReader_pair, Q_i_SuperFault, Q_i_byteReader_signature, Q_i_packedSuper, F_i_ReadSuper] at *); first | done | (have k7 := rdOne_byte x f by7; have tl := rdTake_len (x1, f1, ()) (rdOne (x, f, ())) k7.1; grind)))) | skip
      all_goals (
        refine lp_v (V := (List Int) × (Bool) × (Int) × (Int) × (Int) × (Int) × (Int) × (Int) × (Bool) × (Nat) × (List Int)) (fun ((x, f, g, a, b, e, n, v, m, N, cur) : (List Int) × (Bool) × (Int) × (Int) × (Int) × (Int) × (Int) × (Int) × (Bool) × (Nat) × (List Int)) => ⟨[.dat (.sl (.int .u8)) data, .junk, .bptr 0 0, .bptr 1 0, .bptr 2 0, .junk, .junk, .junk, .junk, .junk, .junk, .junk, .junk, .junk, .junk, .junk, .junk, .junk, .junk, .junk, .junk, .junk, .junk, .junk, .junk, .junk, .junk, .junk, .junk, .junk, .junk, .junk, .junk, .junk, .junk, .junk, .junk, .junk, .junk, .junk, .junk, .junk, .junk, .junk, .junk, .junk, .junk, .junk, .junk, .junk, .junk, .junk, .junk, .junk, .junk, .junk, .junk, .junk, .junk, .junk, .junk, .junk, .junk, .junk, .junk, .junk, .junk, .junk, .junk, .junk, .junk, .junk, .junk, .junk, .junk], [some (.box [.dat (.int .i64) 0, .dat (.int .i64) 0, .dat (.int .i64) 0, .dat (.int .i64) 0, .dat (.int .i64) 0, .dat (.int .i64) 0, .dat (.int .i64) 0, .dat .bool false, .nilS, .nilS]), some (.box [.dat (.sl (.int .u8)) x, .dat .bool f]), some (.box [.dat (.int .i64) g, .dat (.int .i64) a, .dat (.int .i64) b, .dat (.int .i64) e, .dat (.int .i64) n, .dat (.int .i64) v, .dat .bool m, .ref (.int .u8) 3 0 [] 0 N, .nilS]), some (.row 0 (.int .u8) .sh cur)]⟩) (fun ((x, f, g, a, b, e, n, v, m, N, cur) : (List Int) × (Bool) × (Int) × (Int) × (Int) × (Int) × (Int) × (Int) × (Bool) × (Nat) × (List Int)) => data.length = 96 ∧ frameOk data = 0 ∧ rs9 data = (x, f, ()) ∧ g = rdPair (data, false, ()) ∧ a = rdOne (rs1 data) ∧ b = rdOne (rs2 data) ∧ e = rdOne (rs3 data) ∧ n = rdOne (rs4 data) ∧ v = rdPair (rs5 data) ∧ m = decide (rdOne (rs6 data) = 1) ∧ N = cur.length ∧ cur = rdTake (rs8 data) (rdOne (rs7 data))) (fun ((x, f, g, a, b, e, n, v, m, N, cur) : (List Int) × (Bool) × (Int) × (Int) × (Int) × (Int) × (Int) × (Int) × (Bool) × (Nat) × (List Int)) => 0) (_, _, _, _, _, _, _, _, _, _, _) rfl ?_ ?_
        · (subst hR0 hg_F_b_Equal hg_Q_b_Equal hg_F_i_SumOf hg_Q_i_SumOf hg_F_i_pair hg_Q_i_pair hg_F_sl_Clone_byte hg_Q_sl_Clone_byte hg_F_i_byteReader_take hg_B_i_byteReader_take_r hg_Q_i_byteReader_take hg_F_i_byteReader_one hg_B_i_byteReader_one_r hg_Q_i_byteReader_one hg_F_i_byteReader_pair hg_B_i_byteReader_pair_r hg_Q_i_byteReader_pair hg_F_i_SuperFault hg_Q_i_SuperFault hg_F_i_byteReader_signature hg_B_i_byteReader_signature_r hg_Q_i_byteReader_signature hg_F_i_packedSuper hg_Q_i_packedSuper; simp only [Alg.std, F_b_Equal, F_i_SumOf, F_i_pair, F_sl_Clone_byte, F_i_byteReader_take, F_i_byteReader_one, F_i_byteReader_pair, F_i_SuperFault, F_i_byteReader_signature, F_i_packedSuper, B_i_byteReader_take_r, B_i_byteReader_one_r, B_i_byteReader_pair_r, B_i_byteReader_signature_r, Q_b_Equal, Q_i_SumOf, Q_i_pair, Q_sl_Clone_byte, Q_i_byteReader_take, Q_i_byteReader_one, Q_i_byteReader_pair, Q_i_SuperFault, Q_i_byteReader_signature, Q_i_packedSuper, F_i_ReadSuper] at *; have q1 : rs8 data = rdNext (rs7 data) 1 := rfl; have q2 : rs9 data = rdNext (rs8 data) (rdOne (rs7 data)) := rfl;  grind)
        rintro ⟨x, f, g, a, b, e, n, v, m, N, cur⟩ hf I hI
        replace hf : data.length = 96 ∧ frameOk data = 0 ∧ rs9 data = (x, f, ()) ∧ g = rdPair (data, false, ()) ∧ a = rdOne (rs1 data) ∧ b = rdOne (rs2 data) ∧ e = rdOne (rs3 data) ∧ n = rdOne (rs4 data) ∧ v = rdPair (rs5 data) ∧ m = decide (rdOne (rs6 data) = 1) ∧ N = cur.length ∧ cur = rdTake (rs8 data) (rdOne (rs7 data)) := hf
        generalize hL : Lg.std = L
        generalize hA : Alg.std = A
        cbv
        subst hL hA
        try dsimp only [Ty.den]
        subst hI
        have by9 := (rs_by data hby).2.2.2
        rw [hf.2.2.1] at by9
        generalize g1 : g_B_i_byteReader_signature_r (x, f, PUnit.unit) = r1 at *
        obtain ⟨x1, f1, ⟨⟩⟩ := r1
        try dsimp only
        obtain ⟨h1, h2, h3, h4, h5, h6, h7, h8, h9, h10, h11, h12⟩ := hf
        repeat' (first | intro _ | apply And.intro)
        all_goals first | (with_reducible exact True.intro) | ((fail_if_success (refine lp_v (V := Unit) (fun _ => ⟨[], []⟩) (fun _ => True) (fun _ => 0) () ?_ ?_ ?_)); (try simp only [Lg.std, Alg.std, List.drop_zero, List.take_length] at *); (try refine ⟨(_, _, _, _, _, _, _, _, _, _, _), rfl, ?_, ?_⟩); (all_goals (subst hR0 hg_F_b_Equal hg_Q_b_Equal hg_F_i_SumOf hg_Q_i_SumOf hg_F_i_pair hg_Q_i_pair hg_F_sl_Clone_byte hg_Q_sl_Clone_byte hg_F_i_byteReader_take hg_B_i_byteReader_take_r hg_Q_i_byteReader_take hg_F_i_byteReader_one hg_B_i_byteReader_one_r hg_Q_i_byteReader_one hg_F_i_byteReader_pair hg_B_i_byteReader_pair_r hg_Q_i_byteReader_pair hg_F_i_SuperFault hg_Q_i_SuperFault hg_F_i_byteReader_signature hg_B_i_byteReader_signature_r hg_Q_i_byteReader_signature hg_F_i_packedSuper hg_Q_i_packedSuper; (try simp only [Lg.std, Alg.std, List.drop_zero, List.take_length, F_b_Equal, F_i_SumOf, F_i_pair, F_sl_Clone_byte, F_i_byteReader_take, F_i_byteReader_one, F_i_byteReader_pair, F_i_SuperFault, F_i_byteReader_signature, F_i_packedSuper, B_i_byteReader_take_r, B_i_byteReader_one_r, B_i_byteReader_pair_r, B_i_byteReader_signature_r, Q_b_Equal, Q_i_SumOf, Q_i_pair, Q_sl_Clone_byte, Q_i_byteReader_take, Q_i_byteReader_one, Q_i_byteReader_pair, Q_i_SuperFault, Q_i_byteReader_signature, Q_i_packedSuper, F_i_ReadSuper] at *); first | done | (grind)))) | skip
        all_goals (
          refine lp_v (V := (List Int) × (Bool) × (Int) × (Int) × (Int) × (Int) × (Int) × (Int) × (Bool) × (Nat) × (List Int) × (Nat) × (List ((List Int) × (Int) × Unit))) (fun ((x, f, g, a, b, e, n, v, m, N, cur, M, L) : (List Int) × (Bool) × (Int) × (Int) × (Int) × (Int) × (Int) × (Int) × (Bool) × (Nat) × (List Int) × (Nat) × (List ((List Int) × (Int) × Unit))) => ⟨[.dat (.sl (.int .u8)) data, .junk, .bptr 0 0, .bptr 1 0, .bptr 2 0, .junk, .junk, .junk, .junk, .junk, .junk, .junk, .junk, .junk, .junk, .junk, .junk, .junk, .junk, .junk, .junk, .junk, .junk, .junk, .junk, .junk, .junk, .junk, .junk, .junk, .junk, .junk, .junk, .junk, .junk, .junk, .junk, .junk, .junk, .junk, .junk, .junk, .junk, .junk, .junk, .junk, .junk, .junk, .junk, .junk, .junk, .junk, .junk, .junk, .junk, .junk, .junk, .junk, .junk, .junk, .junk, .junk, .junk, .junk, .junk, .junk, .junk, .junk, .junk, .junk, .junk, .junk, .junk, .junk, .junk], [some (.box [.dat (.int .i64) 0, .dat (.int .i64) 0, .dat (.int .i64) 0, .dat (.int .i64) 0, .dat (.int .i64) 0, .dat (.int .i64) 0, .dat (.int .i64) 0, .dat .bool false, .nilS, .nilS]), some (.box [.dat (.sl (.int .u8)) x, .dat .bool f]), some (.box [.dat (.int .i64) g, .dat (.int .i64) a, .dat (.int .i64) b, .dat (.int .i64) e, .dat (.int .i64) n, .dat (.int .i64) v, .dat .bool m, .ref (.int .u8) 3 0 [] 0 N, .ref (.pair .str (.pair (.int .i64) .unit)) 4 0 [] 0 M]), some (.row 0 (.int .u8) .sh cur), some (.row 0 (.pair .str (.pair (.int .i64) .unit)) (.pr .sh (.pr .sh .sh)) L)]⟩) (fun ((x, f, g, a, b, e, n, v, m, N, cur, M, L) : (List Int) × (Bool) × (Int) × (Int) × (Int) × (Int) × (Int) × (Int) × (Bool) × (Nat) × (List Int) × (Nat) × (List ((List Int) × (Int) × Unit))) => data.length = 96 ∧ frameOk data = 0 ∧ N = cur.length ∧ M = L.length ∧ f = rsF data ∧ rsP data = (g, a, b, e, n, v, m, cur, (L, ()), ())) (fun ((x, f, g, a, b, e, n, v, m, N, cur, M, L) : (List Int) × (Bool) × (Int) × (Int) × (Int) × (Int) × (Int) × (Int) × (Bool) × (Nat) × (List Int) × (Nat) × (List ((List Int) × (Int) × Unit))) => 0) (_, _, _, _, _, _, _, _, _, _, _, _, _) rfl ?_ ?_
          · (subst hR0 hg_F_b_Equal hg_Q_b_Equal hg_F_i_SumOf hg_Q_i_SumOf hg_F_i_pair hg_Q_i_pair hg_F_sl_Clone_byte hg_Q_sl_Clone_byte hg_F_i_byteReader_take hg_B_i_byteReader_take_r hg_Q_i_byteReader_take hg_F_i_byteReader_one hg_B_i_byteReader_one_r hg_Q_i_byteReader_one hg_F_i_byteReader_pair hg_B_i_byteReader_pair_r hg_Q_i_byteReader_pair hg_F_i_SuperFault hg_Q_i_SuperFault hg_F_i_byteReader_signature hg_B_i_byteReader_signature_r hg_Q_i_byteReader_signature hg_F_i_packedSuper hg_Q_i_packedSuper; simp only [Alg.std, F_b_Equal, F_i_SumOf, F_i_pair, F_sl_Clone_byte, F_i_byteReader_take, F_i_byteReader_one, F_i_byteReader_pair, F_i_SuperFault, F_i_byteReader_signature, F_i_packedSuper, B_i_byteReader_take_r, B_i_byteReader_one_r, B_i_byteReader_pair_r, B_i_byteReader_signature_r, Q_b_Equal, Q_i_SumOf, Q_i_pair, Q_sl_Clone_byte, Q_i_byteReader_take, Q_i_byteReader_one, Q_i_byteReader_pair, Q_i_SuperFault, Q_i_byteReader_signature, Q_i_packedSuper, F_i_ReadSuper] at *; have q1 : rsF data = (sigRd (rs9 data)).2.2.1 := rfl; have q2 : rsP data = (rdPair (data, false, ()), rdOne (rs1 data), rdOne (rs2 data), rdOne (rs3 data), rdOne (rs4 data), rdPair (rs5 data), decide (rdOne (rs6 data) = 1), rdTake (rs8 data) (rdOne (rs7 data)), ((sigRd (rs9 data)).1, ()), ()) := rfl;  grind)
          rintro ⟨x, f, g, a, b, e, n, v, m, N, cur, M, L⟩ hf I hI
          replace hf : data.length = 96 ∧ frameOk data = 0 ∧ N = cur.length ∧ M = L.length ∧ f = rsF data ∧ rsP data = (g, a, b, e, n, v, m, cur, (L, ()), ()) := hf
          generalize hL : Lg.std = L
          generalize hA : Alg.std = A
          cbv
          subst hL hA
          try dsimp only [Ty.den]
          subst hI
          have rs := readSuper_same data hf.2.1 hf.1
          have hpl := packSuper_len (g, a, b, e, n, v, m, cur, (L, ()), ())
          obtain ⟨h1, h2, h3, h4, h5, h6⟩ := hf
          repeat' (first | intro _ | apply And.intro)
          all_goals first | (with_reducible exact True.intro) | ((fail_if_success (refine lp_v (V := Unit) (fun _ => ⟨[], []⟩) (fun _ => True) (fun _ => 0) () ?_ ?_ ?_)); (try simp only [Lg.std, Alg.std, List.drop_zero, List.take_length] at *); (try refine ⟨(_, _, _, _, _, _, _, _, _, _, _, _, _), rfl, ?_, ?_⟩); (all_goals (subst hR0 hg_F_b_Equal hg_Q_b_Equal hg_F_i_SumOf hg_Q_i_SumOf hg_F_i_pair hg_Q_i_pair hg_F_sl_Clone_byte hg_Q_sl_Clone_byte hg_F_i_byteReader_take hg_B_i_byteReader_take_r hg_Q_i_byteReader_take hg_F_i_byteReader_one hg_B_i_byteReader_one_r hg_Q_i_byteReader_one hg_F_i_byteReader_pair hg_B_i_byteReader_pair_r hg_Q_i_byteReader_pair hg_F_i_SuperFault hg_Q_i_SuperFault hg_F_i_byteReader_signature hg_B_i_byteReader_signature_r hg_Q_i_byteReader_signature hg_F_i_packedSuper hg_Q_i_packedSuper; (try simp only [Lg.std, Alg.std, List.drop_zero, List.take_length, F_b_Equal, F_i_SumOf, F_i_pair, F_sl_Clone_byte, F_i_byteReader_take, F_i_byteReader_one, F_i_byteReader_pair, F_i_SuperFault, F_i_byteReader_signature, F_i_packedSuper, B_i_byteReader_take_r, B_i_byteReader_one_r, B_i_byteReader_pair_r, B_i_byteReader_signature_r, Q_b_Equal, Q_i_SumOf, Q_i_pair, Q_sl_Clone_byte, Q_i_byteReader_take, Q_i_byteReader_one, Q_i_byteReader_pair, Q_i_SuperFault, Q_i_byteReader_signature, Q_i_packedSuper, F_i_ReadSuper] at *); first | done | (simp only [h5, h6] at rs; grind)))) | skip))))
def con_i_ReadSuper : Con := ⟨true, g1 (pD (.sl (.int .u8))) fun data => .one ⟨[Q_i_ReadSuper data], [⟨(.pair (.int .i64) (.pair (.pair (.int .i64) (.pair (.int .i64) (.pair (.int .i64) (.pair (.int .i64) (.pair (.int .i64) (.pair (.int .i64) (.pair .bool (.pair (.sl (.int .u8)) (.pair (.pair (.sl (.pair .str (.pair (.int .i64) .unit))) .unit) .unit))))))))) .unit)), (.pr .sh (.pr (.pr .sh (.pr .sh (.pr .sh (.pr .sh (.pr .sh (.pr .sh (.pr .sh (.pr (.ow .sh) (.pr (.pr (.ow (.pr .sh (.pr .sh .sh))) .sh) .sh))))))))) .sh)), F_i_ReadSuper data⟩], []⟩, [], false, 0⟩
theorem ok_i_ReadSuper : ConOk pg 59 con_i_ReadSuper := ConOk.g1 (Enters.of (by kernel_rfl)) ct_i_ReadSuper
end Go.Vee
