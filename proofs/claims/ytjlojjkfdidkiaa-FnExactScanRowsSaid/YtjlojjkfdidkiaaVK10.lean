/-
  Contracts of functions of the program: what each returns for all arguments that its precondition lets in.
-/
import Derived.Test.YtjlojjkfdidkiaaVK9
set_option linter.unusedSimpArgs false
set_option linter.unusedVariables false
set_option maxRecDepth 100000
set_option maxHeartbeats 4000000
set_option synthInstance.maxHeartbeats 4000000
set_option synthInstance.maxSize 20000000
namespace Go.Vee
open Go
abbrev RdT := List Int × Bool × Unit
def rdBad (r : RdT) (n : Int) : Bool := r.2.1 || decide (n > r.1.length)
def rdTake (r : RdT) (n : Int) : List Int := if rdBad r n = true then List.replicate n.toNat 0 else r.1.take n.toNat
def rdNext (r : RdT) (n : Int) : RdT := if rdBad r n = true then (r.1, true, ()) else (r.1.drop n.toNat, false, ())
def rdOne (r : RdT) : Int := (rdTake r 1).getD 0 0
def rdPair (r : RdT) : Int := (rdTake r 2).getD 0 0 * 256 + (rdTake r 2).getD 1 0
theorem rdTake_len (r : RdT) (n : Int) (h : 0 ≤ n) : (rdTake r n).length = n.toNat := by
  unfold rdTake rdBad
  split
  · simp
  · rename_i h1
    simp only [Bool.or_eq_true, decide_eq_true_eq, not_or] at h1
    simp; omega
theorem rdTake_at (r : RdT) (n : Int) (j : Nat) (h : ∀ x ∈ r.1, 0 ≤ x ∧ x ≤ 255) : 0 ≤ (rdTake r n).getD j 0 ∧ (rdTake r n).getD j 0 ≤ 255 := by
  have key : ∀ l : List Int, (∀ x ∈ l, 0 ≤ x ∧ x ≤ 255) → 0 ≤ l.getD j 0 ∧ l.getD j 0 ≤ 255 := fun l hl => by
    rw [List.getD_eq_getElem?_getD]
    cases hj : l[j]? with
    | none => simp
    | some x => simpa using hl x (List.mem_of_getElem? hj)
  unfold rdTake
  split
  · exact key _ (fun x hx => by have := List.eq_of_mem_replicate hx; omega)
  · exact key _ (fun x hx => h x (List.mem_of_mem_take hx))
theorem or_pair (x y : Int) (hx : 0 ≤ x ∧ x ≤ 255) (hy : 0 ≤ y ∧ y ≤ 255) : bitStd .or .i64 (IntKind.wrap .i64 (x * 2 ^ (min (8 : Int).toNat IntKind.i64.bits))) y = x * 256 + y := by
  obtain ⟨a, rfl⟩ := Int.eq_ofNat_of_zero_le hx.1
  obtain ⟨b, rfl⟩ := Int.eq_ofNat_of_zero_le hy.1
  have ha : a < 256 := by omega
  have hb : b < 256 := by omega
  have h1 : (2 : Int) ^ (min (8 : Int).toNat IntKind.i64.bits) = 256 := by decide
  have h2 : IntKind.wrap .i64 ((a : Int) * 256) = (a * 256 : Nat) := by rw [i64_wrap (by omega)]; omega
  rw [h1, h2]
  unfold bitStd
  simp only
  have h3 : (BitVec.ofInt IntKind.i64.bits ((a * 256 : Nat) : Int) ||| BitVec.ofInt IntKind.i64.bits (b : Int)).toNat = a * 256 + b := by
    have e1 : (BitVec.ofInt IntKind.i64.bits ((a * 256 : Nat) : Int)) = BitVec.ofNat IntKind.i64.bits (a * 256) := by rfl
    have e2 : (BitVec.ofInt IntKind.i64.bits (b : Int)) = BitVec.ofNat IntKind.i64.bits b := by rfl
    have e3 : (2 : Nat) ^ IntKind.i64.bits = 18446744073709551616 := by decide
    rw [e1, e2, BitVec.toNat_or, BitVec.toNat_ofNat, BitVec.toNat_ofNat, e3, Nat.mod_eq_of_lt (by omega), Nat.mod_eq_of_lt (by omega)]
    have := Nat.shiftLeft_add_eq_or_of_lt (b := b) (i := 8) (by omega) a
    rw [Nat.shiftLeft_eq, show (2 : Nat) ^ 8 = 256 by decide] at this
    omega
  rw [h3, i64_wrap (by omega)]
  omega
abbrev NodeT := Bool × List (List Int) × List Int × List Int × Unit
abbrev zNode : NodeT := (false, [], [], [], ())
/-- Keys, and values, read one after another. -/
def parseA (leaf : Bool) : Nat → List Int → List (List Int) → List Int → Option (List (List Int) × List Int × List Int)
  | 0, xs, ks, vs => some (ks, vs, xs)
  | n + 1, xs, ks, vs =>
    if xs.length < 1 then none else if xs.getD 0 0 > (xs.drop 1).length then none
    else if leaf = true then (if 2 > ((xs.drop 1).drop (xs.getD 0 0).toNat).length then none
      else parseA leaf n (((xs.drop 1).drop (xs.getD 0 0).toNat).drop 2) (ks ++ [(xs.drop 1).take (xs.getD 0 0).toNat]) (vs ++ [((xs.drop 1).drop (xs.getD 0 0).toNat).getD 0 0 * 256 + ((xs.drop 1).drop (xs.getD 0 0).toNat).getD 1 0]))
    else parseA leaf n ((xs.drop 1).drop (xs.getD 0 0).toNat) (ks ++ [(xs.drop 1).take (xs.getD 0 0).toNat]) vs
def mkNode (leaf : Bool) (ks : List (List Int)) (vs r : List Int) : NodeT := (leaf, ks, vs, r, ())
def parseNode (leaf : Bool) (body : List Int) : Option NodeT :=
  if body.length < 1 then none else
  match parseA leaf (body.getD 0 0).toNat (body.drop 1) [] [] with
  | none => none
  | some (ks, vs, r) => if leaf = true then (if r.length = 0 then some (mkNode leaf ks vs []) else none) else some (mkNode leaf ks vs r)
def readNode (kind : Int) (body : List Int) : Int × NodeT × Unit :=
  if kind ≠ 1 ∧ kind ≠ 2 then (3, zNode, ()) else
  match parseNode (decide (kind = 1)) body with
  | none => (5, zNode, ())
  | some n => if nodeFault n = 0 then (0, n, ()) else (5, zNode, ())
theorem pair_back (a b : Int) (ha : 0 ≤ a ∧ a ≤ 255) (hb : 0 ≤ b ∧ b ≤ 255) : pairOf (a * 256 + b) = [a, b] := by
  have h1 : (a * 256 + b) / 256 % 256 = a := by omega
  have h2 : (a * 256 + b) % 256 = b := by omega
  simp [pairOf, h1, h2]
theorem getD_byte (l : List Int) (h : ∀ x ∈ l, 0 ≤ x ∧ x ≤ 255) (j : Nat) : 0 ≤ l.getD j 0 ∧ l.getD j 0 ≤ 255 := by
  rw [List.getD_eq_getElem?_getD]
  cases hj : l[j]? with
  | none => simp
  | some x => simpa using h x (List.mem_of_getElem? hj)
theorem two_of (l : List Int) (h : ¬ 2 > l.length) : l = l.getD 0 0 :: l.getD 1 0 :: l.drop 2 := by
  match l with
  | [] => simp at h
  | [_] => simp at h
  | a :: b :: l => simp
/-- What was read is what is packed. -/
theorem pack_parse (leaf : Bool) : ∀ (n : Nat) (xs : List Int) (ks0 : List (List Int)) (vs0 : List Int) (ks : List (List Int)) (vs r : List Int), (∀ x ∈ xs, 0 ≤ x ∧ x ≤ 255) → parseA leaf n xs ks0 vs0 = some (ks, vs, r) →
    ∃ ks1 vs1, ks = ks0 ++ ks1 ∧ vs = vs0 ++ vs1 ∧ packKeys leaf ks1 vs1 ++ r = xs ∧ ks1.length = n ∧ (leaf = true → vs1.length = n) ∧ (leaf = false → vs1 = []) ∧ (∀ x ∈ r, 0 ≤ x ∧ x ≤ 255)
  | 0, xs, ks0, vs0, ks, vs, r, hb, h => by
    simp only [parseA, Option.some.injEq, Prod.mk.injEq] at h
    obtain ⟨rfl, rfl, rfl⟩ := h
    exact ⟨[], [], by simp, by simp, by simp [packKeys], rfl, fun _ => rfl, fun _ => rfl, hb⟩
  | n + 1, xs, ks0, vs0, ks, vs, r, hb, h => by
    unfold parseA at h
    split at h
    · cases h
    rename_i h1
    split at h
    · cases h
    rename_i h2
    have hx : xs = xs.getD 0 0 :: xs.drop 1 := by
      cases xs with
      | nil => simp at h1
      | cons x l => simp
    have hk := getD_byte xs hb 0
    have hb1 : ∀ x ∈ xs.drop 1, 0 ≤ x ∧ x ≤ 255 := fun x hx => hb x (List.mem_of_mem_drop hx)
    have hb2 : ∀ x ∈ (xs.drop 1).drop (xs.getD 0 0).toNat, 0 ≤ x ∧ x ≤ 255 := fun x hx => hb1 x (List.mem_of_mem_drop hx)
    generalize hxs1 : xs.drop 1 = xs1 at *
    generalize hkk : xs.getD 0 0 = k at *
    have hlen : ((xs1.take k.toNat).length : Int) % 256 = k := by
      rw [List.length_take]; omega
    split at h
    · rename_i hleaf
      subst hleaf
      split at h
      · cases h
      rename_i h3
      obtain ⟨ks1, vs1, e1, e2, e3, e4, e5, e6, e7⟩ := pack_parse true n _ _ _ ks vs r (fun x hx => hb2 x (List.mem_of_mem_drop hx)) h
      have h4 := two_of _ h3
      have ha := getD_byte _ hb2 0
      have hc := getD_byte _ hb2 1
      generalize hxs2 : xs1.drop k.toNat = xs2 at *
      refine ⟨xs1.take k.toNat :: ks1, (xs2.getD 0 0 * 256 + xs2.getD 1 0) :: vs1, by simp [e1], by simp [e2], ?_, by simp [e4], fun _ => by simp [e5], fun hh => (by cases hh), e7⟩
      simp only [packKeys, if_true, List.getD_cons_zero, List.drop_succ_cons, List.drop_zero, List.cons_append, List.append_assoc, hlen, e3]
      rw [pair_back _ _ ha hc]
      have h5 : [xs2.getD 0 0, xs2.getD 1 0] ++ xs2.drop 2 = xs2 := by rw [List.cons_append, List.cons_append, List.nil_append]; exact h4.symm
      rw [h5, ← hxs2, List.take_append_drop, hx]
    · rename_i hleaf
      have hleaf : leaf = false := by simpa using hleaf
      subst hleaf
      obtain ⟨ks1, vs1, e1, e2, e3, e4, e5, e6, e7⟩ := pack_parse false n _ _ _ ks vs r hb2 h
      have e6 := e6 rfl
      subst e6
      refine ⟨xs1.take k.toNat :: ks1, [], by simp [e1], by simp [e2], ?_, by simp [e4], fun hh => (by cases hh), fun _ => rfl, e7⟩
      simp only [packKeys, Bool.false_eq_true, if_false, List.drop_nil, List.cons_append, List.append_assoc, hlen, List.nil_append, e3]
      rw [List.take_append_drop, hx]
theorem map_byte (l : List Int) (h : ∀ x ∈ l, 0 ≤ x ∧ x ≤ 255) : packKids l = l := by
  unfold packKids
  induction l with
  | nil => rfl
  | cons x l ih =>
    have := h x (by simp)
    rw [List.map_cons, ih (fun y hy => h y (by simp [hy])), show x % 256 = x by omega]
theorem nodeFault_kids (ks : List (List Int)) (vs r : List Int) (h : r.length ≠ ks.length + 1) : nodeFault (mkNode false ks vs r) ≠ 0 := by
  unfold nodeFault mkNode
  dsimp only
  split
  · omega
  split
  · omega
  split
  · omega
  simp only [Bool.false_eq_true, if_false]
  rw [if_pos (by omega)]
  omega
theorem nodeFault_many (leaf : Bool) (ks : List (List Int)) (vs r : List Int) (h : ks.length > 4) : nodeFault (mkNode leaf ks vs r) ≠ 0 := by
  unfold nodeFault mkNode
  dsimp only
  rw [if_pos (by omega)]
  omega
/-- A body's parts, and the body. -/
theorem parse_body (leaf : Bool) (body : List Int) (ks : List (List Int)) (vs r : List Int) (hb : ∀ x ∈ body, 0 ≤ x ∧ x ≤ 255) (h1 : ¬ body.length < 1) (h : parseA leaf (body.getD 0 0).toNat (body.drop 1) [] [] = some (ks, vs, r)) :
    packNode (mkNode leaf ks vs r) = body ∧ ks.length = (body.getD 0 0).toNat ∧ (leaf = true → vs.length = ks.length) ∧ (leaf = false → vs = []) := by
  obtain ⟨ks1, vs1, e1, e2, e3, e4, e5, e6, e7⟩ := pack_parse leaf _ _ _ _ ks vs r (fun x hx => hb x (List.mem_of_mem_drop hx)) h
  simp only [List.nil_append] at e1 e2
  subst e1
  subst e2
  have hk := getD_byte body hb 0
  refine ⟨?_, e4, fun hl => by rw [e5 hl, e4], e6⟩
  simp only [packNode, mkNode, map_byte r e7, e4, e3]
  have hx : body = body.getD 0 0 :: body.drop 1 := by
    cases body with
    | nil => simp at h1
    | cons x l => simp
  have : (((body.getD 0 0).toNat : Nat) : Int) % 256 = body.getD 0 0 := by omega
  rw [this, ← hx]
theorem parseA_len (leaf : Bool) : ∀ (n : Nat) (xs : List Int) (ks0 : List (List Int)) (vs0 : List Int) (ks : List (List Int)) (vs r : List Int), parseA leaf n xs ks0 vs0 = some (ks, vs, r) → ks.length = ks0.length + n ∧ r.length ≤ xs.length
  | 0, xs, ks0, vs0, ks, vs, r, h => by
    simp only [parseA, Option.some.injEq, Prod.mk.injEq] at h
    obtain ⟨rfl, rfl, rfl⟩ := h
    exact ⟨rfl, Nat.le_refl _⟩
  | n + 1, xs, ks0, vs0, ks, vs, r, h => by
    unfold parseA at h
    split at h
    · cases h
    split at h
    · cases h
    split at h
    · split at h
      · cases h
      have := parseA_len leaf n _ _ _ ks vs r h
      simp at this ⊢
      omega
    · have := parseA_len leaf n _ _ _ ks vs r h
      simp at this ⊢
      omega
theorem parseA_step (leaf : Bool) (n : Nat) (xs : List Int) (ks : List (List Int)) (vs : List Int) (h : 0 < n) : parseA leaf n xs ks vs =
    if xs.length < 1 then none else if xs.getD 0 0 > (xs.drop 1).length then none
    else if leaf = true then (if 2 > ((xs.drop 1).drop (xs.getD 0 0).toNat).length then none
      else parseA leaf (n - 1) (((xs.drop 1).drop (xs.getD 0 0).toNat).drop 2) (ks ++ [(xs.drop 1).take (xs.getD 0 0).toNat]) (vs ++ [((xs.drop 1).drop (xs.getD 0 0).toNat).getD 0 0 * 256 + ((xs.drop 1).drop (xs.getD 0 0).toNat).getD 1 0]))
    else parseA leaf (n - 1) ((xs.drop 1).drop (xs.getD 0 0).toNat) (ks ++ [(xs.drop 1).take (xs.getD 0 0).toNat]) vs := by
  cases n with
  | zero => omega
  | succ n => rfl
theorem parseA_zero (leaf : Bool) (xs : List Int) (ks : List (List Int)) (vs : List Int) : parseA leaf 0 xs ks vs = some (ks, vs, xs) := rfl
theorem rdNext_cases (xs : List Int) (fl : Bool) (n : Int) (x1 : List Int) (f1 : Bool) (h : rdNext (xs, fl, ()) n = (x1, f1, ())) : (fl = true ∨ n > xs.length) ∧ x1 = xs ∧ f1 = true ∨ fl = false ∧ n ≤ xs.length ∧ x1 = xs.drop n.toNat ∧ f1 = false := by
  unfold rdNext rdBad at h
  split at h
  · rename_i hc
    simp only [Prod.mk.injEq] at h
    obtain ⟨rfl, rfl, _⟩ := h
    left
    simpa [Bool.or_eq_true] using hc
  · rename_i hc
    simp only [Prod.mk.injEq] at h
    obtain ⟨rfl, rfl, _⟩ := h
    right
    simp only [Bool.or_eq_true, decide_eq_true_eq, not_or, Bool.not_eq_true] at hc
    exact ⟨hc.1, by omega, rfl, rfl⟩
theorem rdTake_good (xs : List Int) (n : Int) (h : n ≤ xs.length) : rdTake (xs, false, ()) n = xs.take n.toNat := by
  unfold rdTake rdBad
  rw [if_neg (by simp; omega)]
theorem rdOne_good (xs : List Int) (h : 1 ≤ (xs.length : Int)) : rdOne (xs, false, ()) = xs.getD 0 0 := by
  unfold rdOne
  rw [rdTake_good xs 1 h]
  cases xs <;> simp
theorem rdPair_good (xs : List Int) (h : 2 ≤ (xs.length : Int)) : rdPair (xs, false, ()) = xs.getD 0 0 * 256 + xs.getD 1 0 := by
  unfold rdPair
  rw [rdTake_good xs 2 h]
  match xs, h with
  | a :: b :: l, _ => simp
  | [a], h => simp at h
  | [], h => simp at h
theorem rdOne_byte (xs : List Int) (fl : Bool) (h : ∀ x ∈ xs, 0 ≤ x ∧ x ≤ 255) : 0 ≤ rdOne (xs, fl, ()) ∧ rdOne (xs, fl, ()) ≤ 255 := rdTake_at _ 1 0 h
theorem byte_drop (l : List Int) (n : Nat) (h : ∀ x ∈ l, 0 ≤ x ∧ x ≤ 255) : ∀ x ∈ l.drop n, 0 ≤ x ∧ x ≤ 255 := fun x hx => h x (List.mem_of_mem_drop hx)
theorem readNode_good (kind : Int) (body : List Int) (ks : List (List Int)) (vs xr : List Int) (hk : kind = 1 ∨ kind = 2) (hb : ¬ body.length < 1) (hp : parseA (decide (kind = 1)) (body.getD 0 0).toNat (body.drop 1) [] [] = some (ks, vs, xr)) :
    readNode kind body = if kind = 1 then (if xr.length = 0 then (if nodeFault (true, ks, vs, [], ()) = 0 then (0, (true, ks, vs, [], ()), ()) else (5, zNode, ())) else (5, zNode, ())) else
      if nodeFault (false, ks, vs, xr, ()) = 0 then (0, (false, ks, vs, xr, ()), ()) else (5, zNode, ()) := by
  unfold readNode parseNode
  rw [if_neg (by omega), if_neg hb, hp]
  rcases hk with rfl | rfl
  · by_cases hx : xr.length = 0 <;> simp [hx, mkNode]
  · simp [mkNode]
theorem readNode_none (kind : Int) (body : List Int) (hk : kind = 1 ∨ kind = 2) (hp : body.length < 1 ∨ parseA (decide (kind = 1)) (body.getD 0 0).toNat (body.drop 1) [] [] = none) : readNode kind body = (5, zNode, ()) := by
  unfold readNode parseNode
  rw [if_neg (by omega)]
  rcases hp with hp | hp
  · rw [if_pos hp]
  · rw [hp]; split <;> simp_all
theorem readNode_bad (kind : Int) (body : List Int) (hk : ¬ (kind = 1 ∨ kind = 2)) : readNode kind body = (3, zNode, ()) := by
  unfold readNode
  rw [if_pos (by omega)]
theorem readNode_short (kind : Int) (body : List Int) (ks : List (List Int)) (vs xr : List Int) (hk : kind = 2) (hby : ∀ x ∈ body, 0 ≤ x ∧ x ≤ 255) (hb : ¬ body.length < 1) (hp : parseA (decide (kind = 1)) (body.getD 0 0).toNat (body.drop 1) [] [] = some (ks, vs, xr)) (hl : (xr.length : Int) ≠ body.getD 0 0 + 1) :
    readNode kind body = (5, zNode, ()) := by
  have h0 := getD_byte body hby 0
  have := nodeFault_kids ks vs xr (by have := (parseA_len _ _ _ _ _ _ _ _ hp).1; rw [List.length_nil] at this; omega)
  rw [readNode_good kind body ks vs xr (.inr hk) hb hp, if_neg (by omega)]
  rw [if_neg (by simpa [mkNode] using this)]
theorem parse_pack (kind : Int) (body : List Int) (ks : List (List Int)) (vs xr : List Int) (hby : ∀ x ∈ body, 0 ≤ x ∧ x ≤ 255) (hb : ¬ body.length < 1) (hp : parseA (decide (kind = 1)) (body.getD 0 0).toNat (body.drop 1) [] [] = some (ks, vs, xr)) : packNode (decide (kind = 1), ks, vs, xr, ()) = body :=
  (parse_body _ body ks vs xr hby hb hp).1
theorem rn_round (leaf : Bool) (n : Nat) (x : List Int) (f : Bool) (ks : List (List Int)) (vs x1 : List Int) (f1 : Bool) (x2 : List Int) (f2 : Bool) (x3 : List Int) (f3 : Bool) (hb : ∀ y ∈ x, 0 ≤ y ∧ y ≤ 255) (hf : f = false) (hn : 0 < n)
    (g1 : rdNext (x, f, ()) 1 = (x1, f1, ())) (g2 : rdNext (x1, f1, ()) (rdOne (x, f, ())) = (x2, f2, ())) (g3 : rdNext (x2, f2, ()) 2 = (x3, f3, ())) :
    (∀ y ∈ x2, 0 ≤ y ∧ y ≤ 255) ∧ (∀ y ∈ x3, 0 ≤ y ∧ y ≤ 255) ∧
    (leaf = false → (f2 = true → parseA leaf n x ks vs = none) ∧ (f2 = false → parseA leaf n x ks vs = parseA leaf (n - 1) x2 (ks ++ [rdTake (x1, f1, ()) (rdOne (x, f, ()))]) vs)) ∧
    (leaf = true → (f3 = true → parseA leaf n x ks vs = none) ∧ (f3 = false → parseA leaf n x ks vs = parseA leaf (n - 1) x3 (ks ++ [rdTake (x1, f1, ()) (rdOne (x, f, ()))]) (vs ++ [rdPair (x2, f2, ())]))) := by
  subst hf
  have st := parseA_step leaf n x ks vs hn
  have ho := rdOne_byte x false hb
  rcases rdNext_cases _ _ _ _ _ g1 with ⟨h1, rfl, rfl⟩ | ⟨_, h1, rfl, rfl⟩
  · have h1 : x1.length < 1 := by have := h1.resolve_left (by simp); omega
    rcases rdNext_cases _ _ _ _ _ g2 with ⟨h2, rfl, rfl⟩ | ⟨hh, _⟩
    · rcases rdNext_cases _ _ _ _ _ g3 with ⟨h3, rfl, rfl⟩ | ⟨hh, _⟩
      · rw [if_pos h1] at st
        exact ⟨hb, hb, fun _ => ⟨fun _ => st, fun h => (by cases h)⟩, fun _ => ⟨fun _ => st, fun h => (by cases h)⟩⟩
      · cases hh
    · cases hh
  · have h1' : ¬ x.length < 1 := by omega
    rw [if_neg h1'] at st
    have e1 := rdOne_good x h1
    rw [e1] at g2 ho ⊢
    have ht : (1 : Int).toNat = 1 := rfl
    rw [ht] at g2 ⊢
    rcases rdNext_cases _ _ _ _ _ g2 with ⟨h2, rfl, rfl⟩ | ⟨_, h2, rfl, rfl⟩
    · have h2 : x.getD 0 0 > (x.drop 1).length := h2.resolve_left (by simp)
      rw [if_pos h2] at st
      rcases rdNext_cases _ _ _ _ _ g3 with ⟨h3, rfl, rfl⟩ | ⟨hh, _⟩
      · exact ⟨byte_drop _ _ hb, byte_drop _ _ hb, fun _ => ⟨fun _ => st, fun h => (by cases h)⟩, fun _ => ⟨fun _ => st, fun h => (by cases h)⟩⟩
      · cases hh
    · have h2' : ¬ x.getD 0 0 > (x.drop 1).length := by omega
      rw [if_neg h2'] at st
      have e2 := rdTake_good (x.drop 1) (x.getD 0 0) h2
      rw [e2]
      have hb2 := byte_drop (x.drop 1) (x.getD 0 0).toNat (byte_drop _ 1 hb)
      rcases rdNext_cases _ _ _ _ _ g3 with ⟨h3, rfl, rfl⟩ | ⟨_, h3, rfl, rfl⟩
      · refine ⟨hb2, hb2, fun hl => ⟨fun h => (by cases h), fun _ => ?_⟩, fun hl => ⟨fun _ => ?_, fun h => (by cases h)⟩⟩
        · rw [if_neg (by simp [hl])] at st; exact st
        · have h3 : 2 > ((x.drop 1).drop (x.getD 0 0).toNat).length := by have := h3.resolve_left (by simp); omega
          rw [if_pos hl, if_pos h3] at st; exact st
      · refine ⟨hb2, byte_drop _ _ hb2, fun hl => ⟨fun h => (by cases h), fun _ => ?_⟩, fun hl => ⟨fun h => (by cases h), fun _ => ?_⟩⟩
        · rw [if_neg (by simp [hl])] at st; exact st
        · have h3' : ¬ 2 > ((x.drop 1).drop (x.getD 0 0).toNat).length := by omega
          rw [if_pos hl, if_neg h3'] at st
          rw [rdPair_good _ h3]
          exact st
theorem kid_round (xr x kd : List Int) (f : Bool) (j : Int) (x1 : List Int) (f1 : Bool) (hf : f = false) (h0 : 0 ≤ j) (hk : kd = xr.take j.toNat) (hx : x = xr.drop j.toNat) (hj : j ≤ xr.length) (g1 : rdNext (x, f, ()) 1 = (x1, f1, ())) :
    (f1 = true → (xr.length : Int) = j) ∧ (f1 = false → kd ++ [rdOne (x, f, ())] = xr.take (j + 1).toNat ∧ x1 = xr.drop (j + 1).toNat ∧ j + 1 ≤ xr.length) := by
  subst hf
  have hs : (j + 1).toNat = j.toNat + 1 := by omega
  rcases rdNext_cases _ _ _ _ _ g1 with ⟨h1, rfl, rfl⟩ | ⟨_, h1, rfl, rfl⟩
  · refine ⟨fun _ => ?_, fun h => (by cases h)⟩
    have h1 : (x1.length : Int) < 1 := by have := h1.resolve_left (by simp); omega
    rw [hx, List.length_drop] at h1
    omega
  · refine ⟨fun h => (by cases h), fun _ => ?_⟩
    have hlt : j.toNat < xr.length := by rw [hx, List.length_drop] at h1; omega
    rw [rdOne_good x h1, hs, hx, hk]
    refine ⟨?_, ?_, by omega⟩
    · rw [List.take_add_one, List.getElem?_eq_getElem hlt]
      simp [List.getD_eq_getElem?_getD, hlt]
    · rw [List.drop_drop]; rfl
theorem rn_end (kind : Int) (body : List Int) (ks : List (List Int)) (vs xr x kd : List Int) (f lf : Bool) (j m : Int) (hk : kind = 1 ∨ kind = 2) (hby : ∀ x ∈ body, 0 ≤ x ∧ x ≤ 255) (hlf : lf = decide (kind = 1)) (hf : f = true → readNode kind body = (5, zNode, ()))
    (hg : f = false → ¬ body.length < 1 ∧ m = body.getD 0 0 + 1 ∧ parseA (decide (kind = 1)) (body.getD 0 0).toNat (body.drop 1) [] [] = some (ks, vs, xr) ∧ (lf = true → x = xr ∧ kd = []) ∧ (lf = false → kd = xr.take j.toNat ∧ x = xr.drop j.toNat ∧ j ≤ xr.length))
    (hend : lf = true ∨ f = true ∨ m ≤ j) (hj : j ≤ m) (h0 : 0 ≤ j) :
    (f = true ∨ x.length ≠ 0 → readNode kind body = (5, zNode, ())) ∧ (f = false → x.length = 0 → nodeFault (lf, ks, vs, kd, ()) ≠ 0 → readNode kind body = (5, zNode, ())) ∧
    (f = false → x.length = 0 → nodeFault (lf, ks, vs, kd, ()) = 0 → packNode (lf, ks, vs, kd, ()) = body ∧ readNode kind body = (0, (lf, ks, vs, kd, ()), ())) := by
  cases f with
  | true => exact ⟨fun _ => hf rfl, fun h => (by cases h), fun h => (by cases h)⟩
  | false =>
    obtain ⟨g1, g2, g3, g4, g5⟩ := hg rfl
    have hgood := readNode_good kind body ks vs xr hk g1 g3
    have hpack := parse_pack kind body ks vs xr hby g1 g3
    rcases hk with rfl | rfl
    · have hl : lf = true := by simp [hlf]
      subst hl
      obtain ⟨rfl, rfl⟩ := g4 rfl
      rw [if_pos rfl] at hgood
      by_cases hx : x.length = 0
      · have hx0 : x = [] := List.eq_nil_of_length_eq_zero hx
        subst hx0
        rw [if_pos (show ([] : List Int).length = 0 from rfl)] at hgood
        refine ⟨fun h => by simp at h, fun _ _ h => by rw [if_neg h] at hgood; exact hgood, fun _ _ h => by rw [if_pos h] at hgood; exact ⟨hpack, hgood⟩⟩
      · rw [if_neg hx] at hgood
        exact ⟨fun _ => hgood, fun _ h => absurd h hx, fun _ h => absurd h hx⟩
    · have hl : lf = false := by simp [hlf]
      subst hl
      obtain ⟨rfl, rfl, g6⟩ := g5 rfl
      rw [if_neg (by omega)] at hgood
      have hjm : j = m := by simp at hend; omega
      by_cases hx : (xr.drop j.toNat).length = 0
      · have hle : (xr.length : Int) = m := by rw [List.length_drop] at hx; omega
        have htk : xr.take j.toNat = xr := List.take_of_length_le (by omega)
        rw [htk]
        refine ⟨fun h => absurd hx (h.resolve_left (by simp)), fun _ _ h => by rw [if_neg h] at hgood; exact hgood, fun _ _ h => by rw [if_pos h] at hgood; exact ⟨by simpa using hpack, hgood⟩⟩
      · have := readNode_short 2 body ks vs xr rfl hby g1 g3 (by rw [List.length_drop] at hx; omega)
        exact ⟨fun _ => this, fun _ h => absurd h hx, fun _ h => absurd h hx⟩
def xrOf (kind : Int) (body : List Int) : List Int := match parseA (decide (kind = 1)) (body.getD 0 0).toNat (body.drop 1) [] [] with | some (_, _, r) => r | none => []
theorem xrOf_eq (kind : Int) (body : List Int) (ks : List (List Int)) (vs x : List Int) (h : parseA (decide (kind = 1)) (body.getD 0 0).toNat (body.drop 1) [] [] = some (ks, vs, x)) : xrOf kind body = x := by
  unfold xrOf; rw [h]
def parse15 (leaf : Bool) (body : List Int) : NodeT × Bool :=
  if body.length < 1 ∨ body.getD 0 0 > 4 then (zNode, false) else
  match parseA leaf (body.getD 0 0).toNat (body.drop 1) [] [] with
  | none => (zNode, false)
  | some (ks, vs, r) => (mkNode leaf ks vs (if leaf = true then [] else r.take 5), decide ((if leaf = true then r else r.drop 5).length = 0) && decide (nodeFault (mkNode leaf ks vs (if leaf = true then [] else r.take 5)) = 0))
theorem p15_none (leaf : Bool) (body : List Int) (h : body.length < 1 ∨ body.getD 0 0 > 4 ∨ parseA leaf (body.getD 0 0).toNat (body.drop 1) [] [] = none) : parse15 leaf body = (zNode, false) := by
  unfold parse15
  split
  · rfl
  · rcases h with h | h | h
    · omega
    · omega
    · rw [h]
theorem p15_some (leaf : Bool) (body : List Int) (ks : List (List Int)) (vs r : List Int) (h1 : ¬ (body.length < 1 ∨ body.getD 0 0 > 4)) (h : parseA leaf (body.getD 0 0).toNat (body.drop 1) [] [] = some (ks, vs, r)) :
    parse15 leaf body = ((leaf, ks, vs, (if leaf = true then [] else r.take 5), ()), decide ((if leaf = true then r else r.drop 5).length = 0) && decide (nodeFault (leaf, ks, vs, (if leaf = true then [] else r.take 5), ()) = 0)) := by
  unfold parse15
  rw [if_neg h1, h]
  rfl
theorem readNode_15 (kind : Int) (body : List Int) (hb : ∀ x ∈ body, 0 ≤ x ∧ x ≤ 255) : readNode kind body = if kind ≠ 1 ∧ kind ≠ 2 then (3, zNode, ()) else if (parse15 (decide (kind = 1)) body).2 = true then (0, (parse15 (decide (kind = 1)) body).1, ()) else (5, zNode, ()) := by
  by_cases hk : kind = 1 ∨ kind = 2
  · rw [if_neg (by omega)]
    by_cases h1 : body.length < 1
    · rw [p15_none _ _ (.inl h1), readNode_none kind body hk (.inl h1)]; simp
    · have h0 := getD_byte body hb 0
      cases hp : parseA (decide (kind = 1)) (body.getD 0 0).toNat (body.drop 1) [] [] with
      | none => rw [p15_none _ _ (.inr (.inr hp)), readNode_none kind body hk (.inr hp)]; simp
      | some q =>
        obtain ⟨ks, vs, r⟩ := q
        have hl := (parseA_len _ _ _ _ _ _ _ _ hp).1
        rw [List.length_nil, Nat.zero_add] at hl
        have hg := readNode_good kind body ks vs r hk h1 hp
        by_cases h4 : body.getD 0 0 > 4
        · rw [p15_none _ _ (.inr (.inl h4))]
          have hm := fun leaf vs r => nodeFault_many leaf ks vs r (by omega)
          simp only [mkNode] at hm
          have h6 : readNode kind body = (5, zNode, ()) := by
            rw [hg]
            split
            · split
              · exact if_neg (hm _ _ _)
              · rfl
            · exact if_neg (hm _ _ _)
          rw [h6]; simp
        · have hs := p15_some _ body ks vs r (by omega) hp
          rw [hs, hg]
          rcases hk with rfl | rfl
          · by_cases hx : r.length = 0
            · by_cases hf : nodeFault (true, ks, vs, [], ()) = 0 <;> simp [hx, hf]
            · simp [hx]
          · by_cases h5 : r.length ≤ 5
            · have e1 : r.take 5 = r := List.take_of_length_le h5
              have e2 : r.length - 5 = 0 := by omega
              by_cases hf : nodeFault (false, ks, vs, r, ()) = 0 <;> simp [e1, e2, hf]
            · have e2 : ¬ r.length - 5 = 0 := by omega
              have := nodeFault_kids ks vs r (by omega)
              simp only [mkNode] at this
              simp [e2, this]
  · rw [if_pos (by omega), readNode_bad kind body hk]
theorem sp_round (leaf : Bool) (n : Nat) (body : List Int) (k more : Int) (ks : List (List Int)) (vs : List Int) (hb : ∀ x ∈ body, 0 ≤ x ∧ x ≤ 255) (hn : 0 < n) (h1 : 1 ≤ k) (hm : more = if leaf = true then 2 else 0) :
    (k ≥ body.length → parseA leaf n (body.drop k.toNat) ks vs = none) ∧
    (k < body.length → k + 1 + body.getD k.toNat 0 + more > body.length → parseA leaf n (body.drop k.toNat) ks vs = none) ∧
    (k < body.length → k + 1 + body.getD k.toNat 0 + more ≤ body.length → leaf = true → parseA leaf n (body.drop k.toNat) ks vs =
      parseA leaf (n - 1) (body.drop (k + 1 + body.getD k.toNat 0 + more).toNat) (ks ++ [List.take ((k + 1 + body.getD k.toNat 0).toNat - (k + 1).toNat) (body.drop (k + 1).toNat)]) (vs ++ [body.getD (k + 1 + body.getD k.toNat 0).toNat 0 * 256 + body.getD (k + 1 + body.getD k.toNat 0 + 1).toNat 0])) ∧
    (k < body.length → k + 1 + body.getD k.toNat 0 + more ≤ body.length → leaf = false → parseA leaf n (body.drop k.toNat) ks vs =
      parseA leaf (n - 1) (body.drop (k + 1 + body.getD k.toNat 0 + more).toNat) (ks ++ [List.take ((k + 1 + body.getD k.toNat 0).toNat - (k + 1).toNat) (body.drop (k + 1).toNat)]) vs) := by
  have st := parseA_step leaf n (body.drop k.toNat) ks vs hn
  have h0 := getD_byte body hb k.toNat
  have e0 : (body.drop k.toNat).getD 0 0 = body.getD k.toNat 0 := by simp [List.getD_eq_getElem?_getD]
  rw [e0] at st
  have e1 : (body.drop k.toNat).drop 1 = body.drop (k + 1).toNat := by rw [List.drop_drop]; congr 1; omega
  rw [e1] at st
  have e2 : (body.drop (k + 1).toNat).drop (body.getD k.toNat 0).toNat = body.drop (k + 1 + body.getD k.toNat 0).toNat := by rw [List.drop_drop]; congr 1; omega
  rw [e2] at st
  have e3 : (body.drop (k + 1 + body.getD k.toNat 0).toNat).getD 0 0 = body.getD (k + 1 + body.getD k.toNat 0).toNat 0 := by simp [List.getD_eq_getElem?_getD]
  have e4 : (body.drop (k + 1 + body.getD k.toNat 0).toNat).getD 1 0 = body.getD (k + 1 + body.getD k.toNat 0 + 1).toNat 0 := by
    have : (k + 1 + body.getD k.toNat 0 + 1).toNat = (k + 1 + body.getD k.toNat 0).toNat + 1 := by omega
    rw [this]
    simp [List.getD_eq_getElem?_getD]
  rw [e3, e4] at st
  have e5 : (k + 1 + body.getD k.toNat 0).toNat - (k + 1).toNat = (body.getD k.toNat 0).toNat := by omega
  rw [e5]
  refine ⟨fun h => ?_, fun h g => ?_, fun h g hl => ?_, fun h g hl => ?_⟩
  · rw [st, if_pos (by rw [List.length_drop]; omega)]
  · rw [st, if_neg (by rw [List.length_drop]; omega)]
    by_cases h6 : body.getD k.toNat 0 > (body.drop (k + 1).toNat).length
    · rw [if_pos h6]
    · rw [if_neg h6]
      rw [List.length_drop] at h6
      cases leaf with
      | true => rw [if_pos rfl, if_pos (by rw [List.length_drop]; simp at hm; omega)]
      | false => simp at hm; omega
  · subst hl
    have hm : more = 2 := by simpa using hm
    subst hm
    rw [st, if_neg (by rw [List.length_drop]; omega), if_neg (by rw [List.length_drop]; omega), if_pos rfl, if_neg (by rw [List.length_drop]; omega), List.drop_drop]
    congr 2
    omega
  · subst hl
    have hm : more = 0 := by simpa using hm
    subst hm
    rw [st, if_neg (by rw [List.length_drop]; omega), if_neg (by rw [List.length_drop]; omega), if_neg (by simp), Int.add_zero]
def rest15 (leaf : Bool) (body : List Int) : List Int := match parseA leaf (body.getD 0 0).toNat (body.drop 1) [] [] with | some (_, _, r) => r | none => []
theorem rest15_eq (leaf : Bool) (body : List Int) (ks : List (List Int)) (vs x : List Int) (h : parseA leaf (body.getD 0 0).toNat (body.drop 1) [] [] = some (ks, vs, x)) : rest15 leaf body = x := by
  unfold rest15; rw [h]
theorem p15_leaf (body : List Int) (ks : List (List Int)) (vs : List Int) (k : Int) (h1 : ¬ (body.length < 1 ∨ body.getD 0 0 > 4)) (hk : 0 ≤ k ∧ k ≤ body.length) (h : parseA true (body.getD 0 0).toNat (body.drop 1) [] [] = some (ks, vs, body.drop k.toNat)) :
    parse15 true body = ((true, ks, vs, [], ()), decide (k = body.length) && decide (nodeFault (true, ks, vs, [], ()) = 0)) := by
  have : decide (List.length (body.drop k.toNat) = 0) = decide (k = body.length) := by
    rw [Bool.eq_iff_iff]; simp; omega
  rw [p15_some _ _ _ _ _ h1 h]
  simp only [if_true, this]
theorem kid15 (r : List Int) (body kd : List Int) (k : Int) (h0 : 0 ≤ k) (h1 : kd = r.take kd.length) (h2 : body.drop k.toNat = r.drop kd.length) (hk : k < body.length) : kd ++ [body.getD k.toNat 0] = r.take (kd.length + 1) ∧ body.drop (k + 1).toNat = r.drop (kd.length + 1) := by
  have hl : kd.length < r.length := by
    have := congrArg List.length h2
    simp at this
    omega
  have hs : (k + 1).toNat = k.toNat + 1 := by omega
  constructor
  · have e : body.getD k.toNat 0 = r.getD kd.length 0 := by
      have := congrArg (fun l => l.getD 0 0) h2
      simpa [List.getD_eq_getElem?_getD] using this
    have e2 : r.take (kd.length + 1) = r.take kd.length ++ [r.getD kd.length 0] := by
      rw [List.take_add_one, List.getElem?_eq_getElem hl]; simp [List.getD_eq_getElem?_getD, hl]
    rw [e2, e, ← h1]
  · rw [hs, ← List.drop_drop, h2, List.drop_drop]
theorem p15_inner (body : List Int) (ks : List (List Int)) (vs kd : List Int) (k : Int) (h1 : ¬ (body.length < 1 ∨ body.getD 0 0 > 4)) (hk : 0 ≤ k ∧ k ≤ body.length) (h : parseA false (body.getD 0 0).toNat (body.drop 1) [] [] = some (ks, vs, rest15 false body)) (hkd : kd.length ≤ 5)
    (g1 : kd = (rest15 false body).take kd.length) (g2 : body.drop k.toNat = (rest15 false body).drop kd.length) (hend : k ≥ body.length ∨ kd.length > 4) :
    parse15 false body = ((false, ks, vs, kd, ()), decide (k = body.length) && decide (nodeFault (false, ks, vs, kd, ()) = 0)) := by
  rw [p15_some _ _ _ _ _ h1 h]
  generalize rest15 false body = r at *
  have hlen := congrArg List.length g2
  have hlen1 := congrArg List.length g1
  simp only [List.length_drop, List.length_take] at hlen hlen1
  have e1 : r.take 5 = kd := by
    by_cases h5 : kd.length = 5
    · rw [h5] at g1; exact g1.symm
    · have : r.length = kd.length := by omega
      rw [List.take_of_length_le (by omega)]
      rw [← this, List.take_length] at g1
      exact g1.symm
  have e2 : decide ((r.drop 5).length = 0) = decide (k = body.length) := by
    rw [Bool.eq_iff_iff]; simp; omega
  simp only [Bool.false_eq_true, if_false, e1, e2]

def F_i_byteReader_take (r : (List (Int)) × (Bool) × Unit) (n : Int) : List (Int) := rdTake r n
def B_i_byteReader_take_r (r : (List (Int)) × (Bool) × Unit) (n : Int) : (List (Int)) × (Bool) × Unit := rdNext r n
def Q_i_byteReader_take (r : (List (Int)) × (Bool) × Unit) (n : Int) : Prop := 0 ≤ n ∧ n ≤ 1048576
def O_i_byteReader_take : Opt := ⟨fun i => false, fun i => [], fun i => .done, fun i => none, fun i => false, fun i => [], fun i => false, fun i => none, fun i => none⟩
def τ_i_byteReader_take : Env := Env.of [(3, (.int .i64)), (4, .bool), (34, (.sl (.int .u8))), (177, (.pair (.sl (.int .u8)) (.pair .bool .unit)))] [(175, (.pair (.sl (.int .u8)) (.pair .bool .unit)))] []

theorem ct_i_byteReader_take (r : (List (Int)) × (Bool) × Unit) (n : Int) : Ct pg 145 [.mp (.pair (.sl (.int .u8)) (.pair .bool .unit)) .sh r, .dat (.int .i64) n] ⟨[Q_i_byteReader_take r n], [⟨(.sl (.int .u8)), .sh, F_i_byteReader_take r n⟩], [.mp (.pair (.sl (.int .u8)) (.pair .bool .unit)) .sh (B_i_byteReader_take_r r n)]⟩ := by
  refine ct_claim (O := O_i_byteReader_take) (τ := τ_i_byteReader_take) (EnvOk.of (by kernel_rfl) (by kernel_rfl)) (GOk.of (.nil : AllOk pg [])) mixed (Enters.of (by kernel_rfl)) (fn := Go.Proofs.Try.f145) (by kernel_rfl) rfl (by kernel_rfl) ?_
  intro hp hw
  have hq : Q_i_byteReader_take r n := hp _ (List.mem_singleton.2 rfl)
  clear hp
  change claim Lg.std Alg.std τ_i_byteReader_take (Gam.of []) O_i_byteReader_take Go.Proofs.Try.f145 [.mp (.pair (.sl (.int .u8)) (.pair .bool .unit)) .sh r, .dat (.int .i64) n] ⟨[Q_i_byteReader_take r n], [⟨(.sl (.int .u8)), .sh, F_i_byteReader_take r n⟩], [.mp (.pair (.sl (.int .u8)) (.pair .bool .unit)) .sh (B_i_byteReader_take_r r n)]⟩
  generalize hR0 : F_i_byteReader_take r n = R0
  generalize hB_r : B_i_byteReader_take_r r n = B_r
  generalize Q_i_byteReader_take r n = Q0
  generalize hL : Lg.std = L
  generalize hA : Alg.std = A
  cbv
  subst hL hA
  try dsimp only [Ty.den]
  obtain ⟨r_0, r_1, ⟨⟩⟩ := r
  simp only [Q_i_byteReader_take] at hq
  have hl : r_0.length ≤ 9223372036854775807 := hw.1.1.1
  subst hR0 hB_r
  simp only [Lg.std, Alg.std, List.drop_zero, List.take_length, take_rest, F_i_byteReader_take, B_i_byteReader_take_r, rdTake, rdNext, rdBad]
  repeat' (first | intro _ | apply And.intro)
  all_goals grind
def con_i_byteReader_take : Con := ⟨true, g2 (pW (.pair (.sl (.int .u8)) (.pair .bool .unit)) .sh) (pD (.int .i64)) fun r n => .one ⟨[Q_i_byteReader_take r n], [⟨(.sl (.int .u8)), .sh, F_i_byteReader_take r n⟩], [.mp (.pair (.sl (.int .u8)) (.pair .bool .unit)) .sh (B_i_byteReader_take_r r n)]⟩, [.sh], false, 0⟩
theorem ok_i_byteReader_take : ConOk pg 145 con_i_byteReader_take := ConOk.g2 (Enters.of (by kernel_rfl)) ct_i_byteReader_take

def F_i_byteReader_one (r : (List (Int)) × (Bool) × Unit) : Int := rdOne r
def B_i_byteReader_one_r (r : (List (Int)) × (Bool) × Unit) : (List (Int)) × (Bool) × Unit := rdNext r 1
def Q_i_byteReader_one (r : (List (Int)) × (Bool) × Unit) : Prop := True
def O_i_byteReader_one : Opt := ⟨fun i => false, fun i => [], fun i => .done, fun i => none, fun i => false, fun i => [], fun i => false, fun i => none, fun i => none⟩
def τ_i_byteReader_one : Env := Env.of [(2, (.int .i64)), (3, (.int .i64)), (5, (.int .u8)), (34, (.sl (.int .u8)))] [(175, (.pair (.sl (.int .u8)) (.pair .bool .unit)))] []

theorem ct_i_byteReader_one (r : (List (Int)) × (Bool) × Unit) : Ct pg 144 [.mp (.pair (.sl (.int .u8)) (.pair .bool .unit)) .sh r] ⟨[Q_i_byteReader_one r], [⟨(.int .i64), .sh, F_i_byteReader_one r⟩], [.mp (.pair (.sl (.int .u8)) (.pair .bool .unit)) .sh (B_i_byteReader_one_r r)]⟩ := by
  refine ct_claim (O := O_i_byteReader_one) (τ := τ_i_byteReader_one) (EnvOk.of (by kernel_rfl) (by kernel_rfl)) (GOk.of (.cons ok_i_byteReader_take .nil : AllOk pg [(145, con_i_byteReader_take)])) mixed (Enters.of (by kernel_rfl)) (fn := Go.Proofs.Try.f144) (by kernel_rfl) rfl (by kernel_rfl) ?_
  intro hp hw
  have hq : Q_i_byteReader_one r := hp _ (List.mem_singleton.2 rfl)
  clear hp
  change claim Lg.std Alg.std τ_i_byteReader_one (Gam.of [(145, con_i_byteReader_take)]) O_i_byteReader_one Go.Proofs.Try.f144 [.mp (.pair (.sl (.int .u8)) (.pair .bool .unit)) .sh r] ⟨[Q_i_byteReader_one r], [⟨(.int .i64), .sh, F_i_byteReader_one r⟩], [.mp (.pair (.sl (.int .u8)) (.pair .bool .unit)) .sh (B_i_byteReader_one_r r)]⟩
  delta con_i_byteReader_take
  generalize hg_F_i_byteReader_take : F_i_byteReader_take = g_F_i_byteReader_take
  generalize hg_B_i_byteReader_take_r : B_i_byteReader_take_r = g_B_i_byteReader_take_r
  generalize hg_Q_i_byteReader_take : Q_i_byteReader_take = g_Q_i_byteReader_take
  generalize hR0 : F_i_byteReader_one r = R0
  generalize hB_r : B_i_byteReader_one_r r = B_r
  generalize Q_i_byteReader_one r = Q0
  generalize hL : Lg.std = L
  generalize hA : Alg.std = A
  cbv
  subst hL hA
  try dsimp only [Ty.den]
  have hl := rdTake_len r 1 (by omega)
  have ha := rdTake_at r 1 0 (u8s hw.1.1.2)
  subst hR0 hB_r hg_F_i_byteReader_take hg_B_i_byteReader_take_r hg_Q_i_byteReader_take
  simp only [Lg.std, Alg.std, List.drop_zero, List.take_length, F_i_byteReader_take, B_i_byteReader_take_r, Q_i_byteReader_take, F_i_byteReader_one, B_i_byteReader_one_r, rdOne]
  repeat' (first | intro _ | apply And.intro)
  all_goals grind
def con_i_byteReader_one : Con := ⟨true, g1 (pW (.pair (.sl (.int .u8)) (.pair .bool .unit)) .sh) fun r => .one ⟨[Q_i_byteReader_one r], [⟨(.int .i64), .sh, F_i_byteReader_one r⟩], [.mp (.pair (.sl (.int .u8)) (.pair .bool .unit)) .sh (B_i_byteReader_one_r r)]⟩, [.sh], false, 0⟩
theorem ok_i_byteReader_one : ConOk pg 144 con_i_byteReader_one := ConOk.g1 (Enters.of (by kernel_rfl)) ct_i_byteReader_one

def F_i_byteReader_pair (r : (List (Int)) × (Bool) × Unit) : Int := rdPair r
def B_i_byteReader_pair_r (r : (List (Int)) × (Bool) × Unit) : (List (Int)) × (Bool) × Unit := rdNext r 2
def Q_i_byteReader_pair (r : (List (Int)) × (Bool) × Unit) : Prop := True
def O_i_byteReader_pair : Opt := ⟨fun i => (match decide (i = 2) with | true => true | false => false), fun i => [], fun i => .done, fun i => none, fun i => false, fun i => [], fun i => false, fun i => none, fun i => none⟩
def τ_i_byteReader_pair : Env := Env.of [(2, (.int .i64)), (3, (.int .i64)), (5, (.int .u8)), (34, (.sl (.int .u8))), (146, (.int .u64))] [(175, (.pair (.sl (.int .u8)) (.pair .bool .unit)))] []

theorem ct_i_byteReader_pair (r : (List (Int)) × (Bool) × Unit) : Ct pg 146 [.mp (.pair (.sl (.int .u8)) (.pair .bool .unit)) .sh r] ⟨[Q_i_byteReader_pair r], [⟨(.int .i64), .sh, F_i_byteReader_pair r⟩], [.mp (.pair (.sl (.int .u8)) (.pair .bool .unit)) .sh (B_i_byteReader_pair_r r)]⟩ := by
  refine ct_claim (O := O_i_byteReader_pair) (τ := τ_i_byteReader_pair) (EnvOk.of (by kernel_rfl) (by kernel_rfl)) (GOk.of (.cons ok_i_byteReader_take .nil : AllOk pg [(145, con_i_byteReader_take)])) mixed (Enters.of (by kernel_rfl)) (fn := Go.Proofs.Try.f146) (by kernel_rfl) rfl (by kernel_rfl) ?_
  intro hp hw
  have hq : Q_i_byteReader_pair r := hp _ (List.mem_singleton.2 rfl)
  clear hp
  change claim Lg.std Alg.std τ_i_byteReader_pair (Gam.of [(145, con_i_byteReader_take)]) O_i_byteReader_pair Go.Proofs.Try.f146 [.mp (.pair (.sl (.int .u8)) (.pair .bool .unit)) .sh r] ⟨[Q_i_byteReader_pair r], [⟨(.int .i64), .sh, F_i_byteReader_pair r⟩], [.mp (.pair (.sl (.int .u8)) (.pair .bool .unit)) .sh (B_i_byteReader_pair_r r)]⟩
  delta con_i_byteReader_take
  generalize hg_F_i_byteReader_take : F_i_byteReader_take = g_F_i_byteReader_take
  generalize hg_B_i_byteReader_take_r : B_i_byteReader_take_r = g_B_i_byteReader_take_r
  generalize hg_Q_i_byteReader_take : Q_i_byteReader_take = g_Q_i_byteReader_take
  generalize hR0 : F_i_byteReader_pair r = R0
  generalize hB_r : B_i_byteReader_pair_r r = B_r
  generalize Q_i_byteReader_pair r = Q0
  generalize hL : Lg.std = L
  generalize hA : Alg.std = A
  cbv
  subst hL hA
  try dsimp only [Ty.den]
  have hl := rdTake_len r 2 (by omega)
  have ha := rdTake_at r 2 0 (u8s hw.1.1.2)
  have hb := rdTake_at r 2 1 (u8s hw.1.1.2)
  have hp := or_pair _ _ ha hb
  subst hR0 hB_r hg_F_i_byteReader_take hg_B_i_byteReader_take_r hg_Q_i_byteReader_take
  simp only [Lg.std, Alg.std, List.drop_zero, List.take_length, F_i_byteReader_take, B_i_byteReader_take_r, Q_i_byteReader_take, F_i_byteReader_pair, B_i_byteReader_pair_r, rdPair] at *
  repeat' (first | intro _ | apply And.intro)
  all_goals first | trivial | omega | (simp only [Int.toNat_ofNat, Nat.reduceAdd] at *; first | omega | exact hp | (rw [hp])) | grind
def con_i_byteReader_pair : Con := ⟨true, g1 (pW (.pair (.sl (.int .u8)) (.pair .bool .unit)) .sh) fun r => .one ⟨[Q_i_byteReader_pair r], [⟨(.int .i64), .sh, F_i_byteReader_pair r⟩], [.mp (.pair (.sl (.int .u8)) (.pair .bool .unit)) .sh (B_i_byteReader_pair_r r)]⟩, [.sh], false, 0⟩
theorem ok_i_byteReader_pair : ConOk pg 146 con_i_byteReader_pair := ConOk.g1 (Enters.of (by kernel_rfl)) ct_i_byteReader_pair

def F_i_byteReader_ended (r : (List (Int)) × (Bool) × Unit) : Bool := (!r.2.1 && decide (r.1.length = 0))
def Q_i_byteReader_ended (r : (List (Int)) × (Bool) × Unit) : Prop := True
def O_i_byteReader_ended : Opt := ⟨fun i => false, fun i => [], fun i => .done, fun i => none, fun i => false, fun i => [], fun i => false, fun i => none, fun i => none⟩
def τ_i_byteReader_ended : Env := Env.of [(2, (.int .i64)), (3, (.int .i64)), (4, .bool), (34, (.sl (.int .u8))), (177, (.pair (.sl (.int .u8)) (.pair .bool .unit)))] [(175, (.pair (.sl (.int .u8)) (.pair .bool .unit)))] []

theorem ct_i_byteReader_ended (r : (List (Int)) × (Bool) × Unit) : Ct pg 147 [.dptr (.pair (.sl (.int .u8)) (.pair .bool .unit)) r] ⟨[Q_i_byteReader_ended r], [⟨.bool, .sh, F_i_byteReader_ended r⟩], []⟩ := by
  refine ct_claim (O := O_i_byteReader_ended) (τ := τ_i_byteReader_ended) (EnvOk.of (by kernel_rfl) (by kernel_rfl)) (GOk.of (.nil : AllOk pg [])) mixed (Enters.of (by kernel_rfl)) (fn := Go.Proofs.Try.f147) (by kernel_rfl) rfl (by kernel_rfl) ?_
  intro hp hw
  have hq : Q_i_byteReader_ended r := hp _ (List.mem_singleton.2 rfl)
  clear hp
  change claim Lg.std Alg.std τ_i_byteReader_ended (Gam.of []) O_i_byteReader_ended Go.Proofs.Try.f147 [.dptr (.pair (.sl (.int .u8)) (.pair .bool .unit)) r] ⟨[Q_i_byteReader_ended r], [⟨.bool, .sh, F_i_byteReader_ended r⟩], []⟩
  generalize hR0 : F_i_byteReader_ended r = R0
  generalize Q_i_byteReader_ended r = Q0
  generalize hL : Lg.std = L
  generalize hA : Alg.std = A
  cbv
  subst hL hA
  try dsimp only [Ty.den]
  obtain ⟨r_0, r_1, ⟨⟩⟩ := r
  subst hR0
  simp only [Q_i_byteReader_ended] at hq
  simp only [Lg.std, Alg.std, List.drop_zero, List.take_length, F_i_byteReader_ended]
  all_goals grind
def con_i_byteReader_ended : Con := ⟨true, g1 (pP (.pair (.sl (.int .u8)) (.pair .bool .unit))) fun r => .one ⟨[Q_i_byteReader_ended r], [⟨.bool, .sh, F_i_byteReader_ended r⟩], []⟩, [], false, 0⟩
theorem ok_i_byteReader_ended : ConOk pg 147 con_i_byteReader_ended := ConOk.g1 (Enters.of (by kernel_rfl)) ct_i_byteReader_ended

def F_i_ReadNode (kind : Int) (body : List (Int)) : (Int) × ((Bool) × (List (List (Int))) × (List (Int)) × (List (Int)) × Unit) × Unit := readNode kind body
def Q_i_ReadNode (kind : Int) (body : List (Int)) : Prop := True
def O_i_ReadNode : Opt := ⟨fun i => false, fun i => (match decide (i = 14) with | true => [false, true, false, false, true, true, true, false, false, false, false, false, false, false, false, false, false, false, false, false, false, false, false, false, false, false, false, false, false, false, false, false, false, false, false, false, false, false, false, false, false, false, false, false, false, false, false, false, false, false, false, true, true, false, false, false, false, false, false, false, false, false, false, false, false, false, false, false, false, false, false, false, false, false, false, false, false, false, false, false, false, false, false, false, false, false, false, false] | false => (match decide (i = 7) with | true => [false, true, false, false, true, true, true, true, false, false, false, false, false, false, false, false, false, false, false, false, false, false, false, true, true, false, false, false, false, false, false, false, false, false, false, false, false, false, false, false, false, false, false, false, false, false, false, false, false, false, false, false, false, false, false, false, false, false, false, false, false, false, false, false, false, false, false, false, false, false, false, false, false, false, false, false, false, false, false, false, false, false, false, false, false, false, false, false] | false => [])), fun i => (match decide (i = 16) with | true => (.take 0 (.take 2 (.alt 1 (.alt 3 (.alt 4 (.alt 5 (.take 6 (.alt 7 .done .no)) .no) .no) .no) (.alt 3 (.alt 1 (.alt 4 (.alt 5 (.take 6 (.alt 7 .done .no)) .no) .no) (.alt 4 (.take 1 (.alt 5 (.take 6 (.alt 7 .done .no)) .no)) .no)) .no)))) | false => (match decide (i = 11) with | true => (.take 0 (.take 2 (.alt 1 (.alt 3 (.alt 4 (.alt 5 (.take 6 (.alt 7 .done .no)) .no) .no) .no) (.alt 3 (.alt 1 (.alt 4 (.alt 5 (.take 6 (.alt 7 .done .no)) .no) .no) (.alt 4 (.take 1 (.alt 5 (.take 6 (.alt 7 .done .no)) .no)) .no)) .no)))) | false => (match decide (i = 9) with | true => (.take 0 (.take 2 (.take 3 (.alt 1 (.alt 4 (.alt 5 (.alt 6 (.alt 7 (.alt 8 (.take 9 (.alt 10 .done .no)) .no) .no) .no) .no) .no) (.alt 4 (.alt 1 (.alt 5 (.alt 6 (.alt 7 (.alt 8 (.take 9 (.alt 10 .done .no)) .no) .no) .no) .no) (.alt 5 (.alt 1 (.alt 6 (.alt 7 (.alt 8 (.take 9 (.alt 10 .done .no)) .no) .no) .no) (.alt 6 (.alt 1 (.alt 7 (.alt 8 (.take 9 (.alt 10 .done .no)) .no) .no) (.alt 7 (.take 1 (.alt 8 (.take 9 (.alt 10 .done .no)) .no)) .no)) .no)) .no)) .no))))) | false => .done))), fun i => none, fun i => (match decide (i = 14) with | true => true | false => (match decide (i = 7) with | true => true | false => false)), fun i => (match decide (i = 14) with | true => [(6, some 1, (.sl (.int .u8)), (.ow .sh)), (6, some 2, (.int .i64), .sh), (6, some 3, (.int .i64), .sh)] | false => (match decide (i = 7) with | true => [(6, some 1, (.sl (.int .u8)), (.ow .sh)), (6, some 2, (.int .i64), .sh)] | false => [])), fun i => false, fun i => none, fun i => none⟩
def τ_i_ReadNode : Env := Env.of [(2, (.int .i64)), (3, (.int .i64)), (4, .bool), (22, (.sl (.sl (.int .u8)))), (34, (.sl (.int .u8))), (75, (.sl (.int .i64))), (156, (.pair .bool (.pair (.sl (.sl (.int .u8))) (.pair (.sl (.int .i64)) (.pair (.sl (.int .i64)) .unit))))), (167, (.pair (.int .i64) (.pair (.pair .bool (.pair (.sl (.sl (.int .u8))) (.pair (.sl (.int .i64)) (.pair (.sl (.int .i64)) .unit)))) .unit))), (177, (.pair (.sl (.int .u8)) (.pair .bool .unit)))] [(175, (.pair (.sl (.int .u8)) (.pair .bool .unit)))] []

theorem ct_i_ReadNode (kind : Int) (body : List (Int)) : Ct pg 141 [.dat (.int .i64) kind, .dat (.sl (.int .u8)) body] ⟨[Q_i_ReadNode kind body], [⟨(.pair (.int .i64) (.pair (.pair .bool (.pair (.sl (.sl (.int .u8))) (.pair (.sl (.int .i64)) (.pair (.sl (.int .i64)) .unit)))) .unit)), (.pr .sh (.pr (.pr .sh (.pr (.ow (.ow .sh)) (.pr (.ow .sh) (.pr (.ow .sh) .sh)))) .sh)), F_i_ReadNode kind body⟩], []⟩ := by
  refine ct_claim (O := O_i_ReadNode) (τ := τ_i_ReadNode) (EnvOk.of (by kernel_rfl) (by kernel_rfl)) (GOk.of (.cons ok_b_Equal (.cons ok_sl_Clone_byte (.cons ok_i_NodeFault (.cons ok_i_packedNode (.cons ok_i_byteReader_take (.cons ok_i_byteReader_one (.cons ok_i_byteReader_pair (.cons ok_i_byteReader_ended .nil))))))) : AllOk pg [(81, con_b_Equal), (84, con_sl_Clone_byte), (148, con_i_NodeFault), (149, con_i_packedNode), (145, con_i_byteReader_take), (144, con_i_byteReader_one), (146, con_i_byteReader_pair), (147, con_i_byteReader_ended)])) mixed (Enters.of (by kernel_rfl)) (fn := Go.Proofs.Try.f141) (by kernel_rfl) rfl (by kernel_rfl) ?_
  intro hp hw
  have hq : Q_i_ReadNode kind body := hp _ (List.mem_singleton.2 rfl)
  clear hp
  change claim Lg.std Alg.std τ_i_ReadNode (Gam.of [(81, con_b_Equal), (84, con_sl_Clone_byte), (148, con_i_NodeFault), (149, con_i_packedNode), (145, con_i_byteReader_take), (144, con_i_byteReader_one), (146, con_i_byteReader_pair), (147, con_i_byteReader_ended)]) O_i_ReadNode Go.Proofs.Try.f141 [.dat (.int .i64) kind, .dat (.sl (.int .u8)) body] ⟨[Q_i_ReadNode kind body], [⟨(.pair (.int .i64) (.pair (.pair .bool (.pair (.sl (.sl (.int .u8))) (.pair (.sl (.int .i64)) (.pair (.sl (.int .i64)) .unit)))) .unit)), (.pr .sh (.pr (.pr .sh (.pr (.ow (.ow .sh)) (.pr (.ow .sh) (.pr (.ow .sh) .sh)))) .sh)), F_i_ReadNode kind body⟩], []⟩
  delta con_b_Equal con_sl_Clone_byte con_i_NodeFault con_i_packedNode con_i_byteReader_take con_i_byteReader_one con_i_byteReader_pair con_i_byteReader_ended
  generalize hg_F_b_Equal : F_b_Equal = g_F_b_Equal
  generalize hg_Q_b_Equal : Q_b_Equal = g_Q_b_Equal
  generalize hg_F_sl_Clone_byte : F_sl_Clone_byte = g_F_sl_Clone_byte
  generalize hg_Q_sl_Clone_byte : Q_sl_Clone_byte = g_Q_sl_Clone_byte
  generalize hg_F_i_NodeFault : F_i_NodeFault = g_F_i_NodeFault
  generalize hg_Q_i_NodeFault : Q_i_NodeFault = g_Q_i_NodeFault
  generalize hg_F_i_packedNode : F_i_packedNode = g_F_i_packedNode
  generalize hg_Q_i_packedNode : Q_i_packedNode = g_Q_i_packedNode
  generalize hg_F_i_byteReader_take : F_i_byteReader_take = g_F_i_byteReader_take
  generalize hg_B_i_byteReader_take_r : B_i_byteReader_take_r = g_B_i_byteReader_take_r
  generalize hg_Q_i_byteReader_take : Q_i_byteReader_take = g_Q_i_byteReader_take
  generalize hg_F_i_byteReader_one : F_i_byteReader_one = g_F_i_byteReader_one
  generalize hg_B_i_byteReader_one_r : B_i_byteReader_one_r = g_B_i_byteReader_one_r
  generalize hg_Q_i_byteReader_one : Q_i_byteReader_one = g_Q_i_byteReader_one
  generalize hg_F_i_byteReader_pair : F_i_byteReader_pair = g_F_i_byteReader_pair
  generalize hg_B_i_byteReader_pair_r : B_i_byteReader_pair_r = g_B_i_byteReader_pair_r
  generalize hg_Q_i_byteReader_pair : Q_i_byteReader_pair = g_Q_i_byteReader_pair
  generalize hg_F_i_byteReader_ended : F_i_byteReader_ended = g_F_i_byteReader_ended
  generalize hg_Q_i_byteReader_ended : Q_i_byteReader_ended = g_Q_i_byteReader_ended
  generalize hR0 : F_i_ReadNode kind body = R0
  generalize Q_i_ReadNode kind body = Q0
  generalize hL : Lg.std = L
  generalize hA : Alg.std = A
  cbv
  subst hL hA
  try dsimp only [Ty.den]
  have hbad := readNode_bad kind body
  have hby := u8s hw.2.1.2
  have hnone := readNode_none kind body
  generalize g0 : g_B_i_byteReader_one_r (body, false, PUnit.unit) = r0 at *
  obtain ⟨x0, f0, ⟨⟩⟩ := r0
  try dsimp only
  repeat' (first | intro _ | apply And.intro)
  all_goals first | trivial | ((fail_if_success (refine lp_v (V := Unit) (fun _ => ⟨[], []⟩) (fun _ => True) (fun _ => 0) () ?_ ?_ ?_)); subst hR0 hg_F_b_Equal hg_Q_b_Equal hg_F_sl_Clone_byte hg_Q_sl_Clone_byte hg_F_i_NodeFault hg_Q_i_NodeFault hg_F_i_packedNode hg_Q_i_packedNode hg_F_i_byteReader_take hg_B_i_byteReader_take_r hg_Q_i_byteReader_take hg_F_i_byteReader_one hg_B_i_byteReader_one_r hg_Q_i_byteReader_one hg_F_i_byteReader_pair hg_B_i_byteReader_pair_r hg_Q_i_byteReader_pair hg_F_i_byteReader_ended hg_Q_i_byteReader_ended; (try simp only [Alg.std, F_b_Equal, F_sl_Clone_byte, F_i_NodeFault, F_i_packedNode, F_i_byteReader_take, F_i_byteReader_one, F_i_byteReader_pair, F_i_byteReader_ended, B_i_byteReader_take_r, B_i_byteReader_one_r, B_i_byteReader_pair_r, Q_b_Equal, Q_sl_Clone_byte, Q_i_NodeFault, Q_i_packedNode, Q_i_byteReader_take, Q_i_byteReader_one, Q_i_byteReader_pair, Q_i_byteReader_ended, F_i_ReadNode] at *); all_goals grind) | skip
  all_goals (
    refine lp_v (V := (Int) × (Int) × (List Int) × (Bool) × (Bool) × (List (List Int)) × (List Int) × (Nat) × (Nat)) (fun ((i, c, x, f, lf, ks, vs, Nk, Nv) : (Int) × (Int) × (List Int) × (Bool) × (Bool) × (List (List Int)) × (List Int) × (Nat) × (Nat)) => ⟨[Jk, .dat (.sl (.int .u8)) body, Jk, Jk, .bptr 0 0, .bptr 1 0, .bptr 2 0, .dat (.int .i64) c, Jk, Jk, Jk, Jk, Jk, Jk, Jk, Jk, Jk, Jk, Jk, Jk, Jk, Jk, Jk, .dat (.int .i64) c, .dat (.int .i64) i, Jk, Jk, Jk, Jk, Jk, Jk, Jk, Jk, Jk, Jk, Jk, Jk, Jk, Jk, Jk, Jk, Jk, Jk, Jk, Jk, Jk, Jk, Jk, Jk, Jk, Jk, Jk, Jk, Jk, Jk, Jk, Jk, Jk, Jk, Jk, Jk, Jk, Jk, Jk, Jk, Jk, Jk, Jk, Jk, Jk, Jk, Jk, Jk, Jk, Jk, Jk, Jk, Jk, Jk, Jk, Jk, Jk, Jk, Jk, Jk, Jk, Jk, Jk], [some (.box [.dat (.int .i64) 0, .dat .bool false, .nilS, .nilS, .nilS]), some (.box [.dat (.sl (.int .u8)) x, .dat .bool f]), some (.box [.dat .bool lf, .ref (.sl (.int .u8)) 3 0 [] 0 Nk, .ref (.int .i64) 4 0 [] 0 Nv, .nilS]), some (.row 0 (.sl (.int .u8)) (.ow .sh) ks), some (.row 0 (.int .i64) .sh vs)]⟩) (fun ((i, c, x, f, lf, ks, vs, Nk, Nv) : (Int) × (Int) × (List Int) × (Bool) × (Bool) × (List (List Int)) × (List Int) × (Nat) × (Nat)) => 0 ≤ i ∧ i ≤ c ∧ c ≤ 255 ∧ Nk = ks.length ∧ ks.length ≤ i ∧ Nv = vs.length ∧ vs.length ≤ i ∧ (∀ y ∈ x, 0 ≤ y ∧ y ≤ 255) ∧ lf = decide (kind = 1) ∧ (f = true → body.length < 1 ∨ parseA (decide (kind = 1)) (body.getD 0 0).toNat (body.drop 1) [] [] = none) ∧ (f = false → ¬ body.length < 1 ∧ c = body.getD 0 0 ∧ parseA (decide (kind = 1)) (body.getD 0 0).toNat (body.drop 1) [] [] = parseA (decide (kind = 1)) (c - i).toNat x ks vs)) (fun ((i, c, x, f, lf, ks, vs, Nk, Nv) : (Int) × (Int) × (List Int) × (Bool) × (Bool) × (List (List Int)) × (List Int) × (Nat) × (Nat)) => c.toNat - i.toNat) (0, _, _, _, _, _, _, _, _) rfl ?_ ?_
    · subst hR0 hg_F_b_Equal hg_Q_b_Equal hg_F_sl_Clone_byte hg_Q_sl_Clone_byte hg_F_i_NodeFault hg_Q_i_NodeFault hg_F_i_packedNode hg_Q_i_packedNode hg_F_i_byteReader_take hg_B_i_byteReader_take_r hg_Q_i_byteReader_take hg_F_i_byteReader_one hg_B_i_byteReader_one_r hg_Q_i_byteReader_one hg_F_i_byteReader_pair hg_B_i_byteReader_pair_r hg_Q_i_byteReader_pair hg_F_i_byteReader_ended hg_Q_i_byteReader_ended
      simp only [Alg.std, F_b_Equal, F_sl_Clone_byte, F_i_NodeFault, F_i_packedNode, F_i_byteReader_take, F_i_byteReader_one, F_i_byteReader_pair, F_i_byteReader_ended, B_i_byteReader_take_r, B_i_byteReader_one_r, B_i_byteReader_pair_r, Q_b_Equal, Q_sl_Clone_byte, Q_i_NodeFault, Q_i_packedNode, Q_i_byteReader_take, Q_i_byteReader_one, Q_i_byteReader_pair, Q_i_byteReader_ended, F_i_ReadNode] at *
      have e0 := rdNext_cases _ _ _ _ _ g0
      have e1 := rdOne_good body
      have e2 := rdOne_byte body false hby
      have e3 := byte_drop body 1 hby
      have e4 : (1 : Int).toNat = 1 := rfl
      have e5 : rdOne (body, false, ()) - 0 = rdOne (body, false, ()) := by omega
      grind
    rintro ⟨i, c, x, f, lf, ks, vs, Nk, Nv⟩ hf I hI
    replace hf : 0 ≤ i ∧ i ≤ c ∧ c ≤ 255 ∧ Nk = ks.length ∧ ks.length ≤ i ∧ Nv = vs.length ∧ vs.length ≤ i ∧ (∀ y ∈ x, 0 ≤ y ∧ y ≤ 255) ∧ lf = decide (kind = 1) ∧ (f = true → body.length < 1 ∨ parseA (decide (kind = 1)) (body.getD 0 0).toNat (body.drop 1) [] [] = none) ∧ (f = false → ¬ body.length < 1 ∧ c = body.getD 0 0 ∧ parseA (decide (kind = 1)) (body.getD 0 0).toNat (body.drop 1) [] [] = parseA (decide (kind = 1)) (c - i).toNat x ks vs) := hf
    generalize hL : Lg.std = L
    generalize hA : Alg.std = A
    cbv
    subst hL hA
    try dsimp only [Ty.den]
    subst hI
    generalize g1 : g_B_i_byteReader_one_r (x, f, PUnit.unit) = r1 at *
    obtain ⟨x1, f1, ⟨⟩⟩ := r1
    try dsimp only
    generalize g2 : g_B_i_byteReader_take_r (x1, f1, PUnit.unit) (g_F_i_byteReader_one (x, f, PUnit.unit)) = r2 at *
    obtain ⟨x2, f2, ⟨⟩⟩ := r2
    try dsimp only
    generalize g3 : g_B_i_byteReader_pair_r (x2, f2, PUnit.unit) = r3 at *
    obtain ⟨x3, f3, ⟨⟩⟩ := r3
    try dsimp only
    obtain ⟨h1, h2, h3, h4, h5, h6, h7, h8, h9, h10, h11⟩ := hf
    repeat' (first | intro _ | apply And.intro)
    all_goals first | (with_reducible exact True.intro) | ((fail_if_success (refine lp_v (V := Unit) (fun _ => ⟨[], []⟩) (fun _ => True) (fun _ => 0) () ?_ ?_ ?_)); (try simp only [Lg.std, Alg.std, List.drop_zero, List.take_length] at *); (try refine ⟨(_, _, _, _, _, _, _, _, _), rfl, ?_, ?_⟩); (all_goals (subst hR0 hg_F_b_Equal hg_Q_b_Equal hg_F_sl_Clone_byte hg_Q_sl_Clone_byte hg_F_i_NodeFault hg_Q_i_NodeFault hg_F_i_packedNode hg_Q_i_packedNode hg_F_i_byteReader_take hg_B_i_byteReader_take_r hg_Q_i_byteReader_take hg_F_i_byteReader_one hg_B_i_byteReader_one_r hg_Q_i_byteReader_one hg_F_i_byteReader_pair hg_B_i_byteReader_pair_r hg_Q_i_byteReader_pair hg_F_i_byteReader_ended hg_Q_i_byteReader_ended; (try simp only [Lg.std, Alg.std, List.drop_zero, List.take_length, F_b_Equal, F_sl_Clone_byte, F_i_NodeFault, F_i_packedNode, F_i_byteReader_take, F_i_byteReader_one, F_i_byteReader_pair, F_i_byteReader_ended, B_i_byteReader_take_r, B_i_byteReader_one_r, B_i_byteReader_pair_r, Q_b_Equal, Q_sl_Clone_byte, Q_i_NodeFault, Q_i_packedNode, Q_i_byteReader_take, Q_i_byteReader_one, Q_i_byteReader_pair, Q_i_byteReader_ended, F_i_ReadNode] at *); first | done | (have tl := rdTake_len (x1, f1, ()) (rdOne (x, f, ())) (rdOne_byte x f h8).1; have rr := fun (hf : f = false) (hn : 0 < (c - i).toNat) => rn_round (decide (kind = 1)) (c - i).toNat x f ks vs x1 f1 x2 f2 x3 f3 h8 hf hn g1 g2 g3; have ob := rdOne_byte x f h8; have es : (c - (i + 1)).toNat = (c - i).toNat - 1 := (by omega); grind)))) | skip
    all_goals (
      refine lp_v (V := (Int) × (Int) × (List Int) × (Bool) × (Bool) × (List (List Int)) × (List Int) × (List Int) × (Nat) × (Nat) × (Nat)) (fun ((j, m, x, f, lf, ks, vs, kd, Nk, Nv, Nd) : (Int) × (Int) × (List Int) × (Bool) × (Bool) × (List (List Int)) × (List Int) × (List Int) × (Nat) × (Nat) × (Nat)) => ⟨[Jk, .dat (.sl (.int .u8)) body, Jk, Jk, .bptr 0 0, .bptr 1 0, .bptr 2 0, Jk, Jk, Jk, Jk, Jk, Jk, Jk, Jk, Jk, Jk, Jk, Jk, Jk, Jk, Jk, Jk, Jk, Jk, Jk, Jk, Jk, Jk, Jk, Jk, Jk, Jk, Jk, Jk, Jk, Jk, Jk, Jk, Jk, Jk, Jk, Jk, Jk, Jk, Jk, Jk, Jk, Jk, Jk, Jk, .dat (.int .i64) m, .dat (.int .i64) j, Jk, Jk, Jk, Jk, Jk, Jk, Jk, Jk, Jk, Jk, Jk, Jk, Jk, Jk, Jk, Jk, Jk, Jk, Jk, Jk, Jk, Jk, Jk, Jk, Jk, Jk, Jk, Jk, Jk, Jk, Jk, Jk, Jk, Jk, Jk], [some (.box [.dat (.int .i64) 0, .dat .bool false, .nilS, .nilS, .nilS]), some (.box [.dat (.sl (.int .u8)) x, .dat .bool f]), some (.box [.dat .bool lf, .ref (.sl (.int .u8)) 3 0 [] 0 Nk, .ref (.int .i64) 4 0 [] 0 Nv, .ref (.int .i64) 5 0 [] 0 Nd]), some (.row 0 (.sl (.int .u8)) (.ow .sh) ks), some (.row 0 (.int .i64) .sh vs), some (.row 0 (.int .i64) .sh kd)]⟩) (fun ((j, m, x, f, lf, ks, vs, kd, Nk, Nv, Nd) : (Int) × (Int) × (List Int) × (Bool) × (Bool) × (List (List Int)) × (List Int) × (List Int) × (Nat) × (Nat) × (Nat)) => 0 ≤ j ∧ j ≤ m ∧ m ≤ 256 ∧ Nk = ks.length ∧ Nv = vs.length ∧ Nd = kd.length ∧ kd.length ≤ j ∧ (∀ y ∈ x, 0 ≤ y ∧ y ≤ 255) ∧ lf = decide (kind = 1) ∧ (f = true → readNode kind body = (5, zNode, ())) ∧ (f = false → ¬ body.length < 1 ∧ m = body.getD 0 0 + 1 ∧ parseA (decide (kind = 1)) (body.getD 0 0).toNat (body.drop 1) [] [] = some (ks, vs, xrOf kind body) ∧ (lf = true → x = xrOf kind body ∧ kd = []) ∧ (lf = false → kd = (xrOf kind body).take j.toNat ∧ x = (xrOf kind body).drop j.toNat ∧ j ≤ (xrOf kind body).length))) (fun ((j, m, x, f, lf, ks, vs, kd, Nk, Nv, Nd) : (Int) × (Int) × (List Int) × (Bool) × (Bool) × (List (List Int)) × (List Int) × (List Int) × (Nat) × (Nat) × (Nat)) => m.toNat - j.toNat) (0, _, _, _, _, _, _, _, _, _, _) rfl ?_ ?_
      · subst hR0 hg_F_b_Equal hg_Q_b_Equal hg_F_sl_Clone_byte hg_Q_sl_Clone_byte hg_F_i_NodeFault hg_Q_i_NodeFault hg_F_i_packedNode hg_Q_i_packedNode hg_F_i_byteReader_take hg_B_i_byteReader_take_r hg_Q_i_byteReader_take hg_F_i_byteReader_one hg_B_i_byteReader_one_r hg_Q_i_byteReader_one hg_F_i_byteReader_pair hg_B_i_byteReader_pair_r hg_Q_i_byteReader_pair hg_F_i_byteReader_ended hg_Q_i_byteReader_ended
        simp only [Alg.std, F_b_Equal, F_sl_Clone_byte, F_i_NodeFault, F_i_packedNode, F_i_byteReader_take, F_i_byteReader_one, F_i_byteReader_pair, F_i_byteReader_ended, B_i_byteReader_take_r, B_i_byteReader_one_r, B_i_byteReader_pair_r, Q_b_Equal, Q_sl_Clone_byte, Q_i_NodeFault, Q_i_packedNode, Q_i_byteReader_take, Q_i_byteReader_one, Q_i_byteReader_pair, Q_i_byteReader_ended, F_i_ReadNode] at *
        have ez := parseA_zero (decide (kind = 1)) x ks vs
        have ex := xrOf_eq kind body ks vs x
        have ec : i = c → (c - i).toNat = 0 := fun h => by omega
        grind
      rintro ⟨j, m, x, f, lf, ks, vs, kd, Nk, Nv, Nd⟩ hf I hI
      replace hf : 0 ≤ j ∧ j ≤ m ∧ m ≤ 256 ∧ Nk = ks.length ∧ Nv = vs.length ∧ Nd = kd.length ∧ kd.length ≤ j ∧ (∀ y ∈ x, 0 ≤ y ∧ y ≤ 255) ∧ lf = decide (kind = 1) ∧ (f = true → readNode kind body = (5, zNode, ())) ∧ (f = false → ¬ body.length < 1 ∧ m = body.getD 0 0 + 1 ∧ parseA (decide (kind = 1)) (body.getD 0 0).toNat (body.drop 1) [] [] = some (ks, vs, xrOf kind body) ∧ (lf = true → x = xrOf kind body ∧ kd = []) ∧ (lf = false → kd = (xrOf kind body).take j.toNat ∧ x = (xrOf kind body).drop j.toNat ∧ j ≤ (xrOf kind body).length)) := hf
      generalize hL : Lg.std = L
      generalize hA : Alg.std = A
      cbv
      subst hL hA
      try dsimp only [Ty.den]
      subst hI
      generalize g1 : g_B_i_byteReader_one_r (x, f, PUnit.unit) = r1 at *
      obtain ⟨x1, f1, ⟨⟩⟩ := r1
      try dsimp only
      obtain ⟨h1, h2, h3, h4, h5, h6, h7, h8, h9, h10, h11⟩ := hf
      repeat' (first | intro _ | apply And.intro)
      all_goals first | (with_reducible exact True.intro) | ((fail_if_success (refine lp_v (V := Unit) (fun _ => ⟨[], []⟩) (fun _ => True) (fun _ => 0) () ?_ ?_ ?_)); (try simp only [Lg.std, Alg.std, List.drop_zero, List.take_length] at *); (try refine ⟨(_, _, _, _, _, _, _, _, _, _, _), rfl, ?_, ?_⟩); (all_goals (subst hR0 hg_F_b_Equal hg_Q_b_Equal hg_F_sl_Clone_byte hg_Q_sl_Clone_byte hg_F_i_NodeFault hg_Q_i_NodeFault hg_F_i_packedNode hg_Q_i_packedNode hg_F_i_byteReader_take hg_B_i_byteReader_take_r hg_Q_i_byteReader_take hg_F_i_byteReader_one hg_B_i_byteReader_one_r hg_Q_i_byteReader_one hg_F_i_byteReader_pair hg_B_i_byteReader_pair_r hg_Q_i_byteReader_pair hg_F_i_byteReader_ended hg_Q_i_byteReader_ended; (try simp only [Lg.std, Alg.std, List.drop_zero, List.take_length, F_b_Equal, F_sl_Clone_byte, F_i_NodeFault, F_i_packedNode, F_i_byteReader_take, F_i_byteReader_one, F_i_byteReader_pair, F_i_byteReader_ended, B_i_byteReader_take_r, B_i_byteReader_one_r, B_i_byteReader_pair_r, Q_b_Equal, Q_sl_Clone_byte, Q_i_NodeFault, Q_i_packedNode, Q_i_byteReader_take, Q_i_byteReader_one, Q_i_byteReader_pair, Q_i_byteReader_ended, F_i_ReadNode] at *); first | done | (have hk12 : kind = 1 ∨ kind = 2 := (by grind); have kr := kid_round (xrOf kind body) x kd f j x1 f1; have ob := rdOne_byte x f h8; have bd := byte_drop x 1 h8; have en := rdNext_cases _ _ _ _ _ g1; have rs := readNode_short kind body ks vs (xrOf kind body); have re := rn_end kind body ks vs (xrOf kind body) x kd f lf j m hk12 hby h9 h10 h11; grind)))) | skip))
def con_i_ReadNode : Con := ⟨true, g2 (pD (.int .i64)) (pD (.sl (.int .u8))) fun kind body => .one ⟨[Q_i_ReadNode kind body], [⟨(.pair (.int .i64) (.pair (.pair .bool (.pair (.sl (.sl (.int .u8))) (.pair (.sl (.int .i64)) (.pair (.sl (.int .i64)) .unit)))) .unit)), (.pr .sh (.pr (.pr .sh (.pr (.ow (.ow .sh)) (.pr (.ow .sh) (.pr (.ow .sh) .sh)))) .sh)), F_i_ReadNode kind body⟩], []⟩, [], false, 0⟩
theorem ok_i_ReadNode : ConOk pg 141 con_i_ReadNode := ConOk.g2 (Enters.of (by kernel_rfl)) ct_i_ReadNode

def F_s_l15Parse (leaf : Bool) (body : List (Int)) : (Bool) × (List (List (Int))) × (List (Int)) × (List (Int)) × Unit := (parse15 leaf body).1
def F_s_l15Parse_1 (leaf : Bool) (body : List (Int)) : Bool := (parse15 leaf body).2
def Q_s_l15Parse (leaf : Bool) (body : List (Int)) : Prop := body.length ≤ 1048576
def O_s_l15Parse : Opt := ⟨fun i => false, fun i => (match decide (i = 20) with | true => [false, true, false, false, true, false, false, true, true, false, false, false, false, false, false, false, false, false, false, false, false, false, false, false, false, false, false, false, false, false, false, false, false, false, false, false, false, false, false, false, false, false, false, false, false, false, false, false, false, false, false, false, false, false, false, false, false, false, false, false, false, false, false, false, false, false, false, false, false, false, false, false, false, false, false, false, false, false, false, false, false, false, false, false, false, false, false, false, false, false, false, false, false, false, false, false, false, false, false, false, false, false, false, false, false, false, false, false, false, false, false, false, false, false, false, false, false, false, false, false, false, false, false, false, false, false, false, false, false] | false => (match decide (i = 10) with | true => [true, true, false, false, true, false, true, true, true, true, true, false, false, false, false, false, false, false, false, false, false, false, false, false, false, false, false, false, false, false, false, false, false, false, false, false, false, false, false, false, false, false, false, false, false, false, false, false, false, false, false, false, false, false, false, false, false, false, false, false, false, false, false, false, false, false, false, false, false, false, false, false, false, false, false, false, false, false, false, false, false, false, false, false, false, false, false, false, false, false, false, false, false, false, false, false, false, false, false, false, false, false, false, false, false, false, false, false, false, false, false, false, false, false, false, false, false, false, false, false, false, false, false, false, false, false, false, false, false] | false => [])), fun i => (match decide (i = 23) with | true => (.take 1 (.take 2 (.take 3 (.take 4 (.take 5 (.alt 0 (.alt 6 (.alt 7 (.alt 8 (.take 9 (.alt 10 (.take 11 .done) .no)) (.alt 10 (.alt 8 (.take 9 (.take 11 .done)) .no) .no)) .no) .no) (.alt 6 (.alt 0 (.alt 7 (.alt 8 (.take 9 (.alt 10 (.take 11 .done) .no)) (.alt 10 (.alt 8 (.take 9 (.take 11 .done)) .no) .no)) .no) (.alt 7 (.take 0 (.alt 8 (.take 9 (.alt 10 (.take 11 .done) .no)) (.alt 10 (.alt 8 (.take 9 (.take 11 .done)) .no) .no))) .no)) .no))))))) | false => (match decide (i = 22) with | true => (.take 0 (.take 2 (.take 3 (.take 4 (.alt 1 (.alt 5 (.take 6 (.alt 7 (.alt 8 (.take 9 (.alt 10 .done .no)) .no) .no)) .no) (.alt 5 (.take 6 (.alt 1 (.alt 7 (.alt 8 (.take 9 (.alt 10 .done .no)) .no) .no) (.alt 7 (.take 1 (.alt 8 (.take 9 (.alt 10 .done .no)) .no)) .no))) .no)))))) | false => (match decide (i = 17) with | true => (.take 0 (.take 2 (.take 3 (.take 4 (.take 8 (.take 9 (.take 10 (.take 11 (.alt 1 (.alt 5 (.take 6 (.take 7 (.alt 12 (.take 13 (.take 14 (.alt 15 (.alt 16 (.take 17 (.alt 18 .done .no)) .no) .no))) .no))) (.alt 12 (.take 13 (.alt 5 (.take 6 (.take 7 (.take 14 (.alt 15 (.alt 16 (.take 17 (.alt 18 .done .no)) .no) .no)))) .no)) .no)) (.alt 5 (.take 6 (.take 7 (.alt 1 (.alt 12 (.take 13 (.take 14 (.alt 15 (.alt 16 (.take 17 (.alt 18 .done .no)) .no) .no))) .no) (.alt 12 (.take 13 (.take 14 (.alt 1 (.alt 15 (.alt 16 (.take 17 (.alt 18 .done .no)) .no) .no) (.alt 15 (.take 1 (.alt 16 (.take 17 (.alt 18 .done .no)) .no)) .no)))) .no)))) (.alt 12 (.take 13 (.alt 1 (.alt 5 (.take 6 (.take 7 (.take 14 (.alt 15 (.alt 16 (.take 17 (.alt 18 .done .no)) .no) .no)))) .no) (.alt 5 (.take 6 (.take 7 (.take 14 (.alt 1 (.alt 15 (.alt 16 (.take 17 (.alt 18 .done .no)) .no) .no) (.alt 15 (.take 1 (.alt 16 (.take 17 (.alt 18 .done .no)) .no)) .no))))) .no))) .no))))))))))) | false => (match decide (i = 15) with | true => (.take 0 (.take 2 (.take 3 (.take 4 (.take 5 (.take 6 (.alt 1 (.alt 7 (.alt 8 (.alt 9 (.take 10 (.alt 11 .done .no)) .no) .no) .no) (.alt 7 (.alt 1 (.alt 8 (.alt 9 (.take 10 (.alt 11 .done .no)) .no) .no) (.alt 8 (.take 1 (.alt 9 (.take 10 (.alt 11 .done .no)) .no)) .no)) .no)))))))) | false => .done)))), fun i => none, fun i => (match decide (i = 20) with | true => true | false => (match decide (i = 10) with | true => true | false => false)), fun i => (match decide (i = 20) with | true => [(7, some 1, (.sl (.int .u8)), (.ow .sh)), (7, some 2, (.int .i64), .sh), (7, some 3, (.int .i64), .sh)] | false => (match decide (i = 10) with | true => [(7, some 1, (.sl (.int .u8)), (.ow .sh)), (7, some 2, (.int .i64), .sh)] | false => [])), fun i => false, fun i => none, fun i => none⟩
def τ_s_l15Parse : Env := Env.of [(2, (.int .i64)), (3, (.int .i64)), (4, .bool), (5, (.int .u8)), (22, (.sl (.sl (.int .u8)))), (34, (.sl (.int .u8))), (75, (.sl (.int .i64))), (156, (.pair .bool (.pair (.sl (.sl (.int .u8))) (.pair (.sl (.int .i64)) (.pair (.sl (.int .i64)) .unit)))))] [] []

theorem ct_s_l15Parse (leaf : Bool) (body : List (Int)) : Ct pg 138 [.dat .bool leaf, .dat (.sl (.int .u8)) body] ⟨[Q_s_l15Parse leaf body], [⟨(.pair .bool (.pair (.sl (.sl (.int .u8))) (.pair (.sl (.int .i64)) (.pair (.sl (.int .i64)) .unit)))), (.pr .sh (.pr (.ow (.ow .sh)) (.pr (.ow .sh) (.pr (.ow .sh) .sh)))), F_s_l15Parse leaf body⟩, ⟨.bool, .sh, F_s_l15Parse_1 leaf body⟩], []⟩ := by
  refine ct_claim (O := O_s_l15Parse) (τ := τ_s_l15Parse) (EnvOk.of (by kernel_rfl) (by kernel_rfl)) (GOk.of (.cons ok_s_l1Copy (.cons ok_s_NodeFault .nil) : AllOk pg [(77, con_s_l1Copy), (142, con_s_NodeFault)])) mixed (Enters.of (by kernel_rfl)) (fn := Go.Proofs.Try.f138) (by kernel_rfl) rfl (by kernel_rfl) ?_
  intro hp hw
  have hq : Q_s_l15Parse leaf body := hp _ (List.mem_singleton.2 rfl)
  clear hp
  change claim Lg.std Alg.std τ_s_l15Parse (Gam.of [(77, con_s_l1Copy), (142, con_s_NodeFault)]) O_s_l15Parse Go.Proofs.Try.f138 [.dat .bool leaf, .dat (.sl (.int .u8)) body] ⟨[Q_s_l15Parse leaf body], [⟨(.pair .bool (.pair (.sl (.sl (.int .u8))) (.pair (.sl (.int .i64)) (.pair (.sl (.int .i64)) .unit)))), (.pr .sh (.pr (.ow (.ow .sh)) (.pr (.ow .sh) (.pr (.ow .sh) .sh)))), F_s_l15Parse leaf body⟩, ⟨.bool, .sh, F_s_l15Parse_1 leaf body⟩], []⟩
  delta con_s_l1Copy con_s_NodeFault
  generalize hg_F_s_l1Copy : F_s_l1Copy = g_F_s_l1Copy
  generalize hg_Q_s_l1Copy : Q_s_l1Copy = g_Q_s_l1Copy
  generalize hg_F_s_NodeFault : F_s_NodeFault = g_F_s_NodeFault
  generalize hg_Q_s_NodeFault : Q_s_NodeFault = g_Q_s_NodeFault
  generalize hR0 : F_s_l15Parse leaf body = R0
  generalize hR1 : F_s_l15Parse_1 leaf body = R1
  generalize Q_s_l15Parse leaf body = Q0
  generalize hL : Lg.std = L
  generalize hA : Alg.std = A
  cbv
  subst hL hA
  try dsimp only [Ty.den]
  simp only [Q_s_l15Parse] at hq
  have hby := u8s hw.2.1.2
  have ob0 := getD_byte body hby 0
  have p0 := p15_none leaf body
  repeat' (first | intro _ | apply And.intro)
  all_goals first | trivial | ((fail_if_success (refine lp_v (V := Unit) (fun _ => ⟨[], []⟩) (fun _ => True) (fun _ => 0) () ?_ ?_ ?_)); subst hR0 hR1 hg_F_s_l1Copy hg_Q_s_l1Copy hg_F_s_NodeFault hg_Q_s_NodeFault; (try simp only [Alg.std, F_s_l1Copy, F_s_NodeFault, Q_s_l1Copy, Q_s_NodeFault, F_s_l15Parse, F_s_l15Parse_1] at *); all_goals grind) | skip
  all_goals (
    refine lp_v (V := (Int) × (Int) × (Int) × (List (List Int)) × (List Int) × (Nat) × (Nat)) (fun ((i, k, more, ks, vs, Nk, Nv) : (Int) × (Int) × (Int) × (List (List Int)) × (List Int) × (Nat) × (Nat)) => ⟨[.dat .bool leaf, .dat (.sl (.int .u8)) body, Jk, Jk, .bptr 0 0, Jk, .bptr 1 0, .bptr 2 0, .dat (.int .i64) k, .dat (.int .i64) more, .dat (.int .i64) i, Jk, Jk, Jk, Jk, Jk, Jk, Jk, Jk, Jk, Jk, Jk, Jk, Jk, Jk, Jk, Jk, Jk, Jk, Jk, Jk, Jk, Jk, Jk, Jk, Jk, Jk, Jk, Jk, Jk, Jk, Jk, Jk, Jk, Jk, Jk, Jk, Jk, Jk, Jk, Jk, Jk, Jk, Jk, Jk, Jk, Jk, Jk, Jk, Jk, Jk, Jk, Jk, Jk, Jk, Jk, Jk, Jk, Jk, Jk, Jk, Jk, Jk, Jk, Jk, Jk, Jk, Jk, Jk, Jk, Jk, Jk, Jk, Jk, Jk, Jk, Jk, Jk, Jk, Jk, Jk, Jk, Jk, Jk, Jk, Jk, Jk, Jk, Jk, Jk, Jk, Jk, Jk, Jk, Jk, Jk, Jk, Jk, Jk, Jk, Jk, Jk, Jk, Jk, Jk, Jk, Jk, Jk, Jk, Jk, Jk, Jk, Jk, Jk, Jk, Jk, Jk, Jk, Jk], [some (.box [.dat .bool false, .nilS, .nilS, .nilS]), some (.box [.dat .bool false, .nilS, .nilS, .nilS]), some (.box [.dat .bool leaf, .ref (.sl (.int .u8)) 3 0 [] 0 Nk, .ref (.int .i64) 4 0 [] 0 Nv, .nilS]), some (.row 0 (.sl (.int .u8)) (.ow .sh) ks), some (.row 0 (.int .i64) .sh vs)]⟩) (fun ((i, k, more, ks, vs, Nk, Nv) : (Int) × (Int) × (Int) × (List (List Int)) × (List Int) × (Nat) × (Nat)) => 0 ≤ i ∧ i ≤ body.getD 0 0 ∧ 1 ≤ k ∧ k ≤ body.length ∧ more = (if leaf = true then 2 else 0) ∧ Nk = ks.length ∧ ks.length ≤ i ∧ Nv = vs.length ∧ vs.length ≤ i ∧ ¬ (body.length < 1 ∨ body.getD 0 0 > 4) ∧ parseA leaf (body.getD 0 0).toNat (body.drop 1) [] [] = parseA leaf (body.getD 0 0 - i).toNat (body.drop k.toNat) ks vs) (fun ((i, k, more, ks, vs, Nk, Nv) : (Int) × (Int) × (Int) × (List (List Int)) × (List Int) × (Nat) × (Nat)) => (body.getD 0 0).toNat - i.toNat) (0, 1, _, _, _, _, _) rfl ?_ ?_
    · subst hR0 hR1 hg_F_s_l1Copy hg_Q_s_l1Copy hg_F_s_NodeFault hg_Q_s_NodeFault
      (try simp only [Alg.std, F_s_l1Copy, F_s_NodeFault, Q_s_l1Copy, Q_s_NodeFault, F_s_l15Parse, F_s_l15Parse_1] at *)
      all_goals grind
    rintro ⟨i, k, more, ks, vs, Nk, Nv⟩ hf I hI
    replace hf : 0 ≤ i ∧ i ≤ body.getD 0 0 ∧ 1 ≤ k ∧ k ≤ body.length ∧ more = (if leaf = true then 2 else 0) ∧ Nk = ks.length ∧ ks.length ≤ i ∧ Nv = vs.length ∧ vs.length ≤ i ∧ ¬ (body.length < 1 ∨ body.getD 0 0 > 4) ∧ parseA leaf (body.getD 0 0).toNat (body.drop 1) [] [] = parseA leaf (body.getD 0 0 - i).toNat (body.drop k.toNat) ks vs := hf
    generalize hL : Lg.std = L
    generalize hA : Alg.std = A
    cbv
    subst hL hA
    try dsimp only [Ty.den]
    subst hI
    have hbl : ∀ {b : Bool}, b = leaf ∨ b ≠ leaf := fun {b} => Classical.em _
    obtain ⟨h1, h2, h3, h4, h5, h6, h7, h8, h9, h10, h11⟩ := hf
    repeat' (first | intro _ | apply And.intro)
    all_goals first | (with_reducible exact True.intro) | ((fail_if_success (refine lp_v (V := Unit) (fun _ => ⟨[], []⟩) (fun _ => True) (fun _ => 0) () ?_ ?_ ?_)); (try simp only [Lg.std, Alg.std, List.drop_zero, List.take_length] at *); (try refine ⟨(_, _, _, _, _, _, _), rfl, ?_, ?_⟩); (all_goals (subst hR0 hR1 hg_F_s_l1Copy hg_Q_s_l1Copy hg_F_s_NodeFault hg_Q_s_NodeFault; (try simp only [Lg.std, Alg.std, List.drop_zero, List.take_length, F_s_l1Copy, F_s_NodeFault, Q_s_l1Copy, Q_s_NodeFault, F_s_l15Parse, F_s_l15Parse_1] at *); first | done | ((try simp only [Int.toNat_zero] at *); have ob := fun j => getD_byte body hby j; have ob2 := ob k.toNat; have sr := fun (hn : 0 < (body.getD 0 0 - i).toNat) => sp_round leaf (body.getD 0 0 - i).toNat body k more ks vs hby hn h3 h5; have es : (body.getD 0 0 - (i + 1)).toNat = (body.getD 0 0 - i).toNat - 1 := (by omega); have p1 := p15_none leaf body; have p2 := p15_leaf body ks vs k; have ez := parseA_zero leaf (body.drop k.toNat) ks vs; have ec : i = body.getD 0 0 → (body.getD 0 0 - i).toNat = 0 := (fun h => by omega); have ex := rest15_eq leaf body ks vs (body.drop k.toNat); grind)))) | skip
    all_goals (
      refine lp_v (V := (Int) × (List (List Int)) × (List Int) × (List Int) × (Nat) × (Nat) × (Nat)) (fun ((k, ks, vs, kd, Nk, Nv, Nd) : (Int) × (List (List Int)) × (List Int) × (List Int) × (Nat) × (Nat) × (Nat)) => ⟨[Jk, .dat (.sl (.int .u8)) body, Jk, Jk, .bptr 0 0, Jk, Jk, .bptr 1 0, .dat (.int .i64) k, Jk, Jk, Jk, Jk, Jk, Jk, Jk, Jk, Jk, Jk, Jk, Jk, Jk, Jk, Jk, Jk, Jk, Jk, Jk, Jk, Jk, Jk, Jk, Jk, Jk, Jk, Jk, Jk, Jk, Jk, Jk, Jk, Jk, Jk, Jk, Jk, Jk, Jk, Jk, Jk, Jk, Jk, Jk, Jk, Jk, Jk, Jk, Jk, Jk, Jk, Jk, Jk, Jk, Jk, Jk, Jk, Jk, Jk, Jk, Jk, Jk, Jk, Jk, Jk, Jk, Jk, Jk, Jk, Jk, Jk, Jk, Jk, Jk, Jk, Jk, Jk, Jk, Jk, Jk, Jk, Jk, Jk, Jk, Jk, Jk, Jk, Jk, Jk, Jk, Jk, Jk, Jk, Jk, Jk, Jk, Jk, Jk, Jk, Jk, Jk, Jk, Jk, Jk, Jk, Jk, Jk, Jk, Jk, Jk, Jk, Jk, Jk, Jk, Jk, Jk, Jk, Jk, Jk, Jk, Jk], [some (.box [.dat .bool false, .nilS, .nilS, .nilS]), some (.box [.dat .bool leaf, .ref (.sl (.int .u8)) 2 0 [] 0 Nk, .ref (.int .i64) 3 0 [] 0 Nv, .ref (.int .i64) 4 0 [] 0 Nd]), some (.row 0 (.sl (.int .u8)) (.ow .sh) ks), some (.row 0 (.int .i64) .sh vs), some (.row 0 (.int .i64) .sh kd)]⟩) (fun ((k, ks, vs, kd, Nk, Nv, Nd) : (Int) × (List (List Int)) × (List Int) × (List Int) × (Nat) × (Nat) × (Nat)) => 0 ≤ k ∧ k ≤ body.length ∧ Nk = ks.length ∧ Nv = vs.length ∧ Nd = kd.length ∧ kd.length ≤ 5 ∧ leaf = false ∧ ¬ (body.length < 1 ∨ body.getD 0 0 > 4) ∧ parseA leaf (body.getD 0 0).toNat (body.drop 1) [] [] = some (ks, vs, rest15 leaf body) ∧ kd = (rest15 leaf body).take kd.length ∧ body.drop k.toNat = (rest15 leaf body).drop kd.length) (fun ((k, ks, vs, kd, Nk, Nv, Nd) : (Int) × (List (List Int)) × (List Int) × (List Int) × (Nat) × (Nat) × (Nat)) => body.length - k.toNat) (_, _, _, _, _, _, _) rfl ?_ ?_
      · subst hR0 hR1 hg_F_s_l1Copy hg_Q_s_l1Copy hg_F_s_NodeFault hg_Q_s_NodeFault
        simp only [Alg.std, Int.toNat_zero, F_s_l1Copy, F_s_NodeFault, Q_s_l1Copy, Q_s_NodeFault, F_s_l15Parse, F_s_l15Parse_1] at *
        have ez := parseA_zero leaf (body.drop k.toNat) ks vs
        have ec : i = body.getD 0 0 → (body.getD 0 0 - i).toNat = 0 := (fun h => by omega)
        have ex := rest15_eq leaf body ks vs (body.drop k.toNat)
        
        grind
      rintro ⟨k, ks, vs, kd, Nk, Nv, Nd⟩ hf I hI
      replace hf : 0 ≤ k ∧ k ≤ body.length ∧ Nk = ks.length ∧ Nv = vs.length ∧ Nd = kd.length ∧ kd.length ≤ 5 ∧ leaf = false ∧ ¬ (body.length < 1 ∨ body.getD 0 0 > 4) ∧ parseA leaf (body.getD 0 0).toNat (body.drop 1) [] [] = some (ks, vs, rest15 leaf body) ∧ kd = (rest15 leaf body).take kd.length ∧ body.drop k.toNat = (rest15 leaf body).drop kd.length := hf
      generalize hL : Lg.std = L
      generalize hA : Alg.std = A
      cbv
      subst hL hA
      try dsimp only [Ty.den]
      subst hI
      obtain ⟨h1, h2, h3, h4, h5, h6, h7, h8, h9, h10, h11⟩ := hf
      repeat' (first | intro _ | apply And.intro)
      all_goals first | (with_reducible exact True.intro) | ((fail_if_success (refine lp_v (V := Unit) (fun _ => ⟨[], []⟩) (fun _ => True) (fun _ => 0) () ?_ ?_ ?_)); (try simp only [Lg.std, Alg.std, List.drop_zero, List.take_length] at *); (try refine ⟨(_, _, _, _, _, _, _), rfl, ?_, ?_⟩); (all_goals (subst hR0 hR1 hg_F_s_l1Copy hg_Q_s_l1Copy hg_F_s_NodeFault hg_Q_s_NodeFault; (try simp only [Lg.std, Alg.std, List.drop_zero, List.take_length, F_s_l1Copy, F_s_NodeFault, Q_s_l1Copy, Q_s_NodeFault, F_s_l15Parse, F_s_l15Parse_1] at *); first | done | (have kr := kid15 (rest15 leaf body) body kd k; have p3 := p15_inner body ks vs kd k; have ln : (kd ++ [body.getD k.toNat 0]).length = kd.length + 1 := (by simp); grind)))) | skip))
def con_s_l15Parse : Con := ⟨true, g2 (pD .bool) (pD (.sl (.int .u8))) fun leaf body => .one ⟨[Q_s_l15Parse leaf body], [⟨(.pair .bool (.pair (.sl (.sl (.int .u8))) (.pair (.sl (.int .i64)) (.pair (.sl (.int .i64)) .unit)))), (.pr .sh (.pr (.ow (.ow .sh)) (.pr (.ow .sh) (.pr (.ow .sh) .sh)))), F_s_l15Parse leaf body⟩, ⟨.bool, .sh, F_s_l15Parse_1 leaf body⟩], []⟩, [], false, 0⟩
theorem ok_s_l15Parse : ConOk pg 138 con_s_l15Parse := ConOk.g2 (Enters.of (by kernel_rfl)) ct_s_l15Parse

def F_s_ReadNode (kind : Int) (body : List (Int)) : (Int) × ((Bool) × (List (List (Int))) × (List (Int)) × (List (Int)) × Unit) × Unit := readNode kind body
def Q_s_ReadNode (kind : Int) (body : List (Int)) : Prop := body.length ≤ 1048576
def O_s_ReadNode : Opt := ⟨fun i => false, fun i => [], fun i => .done, fun i => none, fun i => false, fun i => [], fun i => false, fun i => none, fun i => none⟩
def τ_s_ReadNode : Env := Env.of [(2, (.int .i64)), (4, .bool), (34, (.sl (.int .u8))), (156, (.pair .bool (.pair (.sl (.sl (.int .u8))) (.pair (.sl (.int .i64)) (.pair (.sl (.int .i64)) .unit))))), (167, (.pair (.int .i64) (.pair (.pair .bool (.pair (.sl (.sl (.int .u8))) (.pair (.sl (.int .i64)) (.pair (.sl (.int .i64)) .unit)))) .unit)))] [] []

theorem ct_s_ReadNode (kind : Int) (body : List (Int)) : Ct pg 135 [.dat (.int .i64) kind, .dat (.sl (.int .u8)) body] ⟨[Q_s_ReadNode kind body], [⟨(.pair (.int .i64) (.pair (.pair .bool (.pair (.sl (.sl (.int .u8))) (.pair (.sl (.int .i64)) (.pair (.sl (.int .i64)) .unit)))) .unit)), (.pr .sh (.pr (.pr .sh (.pr (.ow (.ow .sh)) (.pr (.ow .sh) (.pr (.ow .sh) .sh)))) .sh)), F_s_ReadNode kind body⟩], []⟩ := by
  refine ct_claim (O := O_s_ReadNode) (τ := τ_s_ReadNode) (EnvOk.of (by kernel_rfl) (by kernel_rfl)) (GOk.of (.cons ok_s_l15Parse .nil : AllOk pg [(138, con_s_l15Parse)])) mixed (Enters.of (by kernel_rfl)) (fn := Go.Proofs.Try.f135) (by kernel_rfl) rfl (by kernel_rfl) ?_
  intro hp hw
  have hq : Q_s_ReadNode kind body := hp _ (List.mem_singleton.2 rfl)
  clear hp
  change claim Lg.std Alg.std τ_s_ReadNode (Gam.of [(138, con_s_l15Parse)]) O_s_ReadNode Go.Proofs.Try.f135 [.dat (.int .i64) kind, .dat (.sl (.int .u8)) body] ⟨[Q_s_ReadNode kind body], [⟨(.pair (.int .i64) (.pair (.pair .bool (.pair (.sl (.sl (.int .u8))) (.pair (.sl (.int .i64)) (.pair (.sl (.int .i64)) .unit)))) .unit)), (.pr .sh (.pr (.pr .sh (.pr (.ow (.ow .sh)) (.pr (.ow .sh) (.pr (.ow .sh) .sh)))) .sh)), F_s_ReadNode kind body⟩], []⟩
  delta con_s_l15Parse
  generalize hg_F_s_l15Parse : F_s_l15Parse = g_F_s_l15Parse
  generalize hg_F_s_l15Parse_1 : F_s_l15Parse_1 = g_F_s_l15Parse_1
  generalize hg_Q_s_l15Parse : Q_s_l15Parse = g_Q_s_l15Parse
  generalize hR0 : F_s_ReadNode kind body = R0
  generalize Q_s_ReadNode kind body = Q0
  generalize hL : Lg.std = L
  generalize hA : Alg.std = A
  cbv
  subst hL hA
  try dsimp only [Ty.den]
  have h15 := readNode_15 kind body (u8s hw.2.1.2)
  subst hR0 hg_F_s_l15Parse hg_F_s_l15Parse_1 hg_Q_s_l15Parse
  simp only [Q_s_ReadNode] at hq
  simp only [Lg.std, Alg.std, List.drop_zero, List.take_length, F_s_l15Parse, F_s_l15Parse_1, Q_s_l15Parse, F_s_ReadNode]
  all_goals grind
def con_s_ReadNode : Con := ⟨true, g2 (pD (.int .i64)) (pD (.sl (.int .u8))) fun kind body => .one ⟨[Q_s_ReadNode kind body], [⟨(.pair (.int .i64) (.pair (.pair .bool (.pair (.sl (.sl (.int .u8))) (.pair (.sl (.int .i64)) (.pair (.sl (.int .i64)) .unit)))) .unit)), (.pr .sh (.pr (.pr .sh (.pr (.ow (.ow .sh)) (.pr (.ow .sh) (.pr (.ow .sh) .sh)))) .sh)), F_s_ReadNode kind body⟩], []⟩, [], false, 0⟩
theorem ok_s_ReadNode : ConOk pg 135 con_s_ReadNode := ConOk.g2 (Enters.of (by kernel_rfl)) ct_s_ReadNode
end Go.Vee
