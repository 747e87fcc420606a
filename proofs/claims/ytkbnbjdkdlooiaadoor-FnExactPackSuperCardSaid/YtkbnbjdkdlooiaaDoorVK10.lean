/-
  Contracts of functions of the program: what each returns for all arguments that its precondition lets in.
-/
import Derived.Test.YtkbnbjdkdlooiaaDoorVK9
set_option linter.unusedSimpArgs false
set_option linter.unusedVariables false
set_option maxRecDepth 100000
set_option maxHeartbeats 4000000
set_option synthInstance.maxHeartbeats 4000000
set_option synthInstance.maxSize 20000
namespace Go.Vee
open Go
abbrev RdT := List Int × Bool × Unit
def rdBad (r : RdT) (n : Int) : Bool := r.2.1 || decide (n > r.1.length)
def rdTake (r : RdT) (n : Int) : List Int := if rdBad r n = true then List.replicate n.toNat 0 else r.1.take n.toNat
def rdNext (r : RdT) (n : Int) : RdT := if rdBad r n = true then (r.1, true, ()) else (r.1.drop n.toNat, false, ())
def rdOne (r : RdT) : Int := (rdTake r 1).getD 0 0
def rdPair (r : RdT) : Int := (rdTake r 2).getD 0 0 * 256 + (rdTake r 2).getD 1 0
theorem rdTake_len (r : RdT) (n : Int) (h : 0 ≤ n) : (rdTake r n).length = n.toNat := by
  unfold rdTake rdBad
  split
  · simp
  · rename_i h1
    simp only [Bool.or_eq_true, decide_eq_true_eq, not_or] at h1
    simp; omega
theorem rdTake_at (r : RdT) (n : Int) (j : Nat) (h : ∀ x ∈ r.1, 0 ≤ x ∧ x ≤ 255) : 0 ≤ (rdTake r n).getD j 0 ∧ (rdTake r n).getD j 0 ≤ 255 := by
  have key : ∀ l : List Int, (∀ x ∈ l, 0 ≤ x ∧ x ≤ 255) → 0 ≤ l.getD j 0 ∧ l.getD j 0 ≤ 255 := fun l hl => by
    rw [List.getD_eq_getElem?_getD]
    cases hj : l[j]? with
    | none => simp
    | some x => simpa using hl x (List.mem_of_getElem? hj)
  unfold rdTake
  split
  · exact key _ (fun x hx => by have := List.eq_of_mem_replicate hx; omega)
  · exact key _ (fun x hx => h x (List.mem_of_mem_take hx))
theorem or_pair (x y : Int) (hx : 0 ≤ x ∧ x ≤ 255) (hy : 0 ≤ y ∧ y ≤ 255) : bitStd .or .i64 (IntKind.wrap .i64 (x * 2 ^ (min (8 : Int).toNat IntKind.i64.bits))) y = x * 256 + y := by
  obtain ⟨a, rfl⟩ := Int.eq_ofNat_of_zero_le hx.1
  obtain ⟨b, rfl⟩ := Int.eq_ofNat_of_zero_le hy.1
  have ha : a < 256 := by omega
  have hb : b < 256 := by omega
  have h1 : (2 : Int) ^ (min (8 : Int).toNat IntKind.i64.bits) = 256 := by decide
  have h2 : IntKind.wrap .i64 ((a : Int) * 256) = (a * 256 : Nat) := by rw [i64_wrap (by omega)]; omega
  rw [h1, h2]
  unfold bitStd
  simp only
  have h3 : (BitVec.ofInt IntKind.i64.bits ((a * 256 : Nat) : Int) ||| BitVec.ofInt IntKind.i64.bits (b : Int)).toNat = a * 256 + b := by
    have e1 : (BitVec.ofInt IntKind.i64.bits ((a * 256 : Nat) : Int)) = BitVec.ofNat IntKind.i64.bits (a * 256) := by rfl
    have e2 : (BitVec.ofInt IntKind.i64.bits (b : Int)) = BitVec.ofNat IntKind.i64.bits b := by rfl
    have e3 : (2 : Nat) ^ IntKind.i64.bits = 18446744073709551616 := by decide
    rw [e1, e2, BitVec.toNat_or, BitVec.toNat_ofNat, BitVec.toNat_ofNat, e3, Nat.mod_eq_of_lt (by omega), Nat.mod_eq_of_lt (by omega)]
    have := Nat.shiftLeft_add_eq_or_of_lt (b := b) (i := 8) (by omega) a
    rw [Nat.shiftLeft_eq, show (2 : Nat) ^ 8 = 256 by decide] at this
    omega
  rw [h3, i64_wrap (by omega)]
  omega
abbrev NodeT := Bool × List (List Int) × List Int × List Int × Unit
abbrev zNode : NodeT := (false, [], [], [], ())
/-- Keys, and values, read one after another. -/
def parseA (leaf : Bool) : Nat → List Int → List (List Int) → List Int → Option (List (List Int) × List Int × List Int)
  | 0, xs, ks, vs => some (ks, vs, xs)
  | n + 1, xs, ks, vs =>
    if xs.length < 1 then none else if xs.getD 0 0 > (xs.drop 1).length then none
    else if leaf = true then (if 2 > ((xs.drop 1).drop (xs.getD 0 0).toNat).length then none
      else parseA leaf n (((xs.drop 1).drop (xs.getD 0 0).toNat).drop 2) (ks ++ [(xs.drop 1).take (xs.getD 0 0).toNat]) (vs ++ [((xs.drop 1).drop (xs.getD 0 0).toNat).getD 0 0 * 256 + ((xs.drop 1).drop (xs.getD 0 0).toNat).getD 1 0]))
    else parseA leaf n ((xs.drop 1).drop (xs.getD 0 0).toNat) (ks ++ [(xs.drop 1).take (xs.getD 0 0).toNat]) vs
def mkNode (leaf : Bool) (ks : List (List Int)) (vs r : List Int) : NodeT := (leaf, ks, vs, r, ())
def parseNode (leaf : Bool) (body : List Int) : Option NodeT :=
  if body.length < 1 then none else
  match parseA leaf (body.getD 0 0).toNat (body.drop 1) [] [] with
  | none => none
  | some (ks, vs, r) => if leaf = true then (if r.length = 0 then some (mkNode leaf ks vs []) else none) else some (mkNode leaf ks vs r)
def readNode (kind : Int) (body : List Int) : Int × NodeT × Unit :=
  if kind ≠ 1 ∧ kind ≠ 2 then (3, zNode, ()) else
  match parseNode (decide (kind = 1)) body with
  | none => (5, zNode, ())
  | some n => if nodeFault n = 0 then (0, n, ()) else (5, zNode, ())
theorem pair_back (a b : Int) (ha : 0 ≤ a ∧ a ≤ 255) (hb : 0 ≤ b ∧ b ≤ 255) : pairOf (a * 256 + b) = [a, b] := by
  have h1 : (a * 256 + b) / 256 % 256 = a := by omega
  have h2 : (a * 256 + b) % 256 = b := by omega
  simp [pairOf, h1, h2]
theorem getD_byte (l : List Int) (h : ∀ x ∈ l, 0 ≤ x ∧ x ≤ 255) (j : Nat) : 0 ≤ l.getD j 0 ∧ l.getD j 0 ≤ 255 := by
  rw [List.getD_eq_getElem?_getD]
  cases hj : l[j]? with
  | none => simp
  | some x => simpa using h x (List.mem_of_getElem? hj)
theorem two_of (l : List Int) (h : ¬ 2 > l.length) : l = l.getD 0 0 :: l.getD 1 0 :: l.drop 2 := by
  match l with
  | [] => simp at h
  | [_] => simp at h
  | a :: b :: l => simp
/-- What was read is what is packed. -/
theorem pack_parse (leaf : Bool) : ∀ (n : Nat) (xs : List Int) (ks0 : List (List Int)) (vs0 : List Int) (ks : List (List Int)) (vs r : List Int), (∀ x ∈ xs, 0 ≤ x ∧ x ≤ 255) → parseA leaf n xs ks0 vs0 = some (ks, vs, r) →
    ∃ ks1 vs1, ks = ks0 ++ ks1 ∧ vs = vs0 ++ vs1 ∧ packKeys leaf ks1 vs1 ++ r = xs ∧ ks1.length = n ∧ (leaf = true → vs1.length = n) ∧ (leaf = false → vs1 = []) ∧ (∀ x ∈ r, 0 ≤ x ∧ x ≤ 255)
  | 0, xs, ks0, vs0, ks, vs, r, hb, h => by
    simp only [parseA, Option.some.injEq, Prod.mk.injEq] at h
    obtain ⟨rfl, rfl, rfl⟩ := h
    exact ⟨[], [], by simp, by simp, by simp [packKeys], rfl, fun _ => rfl, fun _ => rfl, hb⟩
  | n + 1, xs, ks0, vs0, ks, vs, r, hb, h => by
    unfold parseA at h
    split at h
    · cases h
    rename_i h1
    split at h
    · cases h
    rename_i h2
    have hx : xs = xs.getD 0 0 :: xs.drop 1 := by
      cases xs with
      | nil => simp at h1
      | cons x l => simp
    have hk := getD_byte xs hb 0
    have hb1 : ∀ x ∈ xs.drop 1, 0 ≤ x ∧ x ≤ 255 := fun x hx => hb x (List.mem_of_mem_drop hx)
    have hb2 : ∀ x ∈ (xs.drop 1).drop (xs.getD 0 0).toNat, 0 ≤ x ∧ x ≤ 255 := fun x hx => hb1 x (List.mem_of_mem_drop hx)
    generalize hxs1 : xs.drop 1 = xs1 at *
    generalize hkk : xs.getD 0 0 = k at *
    have hlen : ((xs1.take k.toNat).length : Int) % 256 = k := by
      rw [List.length_take]; omega
    split at h
    · rename_i hleaf
      subst hleaf
      split at h
      · cases h
      rename_i h3
      obtain ⟨ks1, vs1, e1, e2, e3, e4, e5, e6, e7⟩ := pack_parse true n _ _ _ ks vs r (fun x hx => hb2 x (List.mem_of_mem_drop hx)) h
      have h4 := two_of _ h3
      have ha := getD_byte _ hb2 0
      have hc := getD_byte _ hb2 1
      generalize hxs2 : xs1.drop k.toNat = xs2 at *
      refine ⟨xs1.take k.toNat :: ks1, (xs2.getD 0 0 * 256 + xs2.getD 1 0) :: vs1, by simp [e1], by simp [e2], ?_, by simp [e4], fun _ => by simp [e5], fun hh => (by cases hh), e7⟩
      simp only [packKeys, if_true, List.getD_cons_zero, List.drop_succ_cons, List.drop_zero, List.cons_append, List.append_assoc, hlen, e3]
      rw [pair_back _ _ ha hc]
      have h5 : [xs2.getD 0 0, xs2.getD 1 0] ++ xs2.drop 2 = xs2 := by rw [List.cons_append, List.cons_append, List.nil_append]; exact h4.symm
      rw [h5, ← hxs2, List.take_append_drop, hx]
    · rename_i hleaf
      have hleaf : leaf = false := by simpa using hleaf
      subst hleaf
      obtain ⟨ks1, vs1, e1, e2, e3, e4, e5, e6, e7⟩ := pack_parse false n _ _ _ ks vs r hb2 h
      have e6 := e6 rfl
      subst e6
      refine ⟨xs1.take k.toNat :: ks1, [], by simp [e1], by simp [e2], ?_, by simp [e4], fun hh => (by cases hh), fun _ => rfl, e7⟩
      simp only [packKeys, Bool.false_eq_true, if_false, List.drop_nil, List.cons_append, List.append_assoc, hlen, List.nil_append, e3]
      rw [List.take_append_drop, hx]
theorem map_byte (l : List Int) (h : ∀ x ∈ l, 0 ≤ x ∧ x ≤ 255) : packKids l = l := by
  unfold packKids
  induction l with
  | nil => rfl
  | cons x l ih =>
    have := h x (by simp)
    rw [List.map_cons, ih (fun y hy => h y (by simp [hy])), show x % 256 = x by omega]
theorem nodeFault_kids (ks : List (List Int)) (vs r : List Int) (h : r.length ≠ ks.length + 1) : nodeFault (mkNode false ks vs r) ≠ 0 := by
  unfold nodeFault mkNode
  dsimp only
  split
  · omega
  split
  · omega
  split
  · omega
  simp only [Bool.false_eq_true, if_false]
  rw [if_pos (by omega)]
  omega
theorem nodeFault_many (leaf : Bool) (ks : List (List Int)) (vs r : List Int) (h : ks.length > 4) : nodeFault (mkNode leaf ks vs r) ≠ 0 := by
  unfold nodeFault mkNode
  dsimp only
  rw [if_pos (by omega)]
  omega
/-- A body's parts, and the body. -/
theorem parse_body (leaf : Bool) (body : List Int) (ks : List (List Int)) (vs r : List Int) (hb : ∀ x ∈ body, 0 ≤ x ∧ x ≤ 255) (h1 : ¬ body.length < 1) (h : parseA leaf (body.getD 0 0).toNat (body.drop 1) [] [] = some (ks, vs, r)) :
    packNode (mkNode leaf ks vs r) = body ∧ ks.length = (body.getD 0 0).toNat ∧ (leaf = true → vs.length = ks.length) ∧ (leaf = false → vs = []) := by
  obtain ⟨ks1, vs1, e1, e2, e3, e4, e5, e6, e7⟩ := pack_parse leaf _ _ _ _ ks vs r (fun x hx => hb x (List.mem_of_mem_drop hx)) h
  simp only [List.nil_append] at e1 e2
  subst e1
  subst e2
  have hk := getD_byte body hb 0
  refine ⟨?_, e4, fun hl => by rw [e5 hl, e4], e6⟩
  simp only [packNode, mkNode, map_byte r e7, e4, e3]
  have hx : body = body.getD 0 0 :: body.drop 1 := by
    cases body with
    | nil => simp at h1
    | cons x l => simp
  have : (((body.getD 0 0).toNat : Nat) : Int) % 256 = body.getD 0 0 := by omega
  rw [this, ← hx]
theorem parseA_len (leaf : Bool) : ∀ (n : Nat) (xs : List Int) (ks0 : List (List Int)) (vs0 : List Int) (ks : List (List Int)) (vs r : List Int), parseA leaf n xs ks0 vs0 = some (ks, vs, r) → ks.length = ks0.length + n ∧ r.length ≤ xs.length
  | 0, xs, ks0, vs0, ks, vs, r, h => by
    simp only [parseA, Option.some.injEq, Prod.mk.injEq] at h
    obtain ⟨rfl, rfl, rfl⟩ := h
    exact ⟨rfl, Nat.le_refl _⟩
  | n + 1, xs, ks0, vs0, ks, vs, r, h => by
    unfold parseA at h
    split at h
    · cases h
    split at h
    · cases h
    split at h
    · split at h
      · cases h
      have := parseA_len leaf n _ _ _ ks vs r h
      simp at this ⊢
      omega
    · have := parseA_len leaf n _ _ _ ks vs r h
      simp at this ⊢
      omega
theorem parseA_step (leaf : Bool) (n : Nat) (xs : List Int) (ks : List (List Int)) (vs : List Int) (h : 0 < n) : parseA leaf n xs ks vs =
    if xs.length < 1 then none else if xs.getD 0 0 > (xs.drop 1).length then none
    else if leaf = true then (if 2 > ((xs.drop 1).drop (xs.getD 0 0).toNat).length then none
      else parseA leaf (n - 1) (((xs.drop 1).drop (xs.getD 0 0).toNat).drop 2) (ks ++ [(xs.drop 1).take (xs.getD 0 0).toNat]) (vs ++ [((xs.drop 1).drop (xs.getD 0 0).toNat).getD 0 0 * 256 + ((xs.drop 1).drop (xs.getD 0 0).toNat).getD 1 0]))
    else parseA leaf (n - 1) ((xs.drop 1).drop (xs.getD 0 0).toNat) (ks ++ [(xs.drop 1).take (xs.getD 0 0).toNat]) vs := by
  cases n with
  | zero => omega
  | succ n => rfl
theorem parseA_zero (leaf : Bool) (xs : List Int) (ks : List (List Int)) (vs : List Int) : parseA leaf 0 xs ks vs = some (ks, vs, xs) := rfl
theorem rdNext_cases (xs : List Int) (fl : Bool) (n : Int) (x1 : List Int) (f1 : Bool) (h : rdNext (xs, fl, ()) n = (x1, f1, ())) : (fl = true ∨ n > xs.length) ∧ x1 = xs ∧ f1 = true ∨ fl = false ∧ n ≤ xs.length ∧ x1 = xs.drop n.toNat ∧ f1 = false := by
  unfold rdNext rdBad at h
  split at h
  · rename_i hc
    simp only [Prod.mk.injEq] at h
    obtain ⟨rfl, rfl, _⟩ := h
    left
    simpa [Bool.or_eq_true] using hc
  · rename_i hc
    simp only [Prod.mk.injEq] at h
    obtain ⟨rfl, rfl, _⟩ := h
    right
    simp only [Bool.or_eq_true, decide_eq_true_eq, not_or, Bool.not_eq_true] at hc
    exact ⟨hc.1, by omega, rfl, rfl⟩
theorem rdTake_good (xs : List Int) (n : Int) (h : n ≤ xs.length) : rdTake (xs, false, ()) n = xs.take n.toNat := by
  unfold rdTake rdBad
  rw [if_neg (by simp; omega)]
theorem rdOne_good (xs : List Int) (h : 1 ≤ (xs.length : Int)) : rdOne (xs, false, ()) = xs.getD 0 0 := by
  unfold rdOne
  rw [rdTake_good xs 1 h]
  cases xs <;> simp
theorem rdPair_good (xs : List Int) (h : 2 ≤ (xs.length : Int)) : rdPair (xs, false, ()) = xs.getD 0 0 * 256 + xs.getD 1 0 := by
  unfold rdPair
  rw [rdTake_good xs 2 h]
  match xs, h with
  | a :: b :: l, _ => simp
  | [a], h => simp at h
  | [], h => simp at h
theorem rdOne_byte (xs : List Int) (fl : Bool) (h : ∀ x ∈ xs, 0 ≤ x ∧ x ≤ 255) : 0 ≤ rdOne (xs, fl, ()) ∧ rdOne (xs, fl, ()) ≤ 255 := rdTake_at _ 1 0 h
theorem byte_drop (l : List Int) (n : Nat) (h : ∀ x ∈ l, 0 ≤ x ∧ x ≤ 255) : ∀ x ∈ l.drop n, 0 ≤ x ∧ x ≤ 255 := fun x hx => h x (List.mem_of_mem_drop hx)
theorem readNode_good (kind : Int) (body : List Int) (ks : List (List Int)) (vs xr : List Int) (hk : kind = 1 ∨ kind = 2) (hb : ¬ body.length < 1) (hp : parseA (decide (kind = 1)) (body.getD 0 0).toNat (body.drop 1) [] [] = some (ks, vs, xr)) :
    readNode kind body = if kind = 1 then (if xr.length = 0 then (if nodeFault (true, ks, vs, [], ()) = 0 then (0, (true, ks, vs, [], ()), ()) else (5, zNode, ())) else (5, zNode, ())) else
      if nodeFault (false, ks, vs, xr, ()) = 0 then (0, (false, ks, vs, xr, ()), ()) else (5, zNode, ()) := by
  unfold readNode parseNode
  rw [if_neg (by omega), if_neg hb, hp]
  rcases hk with rfl | rfl
  · by_cases hx : xr.length = 0 <;> simp [hx, mkNode]
  · simp [mkNode]
theorem readNode_none (kind : Int) (body : List Int) (hk : kind = 1 ∨ kind = 2) (hp : body.length < 1 ∨ parseA (decide (kind = 1)) (body.getD 0 0).toNat (body.drop 1) [] [] = none) : readNode kind body = (5, zNode, ()) := by
  unfold readNode parseNode
  rw [if_neg (by omega)]
  rcases hp with hp | hp
  · rw [if_pos hp]
  · rw [hp]; split <;> simp_all
theorem readNode_bad (kind : Int) (body : List Int) (hk : ¬ (kind = 1 ∨ kind = 2)) : readNode kind body = (3, zNode, ()) := by
  unfold readNode
  rw [if_pos (by omega)]
theorem readNode_short (kind : Int) (body : List Int) (ks : List (List Int)) (vs xr : List Int) (hk : kind = 2) (hby : ∀ x ∈ body, 0 ≤ x ∧ x ≤ 255) (hb : ¬ body.length < 1) (hp : parseA (decide (kind = 1)) (body.getD 0 0).toNat (body.drop 1) [] [] = some (ks, vs, xr)) (hl : (xr.length : Int) ≠ body.getD 0 0 + 1) :
    readNode kind body = (5, zNode, ()) := by
  have h0 := getD_byte body hby 0
  have := nodeFault_kids ks vs xr (by have := (parseA_len _ _ _ _ _ _ _ _ hp).1; rw [List.length_nil] at this; omega)
  rw [readNode_good kind body ks vs xr (.inr hk) hb hp, if_neg (by omega)]
  rw [if_neg (by simpa [mkNode] using this)]
theorem parse_pack (kind : Int) (body : List Int) (ks : List (List Int)) (vs xr : List Int) (hby : ∀ x ∈ body, 0 ≤ x ∧ x ≤ 255) (hb : ¬ body.length < 1) (hp : parseA (decide (kind = 1)) (body.getD 0 0).toNat (body.drop 1) [] [] = some (ks, vs, xr)) : packNode (decide (kind = 1), ks, vs, xr, ()) = body :=
  (parse_body _ body ks vs xr hby hb hp).1
theorem rn_round (leaf : Bool) (n : Nat) (x : List Int) (f : Bool) (ks : List (List Int)) (vs x1 : List Int) (f1 : Bool) (x2 : List Int) (f2 : Bool) (x3 : List Int) (f3 : Bool) (hb : ∀ y ∈ x, 0 ≤ y ∧ y ≤ 255) (hf : f = false) (hn : 0 < n)
    (g1 : rdNext (x, f, ()) 1 = (x1, f1, ())) (g2 : rdNext (x1, f1, ()) (rdOne (x, f, ())) = (x2, f2, ())) (g3 : rdNext (x2, f2, ()) 2 = (x3, f3, ())) :
    (∀ y ∈ x2, 0 ≤ y ∧ y ≤ 255) ∧ (∀ y ∈ x3, 0 ≤ y ∧ y ≤ 255) ∧
    (leaf = false → (f2 = true → parseA leaf n x ks vs = none) ∧ (f2 = false → parseA leaf n x ks vs = parseA leaf (n - 1) x2 (ks ++ [rdTake (x1, f1, ()) (rdOne (x, f, ()))]) vs)) ∧
    (leaf = true → (f3 = true → parseA leaf n x ks vs = none) ∧ (f3 = false → parseA leaf n x ks vs = parseA leaf (n - 1) x3 (ks ++ [rdTake (x1, f1, ()) (rdOne (x, f, ()))]) (vs ++ [rdPair (x2, f2, ())]))) := by
  subst hf
  have st := parseA_step leaf n x ks vs hn
  have ho := rdOne_byte x false hb
  rcases rdNext_cases _ _ _ _ _ g1 with ⟨h1, rfl, rfl⟩ | ⟨_, h1, rfl, rfl⟩
  · have h1 : x1.length < 1 := by have := h1.resolve_left (by simp); omega
    rcases rdNext_cases _ _ _ _ _ g2 with ⟨h2, rfl, rfl⟩ | ⟨hh, _⟩
    · rcases rdNext_cases _ _ _ _ _ g3 with ⟨h3, rfl, rfl⟩ | ⟨hh, _⟩
      · rw [if_pos h1] at st
        exact ⟨hb, hb, fun _ => ⟨fun _ => st, fun h => (by cases h)⟩, fun _ => ⟨fun _ => st, fun h => (by cases h)⟩⟩
      · cases hh
    · cases hh
  · have h1' : ¬ x.length < 1 := by omega
    rw [if_neg h1'] at st
    have e1 := rdOne_good x h1
    rw [e1] at g2 ho ⊢
    have ht : (1 : Int).toNat = 1 := rfl
    rw [ht] at g2 ⊢
    rcases rdNext_cases _ _ _ _ _ g2 with ⟨h2, rfl, rfl⟩ | ⟨_, h2, rfl, rfl⟩
    · have h2 : x.getD 0 0 > (x.drop 1).length := h2.resolve_left (by simp)
      rw [if_pos h2] at st
      rcases rdNext_cases _ _ _ _ _ g3 with ⟨h3, rfl, rfl⟩ | ⟨hh, _⟩
      · exact ⟨byte_drop _ _ hb, byte_drop _ _ hb, fun _ => ⟨fun _ => st, fun h => (by cases h)⟩, fun _ => ⟨fun _ => st, fun h => (by cases h)⟩⟩
      · cases hh
    · have h2' : ¬ x.getD 0 0 > (x.drop 1).length := by omega
      rw [if_neg h2'] at st
      have e2 := rdTake_good (x.drop 1) (x.getD 0 0) h2
      rw [e2]
      have hb2 := byte_drop (x.drop 1) (x.getD 0 0).toNat (byte_drop _ 1 hb)
      rcases rdNext_cases _ _ _ _ _ g3 with ⟨h3, rfl, rfl⟩ | ⟨_, h3, rfl, rfl⟩
      · refine ⟨hb2, hb2, fun hl => ⟨fun h => (by cases h), fun _ => ?_⟩, fun hl => ⟨fun _ => ?_, fun h => (by cases h)⟩⟩
        · rw [if_neg (by simp [hl])] at st; exact st
        · have h3 : 2 > ((x.drop 1).drop (x.getD 0 0).toNat).length := by have := h3.resolve_left (by simp); omega
          rw [if_pos hl, if_pos h3] at st; exact st
      · refine ⟨hb2, byte_drop _ _ hb2, fun hl => ⟨fun h => (by cases h), fun _ => ?_⟩, fun hl => ⟨fun h => (by cases h), fun _ => ?_⟩⟩
        · rw [if_neg (by simp [hl])] at st; exact st
        · have h3' : ¬ 2 > ((x.drop 1).drop (x.getD 0 0).toNat).length := by omega
          rw [if_pos hl, if_neg h3'] at st
          rw [rdPair_good _ h3]
          exact st
theorem kid_round (xr x kd : List Int) (f : Bool) (j : Int) (x1 : List Int) (f1 : Bool) (hf : f = false) (h0 : 0 ≤ j) (hk : kd = xr.take j.toNat) (hx : x = xr.drop j.toNat) (hj : j ≤ xr.length) (g1 : rdNext (x, f, ()) 1 = (x1, f1, ())) :
    (f1 = true → (xr.length : Int) = j) ∧ (f1 = false → kd ++ [rdOne (x, f, ())] = xr.take (j + 1).toNat ∧ x1 = xr.drop (j + 1).toNat ∧ j + 1 ≤ xr.length) := by
  subst hf
  have hs : (j + 1).toNat = j.toNat + 1 := by omega
  rcases rdNext_cases _ _ _ _ _ g1 with ⟨h1, rfl, rfl⟩ | ⟨_, h1, rfl, rfl⟩
  · refine ⟨fun _ => ?_, fun h => (by cases h)⟩
    have h1 : (x1.length : Int) < 1 := by have := h1.resolve_left (by simp); omega
    rw [hx, List.length_drop] at h1
    omega
  · refine ⟨fun h => (by cases h), fun _ => ?_⟩
    have hlt : j.toNat < xr.length := by rw [hx, List.length_drop] at h1; omega
    rw [rdOne_good x h1, hs, hx, hk]
    refine ⟨?_, ?_, by omega⟩
    · rw [List.take_add_one, List.getElem?_eq_getElem hlt]
      simp [List.getD_eq_getElem?_getD, hlt]
    · rw [List.drop_drop]; rfl
theorem rn_end (kind : Int) (body : List Int) (ks : List (List Int)) (vs xr x kd : List Int) (f lf : Bool) (j m : Int) (hk : kind = 1 ∨ kind = 2) (hby : ∀ x ∈ body, 0 ≤ x ∧ x ≤ 255) (hlf : lf = decide (kind = 1)) (hf : f = true → readNode kind body = (5, zNode, ()))
    (hg : f = false → ¬ body.length < 1 ∧ m = body.getD 0 0 + 1 ∧ parseA (decide (kind = 1)) (body.getD 0 0).toNat (body.drop 1) [] [] = some (ks, vs, xr) ∧ (lf = true → x = xr ∧ kd = []) ∧ (lf = false → kd = xr.take j.toNat ∧ x = xr.drop j.toNat ∧ j ≤ xr.length))
    (hend : lf = true ∨ f = true ∨ m ≤ j) (hj : j ≤ m) (h0 : 0 ≤ j) :
    (f = true ∨ x.length ≠ 0 → readNode kind body = (5, zNode, ())) ∧ (f = false → x.length = 0 → nodeFault (lf, ks, vs, kd, ()) ≠ 0 → readNode kind body = (5, zNode, ())) ∧
    (f = false → x.length = 0 → nodeFault (lf, ks, vs, kd, ()) = 0 → packNode (lf, ks, vs, kd, ()) = body ∧ readNode kind body = (0, (lf, ks, vs, kd, ()), ())) := by
  cases f with
  | true => exact ⟨fun _ => hf rfl, fun h => (by cases h), fun h => (by cases h)⟩
  | false =>
    obtain ⟨g1, g2, g3, g4, g5⟩ := hg rfl
    have hgood := readNode_good kind body ks vs xr hk g1 g3
    have hpack := parse_pack kind body ks vs xr hby g1 g3
    rcases hk with rfl | rfl
    · have hl : lf = true := by simp [hlf]
      subst hl
      obtain ⟨rfl, rfl⟩ := g4 rfl
      rw [if_pos rfl] at hgood
      by_cases hx : x.length = 0
      · have hx0 : x = [] := List.eq_nil_of_length_eq_zero hx
        subst hx0
        rw [if_pos (show ([] : List Int).length = 0 from rfl)] at hgood
        refine ⟨fun h => by simp at h, fun _ _ h => by rw [if_neg h] at hgood; exact hgood, fun _ _ h => by rw [if_pos h] at hgood; exact ⟨hpack, hgood⟩⟩
      · rw [if_neg hx] at hgood
        exact ⟨fun _ => hgood, fun _ h => absurd h hx, fun _ h => absurd h hx⟩
    · have hl : lf = false := by simp [hlf]
      subst hl
      obtain ⟨rfl, rfl, g6⟩ := g5 rfl
      rw [if_neg (by omega)] at hgood
      have hjm : j = m := by simp at hend; omega
      by_cases hx : (xr.drop j.toNat).length = 0
      · have hle : (xr.length : Int) = m := by rw [List.length_drop] at hx; omega
        have htk : xr.take j.toNat = xr := List.take_of_length_le (by omega)
        rw [htk]
        refine ⟨fun h => absurd hx (h.resolve_left (by simp)), fun _ _ h => by rw [if_neg h] at hgood; exact hgood, fun _ _ h => by rw [if_pos h] at hgood; exact ⟨by simpa using hpack, hgood⟩⟩
      · have := readNode_short 2 body ks vs xr rfl hby g1 g3 (by rw [List.length_drop] at hx; omega)
        exact ⟨fun _ => this, fun _ h => absurd h hx, fun _ h => absurd h hx⟩
def xrOf (kind : Int) (body : List Int) : List Int := match parseA (decide (kind = 1)) (body.getD 0 0).toNat (body.drop 1) [] [] with | some (_, _, r) => r | none => []
theorem xrOf_eq (kind : Int) (body : List Int) (ks : List (List Int)) (vs x : List Int) (h : parseA (decide (kind = 1)) (body.getD 0 0).toNat (body.drop 1) [] [] = some (ks, vs, x)) : xrOf kind body = x := by
  unfold xrOf; rw [h]
def parse15 (leaf : Bool) (body : List Int) : NodeT × Bool :=
  if body.length < 1 ∨ body.getD 0 0 > 4 then (zNode, false) else
  match parseA leaf (body.getD 0 0).toNat (body.drop 1) [] [] with
  | none => (zNode, false)
  | some (ks, vs, r) => (mkNode leaf ks vs (if leaf = true then [] else r.take 5), decide ((if leaf = true then r else r.drop 5).length = 0) && decide (nodeFault (mkNode leaf ks vs (if leaf = true then [] else r.take 5)) = 0))
theorem p15_none (leaf : Bool) (body : List Int) (h : body.length < 1 ∨ body.getD 0 0 > 4 ∨ parseA leaf (body.getD 0 0).toNat (body.drop 1) [] [] = none) : parse15 leaf body = (zNode, false) := by
  unfold parse15
  split
  · rfl
  · rcases h with h | h | h
    · omega
    · omega
    · rw [h]
theorem p15_some (leaf : Bool) (body : List Int) (ks : List (List Int)) (vs r : List Int) (h1 : ¬ (body.length < 1 ∨ body.getD 0 0 > 4)) (h : parseA leaf (body.getD 0 0).toNat (body.drop 1) [] [] = some (ks, vs, r)) :
    parse15 leaf body = ((leaf, ks, vs, (if leaf = true then [] else r.take 5), ()), decide ((if leaf = true then r else r.drop 5).length = 0) && decide (nodeFault (leaf, ks, vs, (if leaf = true then [] else r.take 5), ()) = 0)) := by
  unfold parse15
  rw [if_neg h1, h]
  rfl
theorem readNode_15 (kind : Int) (body : List Int) (hb : ∀ x ∈ body, 0 ≤ x ∧ x ≤ 255) : readNode kind body = if kind ≠ 1 ∧ kind ≠ 2 then (3, zNode, ()) else if (parse15 (decide (kind = 1)) body).2 = true then (0, (parse15 (decide (kind = 1)) body).1, ()) else (5, zNode, ()) := by
  by_cases hk : kind = 1 ∨ kind = 2
  · rw [if_neg (by omega)]
    by_cases h1 : body.length < 1
    · rw [p15_none _ _ (.inl h1), readNode_none kind body hk (.inl h1)]; simp
    · have h0 := getD_byte body hb 0
      cases hp : parseA (decide (kind = 1)) (body.getD 0 0).toNat (body.drop 1) [] [] with
      | none => rw [p15_none _ _ (.inr (.inr hp)), readNode_none kind body hk (.inr hp)]; simp
      | some q =>
        obtain ⟨ks, vs, r⟩ := q
        have hl := (parseA_len _ _ _ _ _ _ _ _ hp).1
        rw [List.length_nil, Nat.zero_add] at hl
        have hg := readNode_good kind body ks vs r hk h1 hp
        by_cases h4 : body.getD 0 0 > 4
        · rw [p15_none _ _ (.inr (.inl h4))]
          have hm := fun leaf vs r => nodeFault_many leaf ks vs r (by omega)
          simp only [mkNode] at hm
          have h6 : readNode kind body = (5, zNode, ()) := by
            rw [hg]
            split
            · split
              · exact if_neg (hm _ _ _)
              · rfl
            · exact if_neg (hm _ _ _)
          rw [h6]; simp
        · have hs := p15_some _ body ks vs r (by omega) hp
          rw [hs, hg]
          rcases hk with rfl | rfl
          · by_cases hx : r.length = 0
            · by_cases hf : nodeFault (true, ks, vs, [], ()) = 0 <;> simp [hx, hf]
            · simp [hx]
          · by_cases h5 : r.length ≤ 5
            · have e1 : r.take 5 = r := List.take_of_length_le h5
              have e2 : r.length - 5 = 0 := by omega
              by_cases hf : nodeFault (false, ks, vs, r, ()) = 0 <;> simp [e1, e2, hf]
            · have e2 : ¬ r.length - 5 = 0 := by omega
              have := nodeFault_kids ks vs r (by omega)
              simp only [mkNode] at this
              simp [e2, this]
  · rw [if_pos (by omega), readNode_bad kind body hk]
theorem sp_round (leaf : Bool) (n : Nat) (body : List Int) (k more : Int) (ks : List (List Int)) (vs : List Int) (hb : ∀ x ∈ body, 0 ≤ x ∧ x ≤ 255) (hn : 0 < n) (h1 : 1 ≤ k) (hm : more = if leaf = true then 2 else 0) :
    (k ≥ body.length → parseA leaf n (body.drop k.toNat) ks vs = none) ∧
    (k < body.length → k + 1 + body.getD k.toNat 0 + more > body.length → parseA leaf n (body.drop k.toNat) ks vs = none) ∧
    (k < body.length → k + 1 + body.getD k.toNat 0 + more ≤ body.length → leaf = true → parseA leaf n (body.drop k.toNat) ks vs =
      parseA leaf (n - 1) (body.drop (k + 1 + body.getD k.toNat 0 + more).toNat) (ks ++ [List.take ((k + 1 + body.getD k.toNat 0).toNat - (k + 1).toNat) (body.drop (k + 1).toNat)]) (vs ++ [body.getD (k + 1 + body.getD k.toNat 0).toNat 0 * 256 + body.getD (k + 1 + body.getD k.toNat 0 + 1).toNat 0])) ∧
    (k < body.length → k + 1 + body.getD k.toNat 0 + more ≤ body.length → leaf = false → parseA leaf n (body.drop k.toNat) ks vs =
      parseA leaf (n - 1) (body.drop (k + 1 + body.getD k.toNat 0 + more).toNat) (ks ++ [List.take ((k + 1 + body.getD k.toNat 0).toNat - (k + 1).toNat) (body.drop (k + 1).toNat)]) vs) := by
  have st := parseA_step leaf n (body.drop k.toNat) ks vs hn
  have h0 := getD_byte body hb k.toNat
  have e0 : (body.drop k.toNat).getD 0 0 = body.getD k.toNat 0 := by simp [List.getD_eq_getElem?_getD]
  rw [e0] at st
  have e1 : (body.drop k.toNat).drop 1 = body.drop (k + 1).toNat := by rw [List.drop_drop]; congr 1; omega
  rw [e1] at st
  have e2 : (body.drop (k + 1).toNat).drop (body.getD k.toNat 0).toNat = body.drop (k + 1 + body.getD k.toNat 0).toNat := by rw [List.drop_drop]; congr 1; omega
  rw [e2] at st
  have e3 : (body.drop (k + 1 + body.getD k.toNat 0).toNat).getD 0 0 = body.getD (k + 1 + body.getD k.toNat 0).toNat 0 := by simp [List.getD_eq_getElem?_getD]
  have e4 : (body.drop (k + 1 + body.getD k.toNat 0).toNat).getD 1 0 = body.getD (k + 1 + body.getD k.toNat 0 + 1).toNat 0 := by
    have : (k + 1 + body.getD k.toNat 0 + 1).toNat = (k + 1 + body.getD k.toNat 0).toNat + 1 := by omega
    rw [this]
    simp [List.getD_eq_getElem?_getD]
  rw [e3, e4] at st
  have e5 : (k + 1 + body.getD k.toNat 0).toNat - (k + 1).toNat = (body.getD k.toNat 0).toNat := by omega
  rw [e5]
  refine ⟨fun h => ?_, fun h g => ?_, fun h g hl => ?_, fun h g hl => ?_⟩
  · rw [st, if_pos (by rw [List.length_drop]; omega)]
  · rw [st, if_neg (by rw [List.length_drop]; omega)]
    by_cases h6 : body.getD k.toNat 0 > (body.drop (k + 1).toNat).length
    · rw [if_pos h6]
    · rw [if_neg h6]
      rw [List.length_drop] at h6
      cases leaf with
      | true => rw [if_pos rfl, if_pos (by rw [List.length_drop]; simp at hm; omega)]
      | false => simp at hm; omega
  · subst hl
    have hm : more = 2 := by simpa using hm
    subst hm
    rw [st, if_neg (by rw [List.length_drop]; omega), if_neg (by rw [List.length_drop]; omega), if_pos rfl, if_neg (by rw [List.length_drop]; omega), List.drop_drop]
    congr 2
    omega
  · subst hl
    have hm : more = 0 := by simpa using hm
    subst hm
    rw [st, if_neg (by rw [List.length_drop]; omega), if_neg (by rw [List.length_drop]; omega), if_neg (by simp), Int.add_zero]
def rest15 (leaf : Bool) (body : List Int) : List Int := match parseA leaf (body.getD 0 0).toNat (body.drop 1) [] [] with | some (_, _, r) => r | none => []
theorem rest15_eq (leaf : Bool) (body : List Int) (ks : List (List Int)) (vs x : List Int) (h : parseA leaf (body.getD 0 0).toNat (body.drop 1) [] [] = some (ks, vs, x)) : rest15 leaf body = x := by
  unfold rest15; rw [h]
theorem p15_leaf (body : List Int) (ks : List (List Int)) (vs : List Int) (k : Int) (h1 : ¬ (body.length < 1 ∨ body.getD 0 0 > 4)) (hk : 0 ≤ k ∧ k ≤ body.length) (h : parseA true (body.getD 0 0).toNat (body.drop 1) [] [] = some (ks, vs, body.drop k.toNat)) :
    parse15 true body = ((true, ks, vs, [], ()), decide (k = body.length) && decide (nodeFault (true, ks, vs, [], ()) = 0)) := by
  have : decide (List.length (body.drop k.toNat) = 0) = decide (k = body.length) := by
    rw [Bool.eq_iff_iff]; simp; omega
  rw [p15_some _ _ _ _ _ h1 h]
  simp only [if_true, this]
theorem kid15 (r : List Int) (body kd : List Int) (k : Int) (h0 : 0 ≤ k) (h1 : kd = r.take kd.length) (h2 : body.drop k.toNat = r.drop kd.length) (hk : k < body.length) : kd ++ [body.getD k.toNat 0] = r.take (kd.length + 1) ∧ body.drop (k + 1).toNat = r.drop (kd.length + 1) := by
  have hl : kd.length < r.length := by
    have := congrArg List.length h2
    simp at this
    omega
  have hs : (k + 1).toNat = k.toNat + 1 := by omega
  constructor
  · have e : body.getD k.toNat 0 = r.getD kd.length 0 := by
      have := congrArg (fun l => l.getD 0 0) h2
      simpa [List.getD_eq_getElem?_getD] using this
    have e2 : r.take (kd.length + 1) = r.take kd.length ++ [r.getD kd.length 0] := by
      rw [List.take_add_one, List.getElem?_eq_getElem hl]; simp [List.getD_eq_getElem?_getD, hl]
    rw [e2, e, ← h1]
  · rw [hs, ← List.drop_drop, h2, List.drop_drop]
theorem p15_inner (body : List Int) (ks : List (List Int)) (vs kd : List Int) (k : Int) (h1 : ¬ (body.length < 1 ∨ body.getD 0 0 > 4)) (hk : 0 ≤ k ∧ k ≤ body.length) (h : parseA false (body.getD 0 0).toNat (body.drop 1) [] [] = some (ks, vs, rest15 false body)) (hkd : kd.length ≤ 5)
    (g1 : kd = (rest15 false body).take kd.length) (g2 : body.drop k.toNat = (rest15 false body).drop kd.length) (hend : k ≥ body.length ∨ kd.length > 4) :
    parse15 false body = ((false, ks, vs, kd, ()), decide (k = body.length) && decide (nodeFault (false, ks, vs, kd, ()) = 0)) := by
  rw [p15_some _ _ _ _ _ h1 h]
  generalize rest15 false body = r at *
  have hlen := congrArg List.length g2
  have hlen1 := congrArg List.length g1
  simp only [List.length_drop, List.length_take] at hlen hlen1
  have e1 : r.take 5 = kd := by
    by_cases h5 : kd.length = 5
    · rw [h5] at g1; exact g1.symm
    · have : r.length = kd.length := by omega
      rw [List.take_of_length_le (by omega)]
      rw [← this, List.take_length] at g1
      exact g1.symm
  have e2 : decide ((r.drop 5).length = 0) = decide (k = body.length) := by
    rw [Bool.eq_iff_iff]; simp; omega
  simp only [Bool.false_eq_true, if_false, e1, e2]
theorem nodeFault_vals (p : NodeT) (h : nodeFault p = 0) : p.2.2.1.length ≤ 4 := by
  obtain ⟨k1, k2, k3, k4, k5⟩ := nodeFault_ok p h
  cases hp : p.1 with
  | true => rw [k3 hp]; exact k1
  | false =>
    unfold nodeFault at h
    rw [hp] at h
    split at h
    · cases h
    split at h
    · cases h
    split at h
    · cases h
    simp only [Bool.false_eq_true, if_false] at h
    split at h
    · cases h
    · omega
theorem cnt_keys : ∀ (ks : List (List Int)), (∀ i, i < ks.length → (ks.getD i []).length ≤ 16) → cnt false (.sl (.sl (.int .u8))) ks ≤ 16 * ks.length
  | [], _ => by simp [cnt, cntL]
  | k :: ks, h => by
    have h0 : k.length ≤ 16 := h 0 (by simp)
    have ih := cnt_keys ks (fun i hi => h (i + 1) (by simpa using hi))
    have e : cnt false (.sl (.sl (.int .u8))) (k :: ks) = cnt true (.sl (.int .u8)) k + cnt false (.sl (.sl (.int .u8))) ks := rfl
    rw [e, cnt_int, List.length_cons]
    omega
theorem node_cnt (p : NodeT) (h : nodeFault p = 0) : cnt false (.sl (.sl (.int .u8))) p.2.1 ≤ 64 ∧ p.2.2.1.length ≤ 4 ∧ p.2.2.2.1.length ≤ 5 := by
  obtain ⟨k1, k2, k3, k4, k5⟩ := nodeFault_ok p h
  have := cnt_keys p.2.1 k2
  exact ⟨by omega, nodeFault_vals p h, k5⟩
theorem readNode_cnt (kind : Int) (body : List Int) : cnt false (.sl (.sl (.int .u8))) (readNode kind body).2.1.2.1 ≤ 64 ∧ (readNode kind body).2.1.2.2.1.length ≤ 4 ∧ (readNode kind body).2.1.2.2.2.1.length ≤ 5 := by
  have hz : cnt false (.sl (.sl (.int .u8))) ([] : List (List Int)) ≤ 64 := by simp [cnt, cntL]
  unfold readNode
  split
  · exact ⟨hz, by simp, by simp⟩
  · split
    · exact ⟨hz, by simp, by simp⟩
    · split
      · rename_i h; exact node_cnt _ h
      · exact ⟨hz, by simp, by simp⟩
end Go.Vee
