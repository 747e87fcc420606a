/-
  Contracts of functions of the program: what each returns for all arguments that its precondition lets in.
-/
import Derived.Test.YtkbnbjdkdlooiaaGreatDoorVK9
set_option linter.unusedSimpArgs false
set_option linter.unusedVariables false
set_option maxRecDepth 100000
set_option maxHeartbeats 4000000
set_option synthInstance.maxHeartbeats 4000000
set_option synthInstance.maxSize 20000000
namespace Go.Vee
open Go
def seenK {α β : Type} [DecidableEq β] (f : α → β) (d : α) (l : List α) (i j : Nat) : Bool := (l.take j).any (fun x => decide (f (l.getD i d) = f x))
def dupK {α β : Type} [DecidableEq β] (f : α → β) (d : α) (l : List α) : Nat → Bool
  | 0 => false
  | i + 1 => dupK f d l i || seenK f d l i i
section
variable {α β : Type} [DecidableEq β] (f : α → β) (d : α) (l : List α)
theorem seenK_succ (i j : Nat) (h : j < l.length) : seenK f d l i (j + 1) = (seenK f d l i j || decide (f (l.getD i d) = f (l.getD j d))) := by
  unfold seenK
  have e : l.getD j d = l[j] := by simp [List.getD_eq_getElem?_getD, h]
  rw [List.take_add_one, List.getElem?_eq_getElem h, e]
  simp only [Option.toList_some, List.any_append, List.any_cons, List.any_nil, Bool.or_false]
theorem dupK_mono (i j : Nat) (h : i ≤ j) (hd : dupK f d l i = true) : dupK f d l j = true := by
  induction j with
  | zero => rwa [show i = 0 by omega] at hd
  | succ j ih =>
    by_cases e : i = j + 1
    · rwa [e] at hd
    · simp [dupK, ih (by omega)]
theorem seenK_mono (i j k : Nat) (h : j ≤ k) (hd : seenK f d l i j = true) : seenK f d l i k = true := by
  unfold seenK at *
  rw [List.any_eq_true] at *
  obtain ⟨x, hx, hp⟩ := hd
  exact ⟨x, (List.take_subset_take_left l h) hx, hp⟩
theorem dupK_hit (i j : Nat) (hi : i < l.length) (hj : j < i) (h : f (l.getD i d) = f (l.getD j d)) : dupK f d l l.length = true := by
  refine dupK_mono f d l (i + 1) _ (by omega) ?_
  have h1 := seenK_succ f d l i j (by omega)
  have h2 := seenK_mono f d l i (j + 1) i (by omega) (by rw [h1]; simp only [h, decide_true, Bool.or_true])
  simp [dupK, h2]
theorem findK_spec (s : β) : ∀ (k : Nat) (r : List α), findG (fun x => decide (f x = s)) r k = -1 ∨ ∃ j, j < r.length ∧ findG (fun x => decide (f x = s)) r k = (k + j : Nat) ∧ f (r.getD j d) = s ∧ (r.take j).any (fun x => decide (s = f x)) = false
  | k, [] => .inl rfl
  | k, x :: r => by
    by_cases hx : f x = s
    · refine .inr ⟨0, by simp, ?_, by simpa using hx, rfl⟩
      simp [findG, hx]
    · rcases findK_spec s (k + 1) r with h | ⟨j, h1, h2, h3, h4⟩
      · left
        have : findG (fun x => decide (f x = s)) (x :: r) k = findG (fun x => decide (f x = s)) r (k + 1 : Nat) := by simp [findG, hx]
        rw [this, h]
      · right
        refine ⟨j + 1, by simp; omega, ?_, by simpa using h3, ?_⟩
        · have : findG (fun x => decide (f x = s)) (x :: r) k = findG (fun x => decide (f x = s)) r (k + 1 : Nat) := by simp [findG, hx]
          rw [this, h2]; congr 1; omega
        · simp only [List.take_succ_cons, List.any_cons, h4, Bool.or_false, decide_eq_false_iff_not]
          exact fun e => hx e.symm
theorem findK_seen (i : Nat) (hi : i < l.length) : (decide (findG (fun x => decide (f x = f (l.getD i d))) l 0 = (i : Int))) = !seenK f d l i i := by
  have ha := findG_any (fun x : α => decide (f x = f (l.getD i d))) l 0 (by omega)
  have hb : l.any (fun x : α => decide (f x = f (l.getD i d))) = true := by
    rw [List.any_eq_true]; exact ⟨_, getD_mem l d i hi, by simp⟩
  rw [hb] at ha
  rcases findK_spec f d (f (l.getD i d)) 0 l with h | ⟨j, h1, h2, h3, h4⟩
  · rw [show ((0 : Nat) : Int) = 0 from rfl] at h
    rw [h] at ha
    simp at ha
  · rw [show ((0 : Nat) : Int) = 0 from rfl] at h2
    rw [h2]
    by_cases e : j = i
    · subst e
      have : seenK f d l j j = false := h4
      rw [this]; simp
    · by_cases hlt : j < i
      · have s1 := seenK_succ f d l i j (by omega)
        have s2 := seenK_mono f d l i (j + 1) i (by omega) (by rw [s1]; simp only [h3, decide_true, Bool.or_true])
        rw [s2]
        simp; omega
      · exfalso
        have : (l.getD i d) ∈ l.take j := by
          rw [List.mem_take_iff_getElem]
          exact ⟨i, by omega, by simp [List.getD_eq_getElem?_getD, hi]⟩
        have h5 := List.any_eq_false.1 h4 _ this
        simp at h5
theorem dupK_seen (i : Nat) (hi : i < l.length) (h : seenK f d l i i = true) : dupK f d l l.length = true :=
  dupK_mono f d l (i + 1) _ (by omega) (by simp [dupK, h])
end
abbrev SymT := List Int × Int × Unit
abbrev symD : SymT := ([], 0, ())
abbrev SigT := List SymT × Unit
def letter (c : Int) : Bool := decide (97 ≤ c ∧ c ≤ 122)
def nameOk (s : List Int) : Bool := decide (1 ≤ s.length ∧ s.length ≤ 3) && s.all letter
def symBad : List SymT → Int
  | [] => 0
  | x :: l => if nameOk x.1 = false then 5 else if ¬ (0 ≤ x.2.1 ∧ x.2.1 ≤ 2) then 3 else symBad l
theorem symBad_step (l : List SymT) (i : Nat) (h : i < l.length) : symBad (l.drop i) = if nameOk (l.getD i symD).1 = false then 5 else if ¬ (0 ≤ (l.getD i symD).2.1 ∧ (l.getD i symD).2.1 ≤ 2) then 3 else symBad (l.drop (i + 1)) := by
  rw [drop_cons l symD i h]; rfl
theorem symBad_end (l : List SymT) (i : Nat) (h : l.length ≤ i) : symBad (l.drop i) = 0 := by rw [drop_nil l i h]; rfl
def dupSym (l : List SymT) : Nat → Bool := dupK (fun x : SymT => x.1) symD l
def seenSym (l : List SymT) : Nat → Nat → Bool := seenK (fun x : SymT => x.1) symD l
def sigFault (s : SigT) : Int :=
  if ¬ (1 ≤ s.1.length ∧ s.1.length ≤ 6) then 2 else if symBad s.1 ≠ 0 then symBad s.1 else if dupSym s.1 s.1.length = true then 6 else if s.1.any (fun x => decide (x.2.1 = 0)) = true then 0 else 4
/-! Trim -/
theorem dropWhile_all {α : Type} (p : α → Bool) (l : List α) : l.dropWhile p = [] ↔ l.all p = true := by
  induction l with
  | nil => simp
  | cons x l ih =>
    simp only [List.dropWhile_cons, List.all_cons]
    cases hx : p x <;> simp [ih]
theorem trimI_nil (l cs : List Int) : trimI l cs = [] ↔ l.all (cs.contains ·) = true := by
  unfold trimI
  rw [dropWhile_all]
  constructor
  · intro h
    rw [List.all_eq_true]
    intro x hx
    by_cases hd : x ∈ (l.reverse.dropWhile (cs.contains ·)).reverse
    · exact List.all_eq_true.1 h x hd
    · have : x ∈ l.reverse.takeWhile (cs.contains ·) := by
        have h2 : x ∈ l.reverse.takeWhile (cs.contains ·) ++ l.reverse.dropWhile (cs.contains ·) := by rw [List.takeWhile_append_dropWhile]; simpa using hx
        rcases List.mem_append.1 h2 with h2 | h2
        · exact h2
        · exact absurd (by simpa using h2) hd
      exact List.all_eq_true.1 (List.all_takeWhile) x this
  · intro h
    rw [List.all_eq_true]
    intro x hx
    have : x ∈ l.reverse := (List.dropWhile_sublist _).subset (by simpa using hx)
    exact List.all_eq_true.1 h x (by simpa using this)
def letters : List Int := [97, 98, 99, 100, 101, 102, 103, 104, 105, 106, 107, 108, 109, 110, 111, 112, 113, 114, 115, 116, 117, 118, 119, 120, 121, 122]
theorem letters_contains (c : Int) : letters.contains c = letter c := by
  unfold letter
  by_cases h : 97 ≤ c ∧ c ≤ 122
  · have : c = 97 ∨ c = 98 ∨ c = 99 ∨ c = 100 ∨ c = 101 ∨ c = 102 ∨ c = 103 ∨ c = 104 ∨ c = 105 ∨ c = 106 ∨ c = 107 ∨ c = 108 ∨ c = 109 ∨ c = 110 ∨ c = 111 ∨ c = 112 ∨ c = 113 ∨ c = 114 ∨ c = 115 ∨ c = 116 ∨ c = 117 ∨ c = 118 ∨ c = 119 ∨ c = 120 ∨ c = 121 ∨ c = 122 := by omega
    rcases this with rfl | rfl | rfl | rfl | rfl | rfl | rfl | rfl | rfl | rfl | rfl | rfl | rfl | rfl | rfl | rfl | rfl | rfl | rfl | rfl | rfl | rfl | rfl | rfl | rfl | rfl <;> decide
  · have hn : c ∉ letters := fun hc => by simp [letters] at hc; omega
    rw [show letters.contains c = false by simpa using hn]
    simp only [h, decide_false]
theorem trim_letters (l : List Int) : decide (trimI l letters = []) = l.all letter := by
  have h := trimI_nil l letters
  have e : (fun x => letters.contains x) = letter := funext letters_contains
  rw [e] at h
  cases hl : l.all letter <;> simp_all
theorem letters_eq : List.map (fun b : UInt8 => (b.toNat : Int)) [97, 98, 99, 100, 101, 102, 103, 104, 105, 106, 107, 108, 109, 110, 111, 112, 113, 114, 115, 116, 117, 118, 119, 120, 121, 122] = letters := by decide
theorem letters_ok : letters.length < 4294967281 ∧ ∀ c ∈ letters, c < 128 := by decide
theorem nameOk_short (s : List Int) (h : ¬ (1 ≤ s.length ∧ s.length ≤ 3)) : nameOk s = false := by simp [nameOk, h]
theorem nameOk_long (s : List Int) (h : 1 ≤ s.length ∧ s.length ≤ 3) : nameOk s = s.all letter := by simp [nameOk, h]
theorem all_step (p : Int → Bool) (l : List Int) (i : Nat) (h : i < l.length) : (l.drop i).all p = (p (l.getD i 0) && (l.drop (i + 1)).all p) := by rw [drop_cons l 0 i h]; rfl
theorem all_end (p : Int → Bool) (l : List Int) (i : Nat) (h : l.length ≤ i) : (l.drop i).all p = true := by rw [drop_nil l i h]; rfl
theorem sym_find (l : List SymT) (i : Nat) (hi : i < l.length) : decide (findG (fun x : SymT => decide (x.1 = (l.getD i symD).1)) l 0 = (i : Int)) = !seenSym l i i := findK_seen (fun x : SymT => x.1) symD l i hi
theorem sym_dup (l : List SymT) (i : Nat) (hi : i < l.length) (h : seenSym l i i = true) : dupSym l l.length = true := dupK_seen _ _ _ i hi h
theorem sym_succ (l : List SymT) (i : Nat) : dupSym l (i + 1) = (dupSym l i || seenSym l i i) := rfl
theorem sym_zero (l : List SymT) (i : Nat) : seenSym l i 0 = false := rfl
theorem sym_seen (l : List SymT) (i j : Nat) (h : j < l.length) : seenSym l i (j + 1) = (seenSym l i j || decide ((l.getD i symD).1 = (l.getD j symD).1)) := seenK_succ _ _ _ i j h
theorem sym_hit (l : List SymT) (i j : Nat) (hi : i < l.length) (hj : j < i) (h : (l.getD i symD).1 = (l.getD j symD).1) : dupSym l l.length = true := dupK_hit _ _ _ i j hi hj h
theorem any_step {α : Type} (p : α → Bool) (l : List α) (d : α) (i : Nat) (h : i < l.length) : (l.drop i).any p = (p (l.getD i d) || (l.drop (i + 1)).any p) := by rw [drop_cons l d i h]; rfl
theorem any_end {α : Type} (p : α → Bool) (l : List α) (i : Nat) (h : l.length ≤ i) : (l.drop i).any p = false := by rw [drop_nil l i h]; rfl


def F_str_Trim (x : List Int) (cs : List Int) : List Int := trimI x cs
def Q_str_Trim (x : List Int) (cs : List Int) : Prop := cs.length < 4294967281 ∧ ∀ c ∈ cs, c < 128
open Go.Shelf in
def lays160_ren : Go.Shelf.Ren := ⟨fun | 160 => 191 | 232 => 226 | 231 => 225 | 227 => 227 | 234 => 229 | 233 => 228 | 236 => 231 | 235 => 230 | 228 => 251 | 271 => 254 | 151 => 253 | 197 => 252 | 120 => 275 | 152 => 274 | 260 => 273 | 137 => 284 | 119 => 285 | 224 => 286 | 225 => 287 | 217 => 295 | 266 => 298 | n => n, fun | 9 => 9 | 4 => 4 | 3 => 3 | 5 => 5 | 117 => 262 | 116 => 261 | 0 => 0 | 124 => 265 | 21 => 21 | 105 => 279 | 46 => 230 | 119 => 315 | 139 => 318 | 138 => 317 | n => n, fun | 3 => 0 | 4 => 1 | n => n⟩
open Go.Shelf in
theorem lays160 : Go.Proofs.Lays.n160 pg lays160_ren := {
  mixed := (by kernel_rfl),
  f119 := Go.Proofs.Tryz.func285.trans (congrArg some (by kernel_rfl)),
  f120 := Go.Proofs.Tryz.func275.trans (congrArg some (by kernel_rfl)),
  f137 := Go.Proofs.Tryz.func284.trans (congrArg some (by kernel_rfl)),
  f151 := Go.Proofs.Tryz.func253.trans (congrArg some (by kernel_rfl)),
  f152 := Go.Proofs.Tryz.func274.trans (congrArg some (by kernel_rfl)),
  f160 := Go.Proofs.Tryz.func191.trans (congrArg some (by kernel_rfl)),
  f197 := Go.Proofs.Tryz.func252.trans (congrArg some (by kernel_rfl)),
  f217 := Go.Proofs.Tryz.func295.trans (congrArg some (by kernel_rfl)),
  f224 := Go.Proofs.Tryz.func286.trans (congrArg some (by kernel_rfl)),
  f225 := Go.Proofs.Tryz.func287.trans (congrArg some (by kernel_rfl)),
  f227 := Go.Proofs.Tryz.func227.trans (congrArg some (by kernel_rfl)),
  f228 := Go.Proofs.Tryz.func251.trans (congrArg some (by kernel_rfl)),
  f231 := Go.Proofs.Tryz.func225.trans (congrArg some (by kernel_rfl)),
  f232 := Go.Proofs.Tryz.func226.trans (congrArg some (by kernel_rfl)),
  f233 := Go.Proofs.Tryz.func228.trans (congrArg some (by kernel_rfl)),
  f234 := Go.Proofs.Tryz.func229.trans (congrArg some (by kernel_rfl)),
  f235 := Go.Proofs.Tryz.func230.trans (congrArg some (by kernel_rfl)),
  f236 := Go.Proofs.Tryz.func231.trans (congrArg some (by kernel_rfl)),
  f260 := Go.Proofs.Tryz.func273.trans (congrArg some (by kernel_rfl)),
  f266 := Go.Proofs.Tryz.func298.trans (congrArg some (by kernel_rfl)),
  f271 := Go.Proofs.Tryz.func254.trans (congrArg some (by kernel_rfl)),
  t0 := Go.Proofs.Tryz.underlying0,
  a0 := Go.Proofs.Tryz.isAgg0,
  z0 := Go.Proofs.Tryz.sizeOf0,
  v0 := Go.Proofs.Tryz.zeroValue0,
  t3 := Go.Proofs.Tryz.underlying3,
  a3 := Go.Proofs.Tryz.isAgg3,
  z3 := Go.Proofs.Tryz.sizeOf3,
  v3 := Go.Proofs.Tryz.zeroValue3,
  t4 := Go.Proofs.Tryz.underlying4,
  a4 := Go.Proofs.Tryz.isAgg4,
  z4 := Go.Proofs.Tryz.sizeOf4,
  v4 := Go.Proofs.Tryz.zeroValue4,
  t5 := Go.Proofs.Tryz.underlying5,
  a5 := Go.Proofs.Tryz.isAgg5,
  z5 := Go.Proofs.Tryz.sizeOf5,
  v5 := Go.Proofs.Tryz.zeroValue5,
  t9 := Go.Proofs.Tryz.underlying9,
  a9 := Go.Proofs.Tryz.isAgg9,
  z9 := Go.Proofs.Tryz.sizeOf9,
  v9 := Go.Proofs.Tryz.zeroValue9,
  t21 := Go.Proofs.Tryz.underlying21,
  a21 := Go.Proofs.Tryz.isAgg21,
  z21 := Go.Proofs.Tryz.sizeOf21,
  v21 := Go.Proofs.Tryz.zeroValue21,
  t46 := Go.Proofs.Tryz.underlying230,
  a46 := Go.Proofs.Tryz.isAgg230,
  z46 := Go.Proofs.Tryz.sizeOf230,
  v46 := Go.Proofs.Tryz.zeroValue230,
  t105 := Go.Proofs.Tryz.underlying279,
  a105 := Go.Proofs.Tryz.isAgg279,
  z105 := Go.Proofs.Tryz.sizeOf279,
  v105 := Go.Proofs.Tryz.zeroValue279,
  t116 := Go.Proofs.Tryz.underlying261,
  a116 := Go.Proofs.Tryz.isAgg261,
  z116 := Go.Proofs.Tryz.sizeOf261,
  t117 := Go.Proofs.Tryz.underlying262,
  a117 := Go.Proofs.Tryz.isAgg262,
  z117 := Go.Proofs.Tryz.sizeOf262,
  v117 := Go.Proofs.Tryz.zeroValue262,
  t119 := Go.Proofs.Tryz.underlying315,
  a119 := Go.Proofs.Tryz.isAgg315,
  z119 := Go.Proofs.Tryz.sizeOf315,
  t124 := Go.Proofs.Tryz.underlying265,
  a124 := Go.Proofs.Tryz.isAgg265,
  z124 := Go.Proofs.Tryz.sizeOf265,
  v124 := Go.Proofs.Tryz.zeroValue265,
  t138 := Go.Proofs.Tryz.underlying317,
  a138 := Go.Proofs.Tryz.isAgg317,
  z138 := Go.Proofs.Tryz.sizeOf317,
  v138 := Go.Proofs.Tryz.zeroValue317,
  t139 := Go.Proofs.Tryz.underlying318,
  a139 := Go.Proofs.Tryz.isAgg318,
  z139 := Go.Proofs.Tryz.sizeOf318,
  v139 := Go.Proofs.Tryz.zeroValue318,
  g3 := (by kernel_rfl),
  g4 := (by kernel_rfl) }

def con_str_Trim : Con := ⟨false, g2 (pD .str) (pD .str) fun x cs => .one ⟨[Q_str_Trim x cs], [⟨.str, .sh, F_str_Trim x cs⟩], []⟩, [], false, 0⟩
theorem ok_str_Trim : ConOk pg 191 con_str_Trim := ok_trim lays160 (by rfl) (by kernel_rfl) (Enters.of (by kernel_rfl)) Q_str_Trim F_str_Trim (fun x cs h => h) (fun x cs => rfl)

def F_i_isName (s : List Int) : Bool := nameOk s
def Q_i_isName (s : List Int) : Prop := True
def O_i_isName : Opt := ⟨fun i => false, fun i => [], fun i => .done, fun i => none, fun i => false, fun i => [], fun i => false, fun i => none⟩
def τ_i_isName : Env := Env.of [(2, (.int .i64)), (3, (.int .i64)), (4, .bool), (9, .str)] [] []

theorem ct_i_isName (s : List Int) : Ct pg 131 [.dat .str s] ⟨[Q_i_isName s], [⟨.bool, .sh, F_i_isName s⟩], []⟩ := by
  refine ct_claim (O := O_i_isName) (τ := τ_i_isName) (EnvOk.of (by kernel_rfl) (by kernel_rfl)) (GOk.of (.cons ok_str_Trim .nil : AllOk pg [(191, con_str_Trim)])) mixed (Enters.of (by kernel_rfl)) (fn := Go.Proofs.Tryz.f131) (by kernel_rfl) rfl (by kernel_rfl) ?_
  intro hp hw
  have hq : Q_i_isName s := hp _ (List.mem_singleton.2 rfl)
  clear hp
  change claim Lg.std Alg.std τ_i_isName (Gam.of [(191, ⟨false, g2 (pD .str) (pD .str) fun x cs => .one ⟨[Q_str_Trim x cs], [⟨.str, .sh, F_str_Trim x cs⟩], []⟩, [], false, 0⟩)]) O_i_isName Go.Proofs.Tryz.f131 [.dat .str s] ⟨[Q_i_isName s], [⟨.bool, .sh, F_i_isName s⟩], []⟩
  generalize hg_F_str_Trim : F_str_Trim = g_F_str_Trim
  generalize hg_Q_str_Trim : Q_str_Trim = g_Q_str_Trim
  generalize hR0 : F_i_isName s = R0
  generalize Q_i_isName s = Q0
  generalize hL : Lg.std = L
  generalize hA : Alg.std = A
  cbv
  subst hL hA
  try dsimp only [Ty.den]
  have hl := letters_eq
  have hk := letters_ok
  have ht := trim_letters s
  have hs := nameOk_short s
  have hn := nameOk_long s
  subst hR0 hg_F_str_Trim hg_Q_str_Trim
  simp only [Lg.std, Alg.std, List.drop_zero, List.take_length, F_str_Trim, Q_str_Trim, F_i_isName, hl, List.map_nil, ht]
  repeat' (first | intro _ | apply And.intro)
  all_goals grind
def con_i_isName : Con := ⟨true, g1 (pD .str) fun s => .one ⟨[Q_i_isName s], [⟨.bool, .sh, F_i_isName s⟩], []⟩, [], false, 0⟩
theorem ok_i_isName : ConOk pg 131 con_i_isName := ConOk.g1 (Enters.of (by kernel_rfl)) ct_i_isName

def F_s_l2Name (s : List Int) : Bool := nameOk s
def Q_s_l2Name (s : List Int) : Prop := True
def O_s_l2Name : Opt := ⟨fun i => false, fun i => (match decide (i = 4) with | true => [true, false, false, true, false, false, false, false, false, false, false, false, false, false, false, false, false, false, false, false, false, false, false, false, false, false, false, false] | false => []), fun i => .done, fun i => none, fun i => false, fun i => [], fun i => false, fun i => none⟩
def τ_s_l2Name : Env := Env.of [(2, (.int .i64)), (3, (.int .i64)), (4, .bool), (5, (.int .u8)), (9, .str)] [] []

theorem ct_s_l2Name (s : List Int) : Ct pg 127 [.dat .str s] ⟨[Q_s_l2Name s], [⟨.bool, .sh, F_s_l2Name s⟩], []⟩ := by
  refine ct_claim (O := O_s_l2Name) (τ := τ_s_l2Name) (EnvOk.of (by kernel_rfl) (by kernel_rfl)) (GOk.of (.nil : AllOk pg [])) mixed (Enters.of (by kernel_rfl)) (fn := Go.Proofs.Tryz.f127) (by kernel_rfl) rfl (by kernel_rfl) ?_
  intro hp hw
  have hq : Q_s_l2Name s := hp _ (List.mem_singleton.2 rfl)
  clear hp
  change claim Lg.std Alg.std τ_s_l2Name (Gam.of []) O_s_l2Name Go.Proofs.Tryz.f127 [.dat .str s] ⟨[Q_s_l2Name s], [⟨.bool, .sh, F_s_l2Name s⟩], []⟩
  generalize hR0 : F_s_l2Name s = R0
  generalize Q_s_l2Name s = Q0
  generalize hL : Lg.std = L
  generalize hA : Alg.std = A
  cbv
  subst hL hA
  try dsimp only [Ty.den]
  have hs := nameOk_short s
  have hn := nameOk_long s
  repeat' (first | intro _ | apply And.intro)
  all_goals first | trivial | ((fail_if_success (refine lp_v (V := Unit) (fun _ => ⟨[], []⟩) (fun _ => True) (fun _ => 0) () ?_ ?_ ?_)); subst hR0; (try simp only [Alg.std, F_s_l2Name] at *); all_goals grind) | skip
  refine lp_v (V := (Int)) (fun (i : Int) => ⟨[.dat .str s, .junk, .junk, .dat (.int .i64) i, .junk, .junk, .junk, .junk, .junk, .junk, .junk, .junk, .junk, .junk, .junk, .junk, .junk, .junk, .junk, .junk, .junk, .junk, .junk, .junk, .junk, .junk, .junk, .junk], []⟩) (fun (i : Int) => 0 ≤ i ∧ i ≤ s.length ∧ (1 ≤ s.length ∧ s.length ≤ 3) ∧ s.all letter = (s.drop i.toNat).all letter) (fun (i : Int) => s.length - i.toNat) (0) rfl ?_ ?_
  · subst hR0
    (try simp only [Alg.std, F_s_l2Name] at *)
    all_goals grind
  rintro i hf I hI
  replace hf : 0 ≤ i ∧ i ≤ s.length ∧ (1 ≤ s.length ∧ s.length ≤ 3) ∧ s.all letter = (s.drop i.toNat).all letter := hf
  generalize hL : Lg.std = L
  generalize hA : Alg.std = A
  cbv
  subst hL hA
  try dsimp only [Ty.den]
  subst hI
  obtain ⟨h1, h2, h3, h4⟩ := hf
  have hl := hw.1.1
  have hsu : (i + 1).toNat = i.toNat + 1 := by omega
  have hst := fun (h : i.toNat < s.length) => all_step letter s i.toNat h
  have hen := fun (h : s.length ≤ i.toNat) => all_end letter s i.toNat h
  repeat' (first | intro _ | apply And.intro)
  all_goals first | (with_reducible exact True.intro) | ((fail_if_success (refine lp_v (V := Unit) (fun _ => ⟨[], []⟩) (fun _ => True) (fun _ => 0) () ?_ ?_ ?_)); (try simp only [Lg.std, Alg.std, List.drop_zero, List.take_length] at *); (try refine ⟨_, rfl, ?_, ?_⟩); (all_goals (subst hR0; (try simp only [Lg.std, Alg.std, List.drop_zero, List.take_length, F_s_l2Name] at *); first | done | (grind [letter])))) | skip
def con_s_l2Name : Con := ⟨true, g1 (pD .str) fun s => .one ⟨[Q_s_l2Name s], [⟨.bool, .sh, F_s_l2Name s⟩], []⟩, [], false, 0⟩
theorem ok_s_l2Name : ConOk pg 127 con_s_l2Name := ConOk.g1 (Enters.of (by kernel_rfl)) ct_s_l2Name

def F_i_symbolIndex_1 (x : (List Int) × (Int) × Unit) (name : List Int) : Bool := decide (x.1 = name)
def Q_i_symbolIndex_1 (x : (List Int) × (Int) × Unit) (name : List Int) : Prop := True
def O_i_symbolIndex_1 : Opt := ⟨fun i => false, fun i => [], fun i => .done, fun i => none, fun i => false, fun i => [], fun i => false, fun i => none⟩
def τ_i_symbolIndex_1 : Env := Env.of [(3, (.int .i64)), (4, .bool), (9, .str), (175, (.pair .str (.pair (.int .i64) .unit)))] [] []

theorem ct_i_symbolIndex_1 (x : (List Int) × (Int) × Unit) (name : List Int) : Ct pg 193 [.dat (.pair .str (.pair (.int .i64) .unit)) x, .dptr .str name] ⟨[Q_i_symbolIndex_1 x name], [⟨.bool, .sh, F_i_symbolIndex_1 x name⟩], []⟩ := by
  refine ct_claim (O := O_i_symbolIndex_1) (τ := τ_i_symbolIndex_1) (EnvOk.of (by kernel_rfl) (by kernel_rfl)) (GOk.of (.nil : AllOk pg [])) mixed (Enters.of (by kernel_rfl)) (fn := Go.Proofs.Tryz.f193) (by kernel_rfl) rfl (by kernel_rfl) ?_
  intro hp hw
  have hq : Q_i_symbolIndex_1 x name := hp _ (List.mem_singleton.2 rfl)
  clear hp
  change claim Lg.std Alg.std τ_i_symbolIndex_1 (Gam.of []) O_i_symbolIndex_1 Go.Proofs.Tryz.f193 [.dat (.pair .str (.pair (.int .i64) .unit)) x, .dptr .str name] ⟨[Q_i_symbolIndex_1 x name], [⟨.bool, .sh, F_i_symbolIndex_1 x name⟩], []⟩
  generalize hR0 : F_i_symbolIndex_1 x name = R0
  generalize Q_i_symbolIndex_1 x name = Q0
  generalize hL : Lg.std = L
  generalize hA : Alg.std = A
  cbv
  subst hL hA
  try dsimp only [Ty.den]
  subst hR0
  simp only [Q_i_symbolIndex_1] at hq
  simp only [Lg.std, Alg.std, List.drop_zero, List.take_length, F_i_symbolIndex_1]
  all_goals grind
def con_i_symbolIndex_1 : Con := ⟨true, g2 (pD (.pair .str (.pair (.int .i64) .unit))) (pP .str) fun x name => .one ⟨[Q_i_symbolIndex_1 x name], [⟨.bool, .sh, F_i_symbolIndex_1 x name⟩], []⟩, [], false, 0⟩
theorem ok_i_symbolIndex_1 : ConOk pg 193 con_i_symbolIndex_1 := ConOk.g2 (Enters.of (by kernel_rfl)) ct_i_symbolIndex_1

def F_sl_IndexFunc_Symbol__i_symbolIndex_1 (s : List ((List Int) × (Int) × Unit)) (name : List Int) : Int := findG (fun x => decide (x.1 = name)) s 0
def Q_sl_IndexFunc_Symbol__i_symbolIndex_1 (s : List ((List Int) × (Int) × Unit)) (name : List Int) : Prop := True
def O_sl_IndexFunc_Symbol__i_symbolIndex_1 : Opt := ⟨fun i => false, fun i => (match decide (i = 2) with | true => [true, true, false, false, false, false, false, true, true, false, false, false, false, false, false, false, false, false, false] | false => []), fun i => .done, fun i => none, fun i => false, fun i => [], fun i => false, fun i => none⟩
def τ_sl_IndexFunc_Symbol__i_symbolIndex_1 : Env := Env.of [(3, (.int .i64)), (4, .bool), (28, (.sl (.pair .str (.pair (.int .i64) .unit)))), (175, (.pair .str (.pair (.int .i64) .unit)))] [] []

theorem ct_sl_IndexFunc_Symbol__i_symbolIndex_1 (s : List ((List Int) × (Int) × Unit)) (name : List Int) : Ct pg 192 [.dat (.sl (.pair .str (.pair (.int .i64) .unit))) s, .clo 193 [.dptr .str name]] ⟨[Q_sl_IndexFunc_Symbol__i_symbolIndex_1 s name], [⟨(.int .i64), .sh, F_sl_IndexFunc_Symbol__i_symbolIndex_1 s name⟩], []⟩ := by
  refine ct_claim (O := O_sl_IndexFunc_Symbol__i_symbolIndex_1) (τ := τ_sl_IndexFunc_Symbol__i_symbolIndex_1) (EnvOk.of (by kernel_rfl) (by kernel_rfl)) (GOk.of (.cons ok_i_symbolIndex_1 .nil : AllOk pg [(193, con_i_symbolIndex_1)])) mixed (Enters.of (by kernel_rfl)) (fn := Go.Proofs.Tryz.f192) (by kernel_rfl) rfl (by kernel_rfl) ?_
  intro hp hw
  have hq : Q_sl_IndexFunc_Symbol__i_symbolIndex_1 s name := hp _ (List.mem_singleton.2 rfl)
  clear hp
  change claim Lg.std Alg.std τ_sl_IndexFunc_Symbol__i_symbolIndex_1 (Gam.of [(193, ⟨true, g2 (pD (.pair .str (.pair (.int .i64) .unit))) (pP .str) fun x name => .one ⟨[Q_i_symbolIndex_1 x name], [⟨.bool, .sh, F_i_symbolIndex_1 x name⟩], []⟩, [], false, 0⟩)]) O_sl_IndexFunc_Symbol__i_symbolIndex_1 Go.Proofs.Tryz.f192 [.dat (.sl (.pair .str (.pair (.int .i64) .unit))) s, .clo 193 [.dptr .str name]] ⟨[Q_sl_IndexFunc_Symbol__i_symbolIndex_1 s name], [⟨(.int .i64), .sh, F_sl_IndexFunc_Symbol__i_symbolIndex_1 s name⟩], []⟩
  generalize hg_F_i_symbolIndex_1 : F_i_symbolIndex_1 = g_F_i_symbolIndex_1
  generalize hg_Q_i_symbolIndex_1 : Q_i_symbolIndex_1 = g_Q_i_symbolIndex_1
  generalize hR0 : F_sl_IndexFunc_Symbol__i_symbolIndex_1 s name = R0
  generalize Q_sl_IndexFunc_Symbol__i_symbolIndex_1 s name = Q0
  generalize hL : Lg.std = L
  generalize hA : Alg.std = A
  cbv
  subst hL hA
  try dsimp only [Ty.den]
  refine lp_v (V := (Int) × (Int)) (fun ((i, M) : (Int) × (Int)) => ⟨[.dat (.sl (.pair .str (.pair (.int .i64) .unit))) s, .clo 193 [.dptr .str name], .junk, .junk, .junk, .junk, .junk, .dat (.int .i64) M, .dat (.int .i64) i, .junk, .junk, .junk, .junk, .junk, .junk, .junk, .junk, .junk, .junk], []⟩) (fun ((i, M) : (Int) × (Int)) => M = s.length ∧ 0 ≤ i ∧ i ≤ s.length ∧ findG (fun x => decide (x.1 = name)) s 0 = findG (fun x => decide (x.1 = name)) (s.drop i.toNat) i) (fun ((i, M) : (Int) × (Int)) => s.length - i.toNat) (0, _) rfl ?_ ?_
  · simp [Alg.std]
  rintro ⟨i, M⟩ hf I hI
  replace hf : M = s.length ∧ 0 ≤ i ∧ i ≤ s.length ∧ findG (fun x => decide (x.1 = name)) s 0 = findG (fun x => decide (x.1 = name)) (s.drop i.toNat) i := hf
  generalize hL : Lg.std = L
  generalize hA : Alg.std = A
  cbv
  subst hL hA
  try dsimp only [Ty.den]
  subst hI
  simp only [Lg.std, Alg.std, List.drop_zero, List.take_length]
  obtain ⟨h1, h2, h3, h4⟩ := hf
  have hl := hw.1.1
  have hdc := fun (h : i.toNat < s.length) => drop_cons s (([], 0, PUnit.unit) : (List Int) × (Int) × Unit) i.toNat h
  have he := fun (h : s.length ≤ i.toNat) => drop_nil s i.toNat h
  repeat' (first | intro _ | apply And.intro)
  all_goals (try refine ⟨(_, _), rfl, ?_, ?_⟩)
  all_goals subst hR0 hg_F_i_symbolIndex_1 hg_Q_i_symbolIndex_1
  all_goals (try simp only [F_i_symbolIndex_1, Q_i_symbolIndex_1, F_sl_IndexFunc_Symbol__i_symbolIndex_1] at *)
  all_goals grind [findG_cons, findG_nil]
def con_sl_IndexFunc_Symbol__i_symbolIndex_1 : Con := ⟨true, g2 (pD (.sl (.pair .str (.pair (.int .i64) .unit)))) (pC1 193 (pP .str)) fun s name => .one ⟨[Q_sl_IndexFunc_Symbol__i_symbolIndex_1 s name], [⟨(.int .i64), .sh, F_sl_IndexFunc_Symbol__i_symbolIndex_1 s name⟩], []⟩, [], false, 0⟩
theorem ok_sl_IndexFunc_Symbol__i_symbolIndex_1 : ConOk pg 192 con_sl_IndexFunc_Symbol__i_symbolIndex_1 := ConOk.g2 (Enters.of (by kernel_rfl)) ct_sl_IndexFunc_Symbol__i_symbolIndex_1

def F_i_symbolIndex (s : (List ((List Int) × (Int) × Unit)) × Unit) (name : List Int) : Int := findG (fun x => decide (x.1 = name)) s.1 0
def Q_i_symbolIndex (s : (List ((List Int) × (Int) × Unit)) × Unit) (name : List Int) : Prop := True
def O_i_symbolIndex : Opt := ⟨fun i => false, fun i => [], fun i => .done, fun i => none, fun i => false, fun i => [], fun i => false, fun i => none⟩
def τ_i_symbolIndex : Env := Env.of [(3, (.int .i64)), (4, .bool), (9, .str), (28, (.sl (.pair .str (.pair (.int .i64) .unit)))), (30, (.pair (.sl (.pair .str (.pair (.int .i64) .unit))) .unit))] [] []

theorem ct_i_symbolIndex (s : (List ((List Int) × (Int) × Unit)) × Unit) (name : List Int) : Ct pg 132 [.dat (.pair (.sl (.pair .str (.pair (.int .i64) .unit))) .unit) s, .dat .str name] ⟨[Q_i_symbolIndex s name], [⟨(.int .i64), .sh, F_i_symbolIndex s name⟩], []⟩ := by
  refine ct_claim (O := O_i_symbolIndex) (τ := τ_i_symbolIndex) (EnvOk.of (by kernel_rfl) (by kernel_rfl)) (GOk.of (.cons ok_i_symbolIndex_1 (.cons ok_sl_IndexFunc_Symbol__i_symbolIndex_1 .nil) : AllOk pg [(193, con_i_symbolIndex_1), (192, con_sl_IndexFunc_Symbol__i_symbolIndex_1)])) mixed (Enters.of (by kernel_rfl)) (fn := Go.Proofs.Tryz.f132) (by kernel_rfl) rfl (by kernel_rfl) ?_
  intro hp hw
  have hq : Q_i_symbolIndex s name := hp _ (List.mem_singleton.2 rfl)
  clear hp
  change claim Lg.std Alg.std τ_i_symbolIndex (Gam.of [(193, ⟨true, g2 (pD (.pair .str (.pair (.int .i64) .unit))) (pP .str) fun x name => .one ⟨[Q_i_symbolIndex_1 x name], [⟨.bool, .sh, F_i_symbolIndex_1 x name⟩], []⟩, [], false, 0⟩), (192, ⟨true, g2 (pD (.sl (.pair .str (.pair (.int .i64) .unit)))) (pC1 193 (pP .str)) fun s name => .one ⟨[Q_sl_IndexFunc_Symbol__i_symbolIndex_1 s name], [⟨(.int .i64), .sh, F_sl_IndexFunc_Symbol__i_symbolIndex_1 s name⟩], []⟩, [], false, 0⟩)]) O_i_symbolIndex Go.Proofs.Tryz.f132 [.dat (.pair (.sl (.pair .str (.pair (.int .i64) .unit))) .unit) s, .dat .str name] ⟨[Q_i_symbolIndex s name], [⟨(.int .i64), .sh, F_i_symbolIndex s name⟩], []⟩
  generalize hg_F_i_symbolIndex_1 : F_i_symbolIndex_1 = g_F_i_symbolIndex_1
  generalize hg_Q_i_symbolIndex_1 : Q_i_symbolIndex_1 = g_Q_i_symbolIndex_1
  generalize hg_F_sl_IndexFunc_Symbol__i_symbolIndex_1 : F_sl_IndexFunc_Symbol__i_symbolIndex_1 = g_F_sl_IndexFunc_Symbol__i_symbolIndex_1
  generalize hg_Q_sl_IndexFunc_Symbol__i_symbolIndex_1 : Q_sl_IndexFunc_Symbol__i_symbolIndex_1 = g_Q_sl_IndexFunc_Symbol__i_symbolIndex_1
  generalize hR0 : F_i_symbolIndex s name = R0
  generalize Q_i_symbolIndex s name = Q0
  generalize hL : Lg.std = L
  generalize hA : Alg.std = A
  cbv
  subst hL hA
  try dsimp only [Ty.den]
  subst hR0 hg_F_i_symbolIndex_1 hg_Q_i_symbolIndex_1 hg_F_sl_IndexFunc_Symbol__i_symbolIndex_1 hg_Q_sl_IndexFunc_Symbol__i_symbolIndex_1
  simp only [Q_i_symbolIndex] at hq
  simp only [Lg.std, Alg.std, List.drop_zero, List.take_length, F_i_symbolIndex_1, F_sl_IndexFunc_Symbol__i_symbolIndex_1, Q_i_symbolIndex_1, Q_sl_IndexFunc_Symbol__i_symbolIndex_1, F_i_symbolIndex]
  all_goals grind
def con_i_symbolIndex : Con := ⟨true, g2 (pD (.pair (.sl (.pair .str (.pair (.int .i64) .unit))) .unit)) (pD .str) fun s name => .one ⟨[Q_i_symbolIndex s name], [⟨(.int .i64), .sh, F_i_symbolIndex s name⟩], []⟩, [], false, 0⟩
theorem ok_i_symbolIndex : ConOk pg 132 con_i_symbolIndex := ConOk.g2 (Enters.of (by kernel_rfl)) ct_i_symbolIndex

def F_i_SignatureFault_1 (x : (List Int) × (Int) × Unit) : Bool := decide (x.2.1 = 0)
def Q_i_SignatureFault_1 (x : (List Int) × (Int) × Unit) : Prop := True
def O_i_SignatureFault_1 : Opt := ⟨fun i => false, fun i => [], fun i => .done, fun i => none, fun i => false, fun i => [], fun i => false, fun i => none⟩
def τ_i_SignatureFault_1 : Env := Env.of [(2, (.int .i64)), (4, .bool), (175, (.pair .str (.pair (.int .i64) .unit)))] [] []

theorem ct_i_SignatureFault_1 (x : (List Int) × (Int) × Unit) : Ct pg 134 [.dat (.pair .str (.pair (.int .i64) .unit)) x] ⟨[Q_i_SignatureFault_1 x], [⟨.bool, .sh, F_i_SignatureFault_1 x⟩], []⟩ := by
  refine ct_claim (O := O_i_SignatureFault_1) (τ := τ_i_SignatureFault_1) (EnvOk.of (by kernel_rfl) (by kernel_rfl)) (GOk.of (.nil : AllOk pg [])) mixed (Enters.of (by kernel_rfl)) (fn := Go.Proofs.Tryz.f134) (by kernel_rfl) rfl (by kernel_rfl) ?_
  intro hp hw
  have hq : Q_i_SignatureFault_1 x := hp _ (List.mem_singleton.2 rfl)
  clear hp
  change claim Lg.std Alg.std τ_i_SignatureFault_1 (Gam.of []) O_i_SignatureFault_1 Go.Proofs.Tryz.f134 [.dat (.pair .str (.pair (.int .i64) .unit)) x] ⟨[Q_i_SignatureFault_1 x], [⟨.bool, .sh, F_i_SignatureFault_1 x⟩], []⟩
  generalize hR0 : F_i_SignatureFault_1 x = R0
  generalize Q_i_SignatureFault_1 x = Q0
  generalize hL : Lg.std = L
  generalize hA : Alg.std = A
  cbv
  subst hL hA
  try dsimp only [Ty.den]
  subst hR0
  simp only [Q_i_SignatureFault_1] at hq
  simp only [Lg.std, Alg.std, List.drop_zero, List.take_length, F_i_SignatureFault_1]
  all_goals grind
def con_i_SignatureFault_1 : Con := ⟨true, g1 (pD (.pair .str (.pair (.int .i64) .unit))) fun x => .one ⟨[Q_i_SignatureFault_1 x], [⟨.bool, .sh, F_i_SignatureFault_1 x⟩], []⟩, [], false, 0⟩
theorem ok_i_SignatureFault_1 : ConOk pg 134 con_i_SignatureFault_1 := ConOk.g1 (Enters.of (by kernel_rfl)) ct_i_SignatureFault_1

def F_sl_IndexFunc_Symbol__i_SignatureFault_1 (s : List ((List Int) × (Int) × Unit)) (u : Unit) : Int := findG (fun x => decide (x.2.1 = 0)) s 0
def Q_sl_IndexFunc_Symbol__i_SignatureFault_1 (s : List ((List Int) × (Int) × Unit)) (u : Unit) : Prop := True
def O_sl_IndexFunc_Symbol__i_SignatureFault_1 : Opt := ⟨fun i => false, fun i => (match decide (i = 2) with | true => [true, true, false, false, false, false, false, true, true, false, false, false, false, false, false, false, false, false, false] | false => []), fun i => .done, fun i => none, fun i => false, fun i => [], fun i => false, fun i => none⟩
def τ_sl_IndexFunc_Symbol__i_SignatureFault_1 : Env := Env.of [(3, (.int .i64)), (4, .bool), (28, (.sl (.pair .str (.pair (.int .i64) .unit)))), (175, (.pair .str (.pair (.int .i64) .unit)))] [] []

theorem ct_sl_IndexFunc_Symbol__i_SignatureFault_1 (s : List ((List Int) × (Int) × Unit)) (u : Unit) : Ct pg 192 [.dat (.sl (.pair .str (.pair (.int .i64) .unit))) s, .clo 134 []] ⟨[Q_sl_IndexFunc_Symbol__i_SignatureFault_1 s u], [⟨(.int .i64), .sh, F_sl_IndexFunc_Symbol__i_SignatureFault_1 s u⟩], []⟩ := by
  refine ct_claim (O := O_sl_IndexFunc_Symbol__i_SignatureFault_1) (τ := τ_sl_IndexFunc_Symbol__i_SignatureFault_1) (EnvOk.of (by kernel_rfl) (by kernel_rfl)) (GOk.of (.cons ok_i_SignatureFault_1 .nil : AllOk pg [(134, con_i_SignatureFault_1)])) mixed (Enters.of (by kernel_rfl)) (fn := Go.Proofs.Tryz.f192) (by kernel_rfl) rfl (by kernel_rfl) ?_
  intro hp hw
  have hq : Q_sl_IndexFunc_Symbol__i_SignatureFault_1 s u := hp _ (List.mem_singleton.2 rfl)
  clear hp
  change claim Lg.std Alg.std τ_sl_IndexFunc_Symbol__i_SignatureFault_1 (Gam.of [(134, ⟨true, g1 (pD (.pair .str (.pair (.int .i64) .unit))) fun x => .one ⟨[Q_i_SignatureFault_1 x], [⟨.bool, .sh, F_i_SignatureFault_1 x⟩], []⟩, [], false, 0⟩)]) O_sl_IndexFunc_Symbol__i_SignatureFault_1 Go.Proofs.Tryz.f192 [.dat (.sl (.pair .str (.pair (.int .i64) .unit))) s, .clo 134 []] ⟨[Q_sl_IndexFunc_Symbol__i_SignatureFault_1 s u], [⟨(.int .i64), .sh, F_sl_IndexFunc_Symbol__i_SignatureFault_1 s u⟩], []⟩
  generalize hg_F_i_SignatureFault_1 : F_i_SignatureFault_1 = g_F_i_SignatureFault_1
  generalize hg_Q_i_SignatureFault_1 : Q_i_SignatureFault_1 = g_Q_i_SignatureFault_1
  generalize hR0 : F_sl_IndexFunc_Symbol__i_SignatureFault_1 s u = R0
  generalize Q_sl_IndexFunc_Symbol__i_SignatureFault_1 s u = Q0
  generalize hL : Lg.std = L
  generalize hA : Alg.std = A
  cbv
  subst hL hA
  try dsimp only [Ty.den]
  refine lp_v (V := (Int) × (Int)) (fun ((i, M) : (Int) × (Int)) => ⟨[.dat (.sl (.pair .str (.pair (.int .i64) .unit))) s, .clo 134 [], .junk, .junk, .junk, .junk, .junk, .dat (.int .i64) M, .dat (.int .i64) i, .junk, .junk, .junk, .junk, .junk, .junk, .junk, .junk, .junk, .junk], []⟩) (fun ((i, M) : (Int) × (Int)) => M = s.length ∧ 0 ≤ i ∧ i ≤ s.length ∧ findG (fun x => decide (x.2.1 = 0)) s 0 = findG (fun x => decide (x.2.1 = 0)) (s.drop i.toNat) i) (fun ((i, M) : (Int) × (Int)) => s.length - i.toNat) (0, _) rfl ?_ ?_
  · simp [Alg.std]
  rintro ⟨i, M⟩ hf I hI
  replace hf : M = s.length ∧ 0 ≤ i ∧ i ≤ s.length ∧ findG (fun x => decide (x.2.1 = 0)) s 0 = findG (fun x => decide (x.2.1 = 0)) (s.drop i.toNat) i := hf
  generalize hL : Lg.std = L
  generalize hA : Alg.std = A
  cbv
  subst hL hA
  try dsimp only [Ty.den]
  subst hI
  simp only [Lg.std, Alg.std, List.drop_zero, List.take_length]
  obtain ⟨h1, h2, h3, h4⟩ := hf
  have hl := hw.1.1
  have hdc := fun (h : i.toNat < s.length) => drop_cons s (([], 0, PUnit.unit) : (List Int) × (Int) × Unit) i.toNat h
  have he := fun (h : s.length ≤ i.toNat) => drop_nil s i.toNat h
  repeat' (first | intro _ | apply And.intro)
  all_goals (try refine ⟨(_, _), rfl, ?_, ?_⟩)
  all_goals subst hR0 hg_F_i_SignatureFault_1 hg_Q_i_SignatureFault_1
  all_goals (try simp only [F_i_SignatureFault_1, Q_i_SignatureFault_1, F_sl_IndexFunc_Symbol__i_SignatureFault_1] at *)
  all_goals grind [findG_cons, findG_nil]
def con_sl_IndexFunc_Symbol__i_SignatureFault_1 : Con := ⟨true, g2 (pD (.sl (.pair .str (.pair (.int .i64) .unit)))) (pC0 134) fun s u => .one ⟨[Q_sl_IndexFunc_Symbol__i_SignatureFault_1 s u], [⟨(.int .i64), .sh, F_sl_IndexFunc_Symbol__i_SignatureFault_1 s u⟩], []⟩, [], false, 0⟩
theorem ok_sl_IndexFunc_Symbol__i_SignatureFault_1 : ConOk pg 192 con_sl_IndexFunc_Symbol__i_SignatureFault_1 := ConOk.g2 (Enters.of (by kernel_rfl)) ct_sl_IndexFunc_Symbol__i_SignatureFault_1

def F_sl_ContainsFunc_Symbol__i_SignatureFault_1 (s : List ((List Int) × (Int) × Unit)) (u : Unit) : Bool := s.any (fun x => decide (x.2.1 = 0))
def Q_sl_ContainsFunc_Symbol__i_SignatureFault_1 (s : List ((List Int) × (Int) × Unit)) (u : Unit) : Prop := True
def O_sl_ContainsFunc_Symbol__i_SignatureFault_1 : Opt := ⟨fun i => false, fun i => [], fun i => .done, fun i => none, fun i => false, fun i => [], fun i => false, fun i => none⟩
def τ_sl_ContainsFunc_Symbol__i_SignatureFault_1 : Env := Env.of [(3, (.int .i64)), (4, .bool), (28, (.sl (.pair .str (.pair (.int .i64) .unit))))] [] []

theorem ct_sl_ContainsFunc_Symbol__i_SignatureFault_1 (s : List ((List Int) × (Int) × Unit)) (u : Unit) : Ct pg 133 [.dat (.sl (.pair .str (.pair (.int .i64) .unit))) s, .clo 134 []] ⟨[Q_sl_ContainsFunc_Symbol__i_SignatureFault_1 s u], [⟨.bool, .sh, F_sl_ContainsFunc_Symbol__i_SignatureFault_1 s u⟩], []⟩ := by
  refine ct_claim (O := O_sl_ContainsFunc_Symbol__i_SignatureFault_1) (τ := τ_sl_ContainsFunc_Symbol__i_SignatureFault_1) (EnvOk.of (by kernel_rfl) (by kernel_rfl)) (GOk.of (.cons (ConOk.or ok_sl_IndexFunc_Symbol__i_symbolIndex_1 ok_sl_IndexFunc_Symbol__i_SignatureFault_1) (.cons ok_i_SignatureFault_1 .nil) : AllOk pg [(192, (Con.or con_sl_IndexFunc_Symbol__i_symbolIndex_1 con_sl_IndexFunc_Symbol__i_SignatureFault_1)), (134, con_i_SignatureFault_1)])) mixed (Enters.of (by kernel_rfl)) (fn := Go.Proofs.Tryz.f133) (by kernel_rfl) rfl (by kernel_rfl) ?_
  intro hp hw
  have hq : Q_sl_ContainsFunc_Symbol__i_SignatureFault_1 s u := hp _ (List.mem_singleton.2 rfl)
  clear hp
  change claim Lg.std Alg.std τ_sl_ContainsFunc_Symbol__i_SignatureFault_1 (Gam.of [(192, Con.or (⟨true, g2 (pD (.sl (.pair .str (.pair (.int .i64) .unit)))) (pC1 193 (pP .str)) fun s name => .one ⟨[Q_sl_IndexFunc_Symbol__i_symbolIndex_1 s name], [⟨(.int .i64), .sh, F_sl_IndexFunc_Symbol__i_symbolIndex_1 s name⟩], []⟩, [], false, 0⟩ : Con) (⟨true, g2 (pD (.sl (.pair .str (.pair (.int .i64) .unit)))) (pC0 134) fun s u => .one ⟨[Q_sl_IndexFunc_Symbol__i_SignatureFault_1 s u], [⟨(.int .i64), .sh, F_sl_IndexFunc_Symbol__i_SignatureFault_1 s u⟩], []⟩, [], false, 0⟩)), (134, ⟨true, g1 (pD (.pair .str (.pair (.int .i64) .unit))) fun x => .one ⟨[Q_i_SignatureFault_1 x], [⟨.bool, .sh, F_i_SignatureFault_1 x⟩], []⟩, [], false, 0⟩)]) O_sl_ContainsFunc_Symbol__i_SignatureFault_1 Go.Proofs.Tryz.f133 [.dat (.sl (.pair .str (.pair (.int .i64) .unit))) s, .clo 134 []] ⟨[Q_sl_ContainsFunc_Symbol__i_SignatureFault_1 s u], [⟨.bool, .sh, F_sl_ContainsFunc_Symbol__i_SignatureFault_1 s u⟩], []⟩
  generalize hg_F_sl_IndexFunc_Symbol__i_symbolIndex_1 : F_sl_IndexFunc_Symbol__i_symbolIndex_1 = g_F_sl_IndexFunc_Symbol__i_symbolIndex_1
  generalize hg_Q_sl_IndexFunc_Symbol__i_symbolIndex_1 : Q_sl_IndexFunc_Symbol__i_symbolIndex_1 = g_Q_sl_IndexFunc_Symbol__i_symbolIndex_1
  generalize hg_F_i_SignatureFault_1 : F_i_SignatureFault_1 = g_F_i_SignatureFault_1
  generalize hg_Q_i_SignatureFault_1 : Q_i_SignatureFault_1 = g_Q_i_SignatureFault_1
  generalize hg_F_sl_IndexFunc_Symbol__i_SignatureFault_1 : F_sl_IndexFunc_Symbol__i_SignatureFault_1 = g_F_sl_IndexFunc_Symbol__i_SignatureFault_1
  generalize hg_Q_sl_IndexFunc_Symbol__i_SignatureFault_1 : Q_sl_IndexFunc_Symbol__i_SignatureFault_1 = g_Q_sl_IndexFunc_Symbol__i_SignatureFault_1
  generalize hR0 : F_sl_ContainsFunc_Symbol__i_SignatureFault_1 s u = R0
  generalize Q_sl_ContainsFunc_Symbol__i_SignatureFault_1 s u = Q0
  generalize hL : Lg.std = L
  generalize hA : Alg.std = A
  cbv
  subst hL hA
  try dsimp only [Ty.den]
  have hf := findG_any (fun x => decide (x.2.1 = 0)) s 0 (by omega)
  subst hR0 hg_F_sl_IndexFunc_Symbol__i_symbolIndex_1 hg_Q_sl_IndexFunc_Symbol__i_symbolIndex_1 hg_F_i_SignatureFault_1 hg_Q_i_SignatureFault_1 hg_F_sl_IndexFunc_Symbol__i_SignatureFault_1 hg_Q_sl_IndexFunc_Symbol__i_SignatureFault_1
  simp only [Q_sl_ContainsFunc_Symbol__i_SignatureFault_1] at hq
  simp only [Lg.std, Alg.std, List.drop_zero, List.take_length, F_sl_IndexFunc_Symbol__i_symbolIndex_1, F_i_SignatureFault_1, F_sl_IndexFunc_Symbol__i_SignatureFault_1, Q_sl_IndexFunc_Symbol__i_symbolIndex_1, Q_i_SignatureFault_1, Q_sl_IndexFunc_Symbol__i_SignatureFault_1, F_sl_ContainsFunc_Symbol__i_SignatureFault_1]
  all_goals grind
def con_sl_ContainsFunc_Symbol__i_SignatureFault_1 : Con := ⟨true, g2 (pD (.sl (.pair .str (.pair (.int .i64) .unit)))) (pC0 134) fun s u => .one ⟨[Q_sl_ContainsFunc_Symbol__i_SignatureFault_1 s u], [⟨.bool, .sh, F_sl_ContainsFunc_Symbol__i_SignatureFault_1 s u⟩], []⟩, [], false, 0⟩
theorem ok_sl_ContainsFunc_Symbol__i_SignatureFault_1 : ConOk pg 133 con_sl_ContainsFunc_Symbol__i_SignatureFault_1 := ConOk.g2 (Enters.of (by kernel_rfl)) ct_sl_ContainsFunc_Symbol__i_SignatureFault_1

def F_i_SignatureFault (s : (List ((List Int) × (Int) × Unit)) × Unit) : Int := sigFault s
def Q_i_SignatureFault (s : (List ((List Int) × (Int) × Unit)) × Unit) : Prop := True
def O_i_SignatureFault : Opt := ⟨fun i => false, fun i => (match decide (i = 12) with | true => [false, true, false, false, false, false, false, false, false, false, false, false, false, false, false, false, false, false, false, false, false, false, false, false, false, false, false, false, false, false, false, false, false, false, true, true, true, false, false, false, false, false, false, false, false, false, false, false, false, false, false, false] | false => (match decide (i = 4) with | true => [false, true, false, false, false, false, false, false, false, false, false, false, false, false, false, false, false, false, true, true, true, false, false, false, false, false, false, false, false, false, false, false, false, false, false, false, false, false, false, false, false, false, false, false, false, false, false, false, false, false, false, false] | false => [])), fun i => .done, fun i => none, fun i => false, fun i => [], fun i => false, fun i => none⟩
def τ_i_SignatureFault : Env := Env.of [(2, (.int .i64)), (3, (.int .i64)), (4, .bool), (9, .str), (28, (.sl (.pair .str (.pair (.int .i64) .unit)))), (30, (.pair (.sl (.pair .str (.pair (.int .i64) .unit))) .unit)), (175, (.pair .str (.pair (.int .i64) .unit)))] [] []

theorem ct_i_SignatureFault (s : (List ((List Int) × (Int) × Unit)) × Unit) : Ct pg 69 [.dat (.pair (.sl (.pair .str (.pair (.int .i64) .unit))) .unit) s] ⟨[Q_i_SignatureFault s], [⟨(.int .i64), .sh, F_i_SignatureFault s⟩], []⟩ := by
  refine ct_claim (O := O_i_SignatureFault) (τ := τ_i_SignatureFault) (EnvOk.of (by kernel_rfl) (by kernel_rfl)) (GOk.of (.cons ok_i_within (.cons ok_i_isName (.cons ok_i_symbolIndex (.cons ok_i_SignatureFault_1 (.cons ok_sl_ContainsFunc_Symbol__i_SignatureFault_1 .nil)))) : AllOk pg [(102, con_i_within), (131, con_i_isName), (132, con_i_symbolIndex), (134, con_i_SignatureFault_1), (133, con_sl_ContainsFunc_Symbol__i_SignatureFault_1)])) mixed (Enters.of (by kernel_rfl)) (fn := Go.Proofs.Tryz.f69) (by kernel_rfl) rfl (by kernel_rfl) ?_
  intro hp hw
  have hq : Q_i_SignatureFault s := hp _ (List.mem_singleton.2 rfl)
  clear hp
  change claim Lg.std Alg.std τ_i_SignatureFault (Gam.of [(102, ⟨true, g3 (pD (.int .i64)) (pD (.int .i64)) (pD (.int .i64)) fun n lo hi => .one ⟨[Q_i_within n lo hi], [⟨.bool, .sh, F_i_within n lo hi⟩], []⟩, [], false, 0⟩), (131, ⟨true, g1 (pD .str) fun s => .one ⟨[Q_i_isName s], [⟨.bool, .sh, F_i_isName s⟩], []⟩, [], false, 0⟩), (132, ⟨true, g2 (pD (.pair (.sl (.pair .str (.pair (.int .i64) .unit))) .unit)) (pD .str) fun s name => .one ⟨[Q_i_symbolIndex s name], [⟨(.int .i64), .sh, F_i_symbolIndex s name⟩], []⟩, [], false, 0⟩), (134, ⟨true, g1 (pD (.pair .str (.pair (.int .i64) .unit))) fun x => .one ⟨[Q_i_SignatureFault_1 x], [⟨.bool, .sh, F_i_SignatureFault_1 x⟩], []⟩, [], false, 0⟩), (133, ⟨true, g2 (pD (.sl (.pair .str (.pair (.int .i64) .unit)))) (pC0 134) fun s u => .one ⟨[Q_sl_ContainsFunc_Symbol__i_SignatureFault_1 s u], [⟨.bool, .sh, F_sl_ContainsFunc_Symbol__i_SignatureFault_1 s u⟩], []⟩, [], false, 0⟩)]) O_i_SignatureFault Go.Proofs.Tryz.f69 [.dat (.pair (.sl (.pair .str (.pair (.int .i64) .unit))) .unit) s] ⟨[Q_i_SignatureFault s], [⟨(.int .i64), .sh, F_i_SignatureFault s⟩], []⟩
  generalize hg_F_i_within : F_i_within = g_F_i_within
  generalize hg_Q_i_within : Q_i_within = g_Q_i_within
  generalize hg_F_i_isName : F_i_isName = g_F_i_isName
  generalize hg_Q_i_isName : Q_i_isName = g_Q_i_isName
  generalize hg_F_i_symbolIndex : F_i_symbolIndex = g_F_i_symbolIndex
  generalize hg_Q_i_symbolIndex : Q_i_symbolIndex = g_Q_i_symbolIndex
  generalize hg_F_i_SignatureFault_1 : F_i_SignatureFault_1 = g_F_i_SignatureFault_1
  generalize hg_Q_i_SignatureFault_1 : Q_i_SignatureFault_1 = g_Q_i_SignatureFault_1
  generalize hg_F_sl_ContainsFunc_Symbol__i_SignatureFault_1 : F_sl_ContainsFunc_Symbol__i_SignatureFault_1 = g_F_sl_ContainsFunc_Symbol__i_SignatureFault_1
  generalize hg_Q_sl_ContainsFunc_Symbol__i_SignatureFault_1 : Q_sl_ContainsFunc_Symbol__i_SignatureFault_1 = g_Q_sl_ContainsFunc_Symbol__i_SignatureFault_1
  generalize hR0 : F_i_SignatureFault s = R0
  generalize Q_i_SignatureFault s = Q0
  generalize hL : Lg.std = L
  generalize hA : Alg.std = A
  cbv
  subst hL hA
  try dsimp only [Ty.den]
  obtain ⟨s_0, ⟨⟩⟩ := s
  have hl0 := hw.1.1.1
  repeat' (first | intro _ | apply And.intro)
  all_goals first | trivial | ((fail_if_success (refine lp_v (V := Unit) (fun _ => ⟨[], []⟩) (fun _ => True) (fun _ => 0) () ?_ ?_ ?_)); subst hR0 hg_F_i_within hg_Q_i_within hg_F_i_isName hg_Q_i_isName hg_F_i_symbolIndex hg_Q_i_symbolIndex hg_F_i_SignatureFault_1 hg_Q_i_SignatureFault_1 hg_F_sl_ContainsFunc_Symbol__i_SignatureFault_1 hg_Q_sl_ContainsFunc_Symbol__i_SignatureFault_1; (try simp only [Alg.std, F_i_within, F_i_isName, F_i_symbolIndex, F_i_SignatureFault_1, F_sl_ContainsFunc_Symbol__i_SignatureFault_1, Q_i_within, Q_i_isName, Q_i_symbolIndex, Q_i_SignatureFault_1, Q_sl_ContainsFunc_Symbol__i_SignatureFault_1, F_i_SignatureFault] at *); all_goals grind [sigFault]) | skip
  refine lp_v (V := (Int) × (Int)) (fun ((i, M) : (Int) × (Int)) => ⟨[.junk, .bptr 0 0, .junk, .junk, .junk, .junk, .junk, .junk, .junk, .junk, .junk, .junk, .junk, .junk, .junk, .junk, .junk, .junk, .dat (.sl (.pair .str (.pair (.int .i64) .unit))) s_0, .dat (.int .i64) M, .dat (.int .i64) i, .junk, .junk, .junk, .junk, .junk, .junk, .junk, .junk, .junk, .junk, .junk, .junk, .junk, .junk, .junk, .junk, .junk, .junk, .junk, .junk, .junk, .junk, .junk, .junk, .junk, .junk, .junk, .junk, .junk, .junk, .junk], [some (.box [.dat (.sl (.pair .str (.pair (.int .i64) .unit))) s_0])]⟩) (fun ((i, M) : (Int) × (Int)) => M = s_0.length ∧ 0 ≤ i ∧ i ≤ s_0.length ∧ symBad s_0 = symBad (s_0.drop i.toNat) ∧ (1 ≤ s_0.length ∧ s_0.length ≤ 6)) (fun ((i, M) : (Int) × (Int)) => s_0.length - i.toNat) (0, _) rfl ?_ ?_
  · subst hR0 hg_F_i_within hg_Q_i_within hg_F_i_isName hg_Q_i_isName hg_F_i_symbolIndex hg_Q_i_symbolIndex hg_F_i_SignatureFault_1 hg_Q_i_SignatureFault_1 hg_F_sl_ContainsFunc_Symbol__i_SignatureFault_1 hg_Q_sl_ContainsFunc_Symbol__i_SignatureFault_1
    (try simp only [Alg.std, F_i_within, F_i_isName, F_i_symbolIndex, F_i_SignatureFault_1, F_sl_ContainsFunc_Symbol__i_SignatureFault_1, Q_i_within, Q_i_isName, Q_i_symbolIndex, Q_i_SignatureFault_1, Q_sl_ContainsFunc_Symbol__i_SignatureFault_1, F_i_SignatureFault] at *)
    all_goals grind
  rintro ⟨i, M⟩ hf I hI
  replace hf : M = s_0.length ∧ 0 ≤ i ∧ i ≤ s_0.length ∧ symBad s_0 = symBad (s_0.drop i.toNat) ∧ (1 ≤ s_0.length ∧ s_0.length ≤ 6) := hf
  generalize hL : Lg.std = L
  generalize hA : Alg.std = A
  cbv
  subst hL hA
  try dsimp only [Ty.den]
  subst hI
  obtain ⟨h1, h2, h3, h4, h5⟩ := hf
  have hl := hw.1.1.1
  have hs := fun (h : i.toNat < s_0.length) => symBad_step s_0 i.toNat h
  have he := fun (h : s_0.length ≤ i.toNat) => symBad_end s_0 i.toNat h
  have hsu : (i + 1).toNat = i.toNat + 1 := by omega
  dsimp only [symD] at hs
  repeat' (first | intro _ | apply And.intro)
  all_goals first | (with_reducible exact True.intro) | ((fail_if_success (refine lp_v (V := Unit) (fun _ => ⟨[], []⟩) (fun _ => True) (fun _ => 0) () ?_ ?_ ?_)); (try simp only [Lg.std, Alg.std, List.drop_zero, List.take_length] at *); (try refine ⟨(_, _), rfl, ?_, ?_⟩); (all_goals (subst hR0 hg_F_i_within hg_Q_i_within hg_F_i_isName hg_Q_i_isName hg_F_i_symbolIndex hg_Q_i_symbolIndex hg_F_i_SignatureFault_1 hg_Q_i_SignatureFault_1 hg_F_sl_ContainsFunc_Symbol__i_SignatureFault_1 hg_Q_sl_ContainsFunc_Symbol__i_SignatureFault_1; (try simp only [Lg.std, Alg.std, List.drop_zero, List.take_length, F_i_within, F_i_isName, F_i_symbolIndex, F_i_SignatureFault_1, F_sl_ContainsFunc_Symbol__i_SignatureFault_1, Q_i_within, Q_i_isName, Q_i_symbolIndex, Q_i_SignatureFault_1, Q_sl_ContainsFunc_Symbol__i_SignatureFault_1, F_i_SignatureFault] at *); first | done | ((try generalize s_0.getD i.toNat (([], 0, PUnit.unit) : (List Int) × (Int) × Unit) = xa at *); (try obtain ⟨xa0, xa1, ⟨⟩⟩ := xa); (try dsimp only at *); grind [sigFault])))) | skip
  refine lp_v (V := (Int) × (Int)) (fun ((i, M) : (Int) × (Int)) => ⟨[.junk, .bptr 0 0, .junk, .junk, .junk, .junk, .junk, .junk, .junk, .junk, .junk, .junk, .junk, .junk, .junk, .junk, .junk, .junk, .junk, .junk, .junk, .junk, .junk, .junk, .junk, .junk, .junk, .junk, .junk, .junk, .junk, .junk, .junk, .junk, .dat (.sl (.pair .str (.pair (.int .i64) .unit))) s_0, .dat (.int .i64) M, .dat (.int .i64) i, .junk, .junk, .junk, .junk, .junk, .junk, .junk, .junk, .junk, .junk, .junk, .junk, .junk, .junk, .junk], [some (.box [.dat (.sl (.pair .str (.pair (.int .i64) .unit))) s_0])]⟩) (fun ((i, M) : (Int) × (Int)) => M = s_0.length ∧ 0 ≤ i ∧ i ≤ s_0.length ∧ dupSym s_0 i.toNat = false ∧ symBad s_0 = 0 ∧ (1 ≤ s_0.length ∧ s_0.length ≤ 6)) (fun ((i, M) : (Int) × (Int)) => s_0.length - i.toNat) (0, _) rfl ?_ ?_
  · subst hR0 hg_F_i_within hg_Q_i_within hg_F_i_isName hg_Q_i_isName hg_F_i_symbolIndex hg_Q_i_symbolIndex hg_F_i_SignatureFault_1 hg_Q_i_SignatureFault_1 hg_F_sl_ContainsFunc_Symbol__i_SignatureFault_1 hg_Q_sl_ContainsFunc_Symbol__i_SignatureFault_1
    (try simp only [Alg.std, F_i_within, F_i_isName, F_i_symbolIndex, F_i_SignatureFault_1, F_sl_ContainsFunc_Symbol__i_SignatureFault_1, Q_i_within, Q_i_isName, Q_i_symbolIndex, Q_i_SignatureFault_1, Q_sl_ContainsFunc_Symbol__i_SignatureFault_1, F_i_SignatureFault] at *)
    have hz : dupSym s_0 0 = false := rfl
    have hz0 : (0 : Int).toNat = 0 := rfl
    grind
  rintro ⟨i, M⟩ hf I hI
  replace hf : M = s_0.length ∧ 0 ≤ i ∧ i ≤ s_0.length ∧ dupSym s_0 i.toNat = false ∧ symBad s_0 = 0 ∧ (1 ≤ s_0.length ∧ s_0.length ≤ 6) := hf
  generalize hL : Lg.std = L
  generalize hA : Alg.std = A
  cbv
  subst hL hA
  try dsimp only [Ty.den]
  subst hI
  obtain ⟨h1, h2, h3, h4, h5, h6⟩ := hf
  have hl := hw.1.1.1
  have hf := fun (h : i.toNat < s_0.length) => sym_find s_0 i.toNat h
  have hd := fun (h : i.toNat < s_0.length) => sym_dup s_0 i.toNat h
  have hds := sym_succ s_0 i.toNat
  have hsu : (i + 1).toNat = i.toNat + 1 := by omega
  have hc : (i.toNat : Int) = i := by omega
  dsimp only [symD] at hf
  repeat' (first | intro _ | apply And.intro)
  all_goals first | (with_reducible exact True.intro) | ((fail_if_success (refine lp_v (V := Unit) (fun _ => ⟨[], []⟩) (fun _ => True) (fun _ => 0) () ?_ ?_ ?_)); (try simp only [Lg.std, Alg.std, List.drop_zero, List.take_length] at *); (try refine ⟨(_, _), rfl, ?_, ?_⟩); (all_goals (subst hR0 hg_F_i_within hg_Q_i_within hg_F_i_isName hg_Q_i_isName hg_F_i_symbolIndex hg_Q_i_symbolIndex hg_F_i_SignatureFault_1 hg_Q_i_SignatureFault_1 hg_F_sl_ContainsFunc_Symbol__i_SignatureFault_1 hg_Q_sl_ContainsFunc_Symbol__i_SignatureFault_1; (try simp only [Lg.std, Alg.std, List.drop_zero, List.take_length, F_i_within, F_i_isName, F_i_symbolIndex, F_i_SignatureFault_1, F_sl_ContainsFunc_Symbol__i_SignatureFault_1, Q_i_within, Q_i_isName, Q_i_symbolIndex, Q_i_SignatureFault_1, Q_sl_ContainsFunc_Symbol__i_SignatureFault_1, F_i_SignatureFault] at *); first | done | ((try generalize s_0.getD i.toNat (([], 0, PUnit.unit) : (List Int) × (Int) × Unit) = xa at *); (try obtain ⟨xa0, xa1, ⟨⟩⟩ := xa); (try dsimp only at *); grind [sigFault])))) | skip
def con_i_SignatureFault : Con := ⟨true, g1 (pD (.pair (.sl (.pair .str (.pair (.int .i64) .unit))) .unit)) fun s => .one ⟨[Q_i_SignatureFault s], [⟨(.int .i64), .sh, F_i_SignatureFault s⟩], []⟩, [], false, 0⟩
theorem ok_i_SignatureFault : ConOk pg 69 con_i_SignatureFault := ConOk.g1 (Enters.of (by kernel_rfl)) ct_i_SignatureFault

def F_s_SignatureFault (s : (List ((List Int) × (Int) × Unit)) × Unit) : Int := sigFault s
def Q_s_SignatureFault (s : (List ((List Int) × (Int) × Unit)) × Unit) : Prop := True
def O_s_SignatureFault : Opt := ⟨fun i => (match decide (i = 17) with | true => true | false => false), fun i => (match decide (i = 20) with | true => [false, true, false, true, false, false, false, true, false, false, false, false, false, false, false, false, false, false, false, false, false, false, false, false, false, false, false, false, false, false, false, false, false, false, false, false, false, false, false, false, false, false, false, false, false, false, false, false, false, false, false, false, false, false, false, false, false, false, false, false, false, false, false, false, false, false, false, false, false, false, false, false, false] | false => (match decide (i = 15) with | true => [false, true, false, true, false, true, true, false, false, false, false, false, false, false, false, false, false, false, false, false, false, false, false, false, false, false, false, false, false, false, false, false, false, false, false, false, false, false, false, false, false, false, false, false, false, false, false, false, false, false, false, false, false, false, false, false, false, false, false, false, false, false, false, false, false, false, false, false, false, false, false, false, false] | false => (match decide (i = 12) with | true => [false, true, false, true, false, true, false, false, false, false, false, false, false, false, false, false, false, false, false, false, false, false, false, false, false, false, false, false, false, false, false, false, false, false, false, false, false, false, false, false, false, false, false, false, false, false, false, false, false, false, false, false, false, false, false, false, false, false, false, false, false, false, false, false, false, false, false, false, false, false, false, false, false] | false => (match decide (i = 5) with | true => [false, true, false, true, true, false, false, false, false, false, false, false, false, false, false, false, false, false, false, false, false, false, false, false, false, false, false, false, false, false, false, false, false, false, false, false, false, false, false, false, false, false, false, false, false, false, false, false, false, false, false, false, false, false, false, false, false, false, false, false, false, false, false, false, false, false, false, false, false, false, false, false, false] | false => [])))), fun i => .done, fun i => none, fun i => false, fun i => [], fun i => false, fun i => none⟩
def τ_s_SignatureFault : Env := Env.of [(2, (.int .i64)), (3, (.int .i64)), (4, .bool), (9, .str), (28, (.sl (.pair .str (.pair (.int .i64) .unit)))), (30, (.pair (.sl (.pair .str (.pair (.int .i64) .unit))) .unit)), (175, (.pair .str (.pair (.int .i64) .unit)))] [] []

theorem ct_s_SignatureFault (s : (List ((List Int) × (Int) × Unit)) × Unit) : Ct pg 66 [.dat (.pair (.sl (.pair .str (.pair (.int .i64) .unit))) .unit) s] ⟨[Q_s_SignatureFault s], [⟨(.int .i64), .sh, F_s_SignatureFault s⟩], []⟩ := by
  refine ct_claim (O := O_s_SignatureFault) (τ := τ_s_SignatureFault) (EnvOk.of (by kernel_rfl) (by kernel_rfl)) (GOk.of (.cons ok_s_l1In (.cons ok_s_l2Name .nil) : AllOk pg [(100, con_s_l1In), (127, con_s_l2Name)])) mixed (Enters.of (by kernel_rfl)) (fn := Go.Proofs.Tryz.f66) (by kernel_rfl) rfl (by kernel_rfl) ?_
  intro hp hw
  have hq : Q_s_SignatureFault s := hp _ (List.mem_singleton.2 rfl)
  clear hp
  change claim Lg.std Alg.std τ_s_SignatureFault (Gam.of [(100, ⟨true, g3 (pD (.int .i64)) (pD (.int .i64)) (pD (.int .i64)) fun n lo hi => .one ⟨[Q_s_l1In n lo hi], [⟨.bool, .sh, F_s_l1In n lo hi⟩], []⟩, [], false, 0⟩), (127, ⟨true, g1 (pD .str) fun s => .one ⟨[Q_s_l2Name s], [⟨.bool, .sh, F_s_l2Name s⟩], []⟩, [], false, 0⟩)]) O_s_SignatureFault Go.Proofs.Tryz.f66 [.dat (.pair (.sl (.pair .str (.pair (.int .i64) .unit))) .unit) s] ⟨[Q_s_SignatureFault s], [⟨(.int .i64), .sh, F_s_SignatureFault s⟩], []⟩
  generalize hg_F_s_l1In : F_s_l1In = g_F_s_l1In
  generalize hg_Q_s_l1In : Q_s_l1In = g_Q_s_l1In
  generalize hg_F_s_l2Name : F_s_l2Name = g_F_s_l2Name
  generalize hg_Q_s_l2Name : Q_s_l2Name = g_Q_s_l2Name
  generalize hR0 : F_s_SignatureFault s = R0
  generalize Q_s_SignatureFault s = Q0
  generalize hL : Lg.std = L
  generalize hA : Alg.std = A
  cbv
  subst hL hA
  try dsimp only [Ty.den]
  obtain ⟨s_0, ⟨⟩⟩ := s
  have hl0 := hw.1.1.1
  repeat' (first | intro _ | apply And.intro)
  all_goals first | trivial | ((fail_if_success (refine lp_v (V := Unit) (fun _ => ⟨[], []⟩) (fun _ => True) (fun _ => 0) () ?_ ?_ ?_)); subst hR0 hg_F_s_l1In hg_Q_s_l1In hg_F_s_l2Name hg_Q_s_l2Name; (try simp only [Alg.std, F_s_l1In, F_s_l2Name, Q_s_l1In, Q_s_l2Name, F_s_SignatureFault] at *); all_goals grind [sigFault]) | skip
  refine lp_v (V := (Int) × (Int)) (fun ((i, M) : (Int) × (Int)) => ⟨[.junk, .bptr 0 0, .junk, .dat (.int .i64) M, .dat (.int .i64) i, .junk, .junk, .junk, .junk, .junk, .junk, .junk, .junk, .junk, .junk, .junk, .junk, .junk, .junk, .junk, .junk, .junk, .junk, .junk, .junk, .junk, .junk, .junk, .junk, .junk, .junk, .junk, .junk, .junk, .junk, .junk, .junk, .junk, .junk, .junk, .junk, .junk, .junk, .junk, .junk, .junk, .junk, .junk, .junk, .junk, .junk, .junk, .junk, .junk, .junk, .junk, .junk, .junk, .junk, .junk, .junk, .junk, .junk, .junk, .junk, .junk, .junk, .junk, .junk, .junk, .junk, .junk, .junk], [some (.box [.dat (.sl (.pair .str (.pair (.int .i64) .unit))) s_0])]⟩) (fun ((i, M) : (Int) × (Int)) => M = s_0.length ∧ 0 ≤ i ∧ i ≤ s_0.length ∧ symBad s_0 = symBad (s_0.drop i.toNat) ∧ (1 ≤ s_0.length ∧ s_0.length ≤ 6)) (fun ((i, M) : (Int) × (Int)) => s_0.length - i.toNat) (0, _) rfl ?_ ?_
  · subst hR0 hg_F_s_l1In hg_Q_s_l1In hg_F_s_l2Name hg_Q_s_l2Name
    (try simp only [Alg.std, F_s_l1In, F_s_l2Name, Q_s_l1In, Q_s_l2Name, F_s_SignatureFault] at *)
    all_goals grind
  rintro ⟨i, M⟩ hf I hI
  replace hf : M = s_0.length ∧ 0 ≤ i ∧ i ≤ s_0.length ∧ symBad s_0 = symBad (s_0.drop i.toNat) ∧ (1 ≤ s_0.length ∧ s_0.length ≤ 6) := hf
  generalize hL : Lg.std = L
  generalize hA : Alg.std = A
  cbv
  subst hL hA
  try dsimp only [Ty.den]
  subst hI
  obtain ⟨h1, h2, h3, h4, h5⟩ := hf
  have hl := hw.1.1.1
  have hs := fun (h : i.toNat < s_0.length) => symBad_step s_0 i.toNat h
  have he := fun (h : s_0.length ≤ i.toNat) => symBad_end s_0 i.toNat h
  have hsu : (i + 1).toNat = i.toNat + 1 := by omega
  dsimp only [symD] at hs
  repeat' (first | intro _ | apply And.intro)
  all_goals first | (with_reducible exact True.intro) | ((fail_if_success (refine lp_v (V := Unit) (fun _ => ⟨[], []⟩) (fun _ => True) (fun _ => 0) () ?_ ?_ ?_)); (try simp only [Lg.std, Alg.std, List.drop_zero, List.take_length] at *); (try refine ⟨(_, _), rfl, ?_, ?_⟩); (all_goals (subst hR0 hg_F_s_l1In hg_Q_s_l1In hg_F_s_l2Name hg_Q_s_l2Name; (try simp only [Lg.std, Alg.std, List.drop_zero, List.take_length, F_s_l1In, F_s_l2Name, Q_s_l1In, Q_s_l2Name, F_s_SignatureFault] at *); first | done | ((try generalize s_0.getD i.toNat (([], 0, PUnit.unit) : (List Int) × (Int) × Unit) = xa at *); (try obtain ⟨xa0, xa1, ⟨⟩⟩ := xa); (try dsimp only at *); grind [sigFault])))) | skip
  refine lp_v (V := (Int) × (Int)) (fun ((i, M) : (Int) × (Int)) => ⟨[.junk, .bptr 0 0, .junk, .dat (.int .i64) M, .junk, .dat (.int .i64) i, .junk, .junk, .junk, .junk, .junk, .junk, .junk, .junk, .junk, .junk, .junk, .junk, .junk, .junk, .junk, .junk, .junk, .junk, .junk, .junk, .junk, .junk, .junk, .junk, .junk, .junk, .junk, .junk, .junk, .junk, .junk, .junk, .junk, .junk, .junk, .junk, .junk, .junk, .junk, .junk, .junk, .junk, .junk, .junk, .junk, .junk, .junk, .junk, .junk, .junk, .junk, .junk, .junk, .junk, .junk, .junk, .junk, .junk, .junk, .junk, .junk, .junk, .junk, .junk, .junk, .junk, .junk], [some (.box [.dat (.sl (.pair .str (.pair (.int .i64) .unit))) s_0])]⟩) (fun ((i, M) : (Int) × (Int)) => M = s_0.length ∧ 0 ≤ i ∧ i ≤ s_0.length ∧ dupSym s_0 i.toNat = false ∧ symBad s_0 = 0 ∧ (1 ≤ s_0.length ∧ s_0.length ≤ 6)) (fun ((i, M) : (Int) × (Int)) => s_0.length - i.toNat) (0, _) rfl ?_ ?_
  · subst hR0 hg_F_s_l1In hg_Q_s_l1In hg_F_s_l2Name hg_Q_s_l2Name
    (try simp only [Alg.std, F_s_l1In, F_s_l2Name, Q_s_l1In, Q_s_l2Name, F_s_SignatureFault] at *)
    have hz : dupSym s_0 0 = false := rfl
    have hz0 : (0 : Int).toNat = 0 := rfl
    grind
  rintro ⟨i, M⟩ hf I hI
  replace hf : M = s_0.length ∧ 0 ≤ i ∧ i ≤ s_0.length ∧ dupSym s_0 i.toNat = false ∧ symBad s_0 = 0 ∧ (1 ≤ s_0.length ∧ s_0.length ≤ 6) := hf
  generalize hL : Lg.std = L
  generalize hA : Alg.std = A
  cbv
  subst hL hA
  try dsimp only [Ty.den]
  subst hI
  obtain ⟨h1, h2, h3, h4, h5, h6⟩ := hf
  have hl := hw.1.1.1
  have hz := sym_zero s_0 i.toNat
  have hsu : (i + 1).toNat = i.toNat + 1 := by omega
  repeat' (first | intro _ | apply And.intro)
  all_goals first | (with_reducible exact True.intro) | ((fail_if_success (refine lp_v (V := Unit) (fun _ => ⟨[], []⟩) (fun _ => True) (fun _ => 0) () ?_ ?_ ?_)); (try simp only [Lg.std, Alg.std, List.drop_zero, List.take_length] at *); (first | refine ⟨(_, _), rfl, ?_, ?_⟩ | refine ⟨(_, _), rfl, ?_, ?_⟩ | skip); (all_goals (subst hR0 hg_F_s_l1In hg_Q_s_l1In hg_F_s_l2Name hg_Q_s_l2Name; (try simp only [Lg.std, Alg.std, List.drop_zero, List.take_length, F_s_l1In, F_s_l2Name, Q_s_l1In, Q_s_l2Name, F_s_SignatureFault] at *); first | done | (grind [sigFault])))) | skip
  refine lp_v (V := (Int)) (fun (j : Int) => ⟨[.junk, .bptr 0 0, .junk, .dat (.int .i64) M, .junk, .dat (.int .i64) i, .dat (.int .i64) j, .junk, .junk, .junk, .junk, .junk, .junk, .junk, .junk, .junk, .junk, .junk, .junk, .junk, .junk, .junk, .junk, .junk, .junk, .junk, .junk, .junk, .junk, .junk, .junk, .junk, .junk, .junk, .junk, .junk, .junk, .junk, .junk, .junk, .junk, .junk, .junk, .junk, .junk, .junk, .junk, .junk, .junk, .junk, .junk, .junk, .junk, .junk, .junk, .junk, .junk, .junk, .junk, .junk, .junk, .junk, .junk, .junk, .junk, .junk, .junk, .junk, .junk, .junk, .junk, .junk, .junk], [some (.box [.dat (.sl (.pair .str (.pair (.int .i64) .unit))) s_0])]⟩) (fun (j : Int) => 0 ≤ j ∧ j ≤ i ∧ seenSym s_0 i.toNat j.toNat = false) (fun (j : Int) => i.toNat - j.toNat) (0) rfl ?_ ?_
  · simp only [Alg.std] at *
    grind
  rintro j hf I hI
  replace hf : 0 ≤ j ∧ j ≤ i ∧ seenSym s_0 i.toNat j.toNat = false := hf
  generalize hL : Lg.std = L
  generalize hA : Alg.std = A
  cbv
  subst hL hA
  try dsimp only [Ty.den]
  subst hI
  obtain ⟨h1, h2, h3⟩ := hf
  have hss := fun (h : j.toNat < s_0.length) => sym_seen s_0 i.toNat j.toNat h
  have hh := fun (h : i.toNat < s_0.length) (g : j.toNat < i.toNat) => sym_hit s_0 i.toNat j.toNat h g
  have hds := sym_succ s_0 i.toNat
  have hsj : (j + 1).toNat = j.toNat + 1 := by omega
  dsimp only [symD] at hss hh
  repeat' (first | intro _ | apply And.intro)
  all_goals first | (with_reducible exact True.intro) | ((fail_if_success (refine lp_v (V := Unit) (fun _ => ⟨[], []⟩) (fun _ => True) (fun _ => 0) () ?_ ?_ ?_)); (try simp only [Lg.std, Alg.std, List.drop_zero, List.take_length] at *); (first | refine ⟨(_, _), rfl, ?_, ?_⟩ | refine ⟨_, rfl, ?_, ?_⟩ | skip); (all_goals (subst hR0 hg_F_s_l1In hg_Q_s_l1In hg_F_s_l2Name hg_Q_s_l2Name; (try simp only [Lg.std, Alg.std, List.drop_zero, List.take_length, F_s_l1In, F_s_l2Name, Q_s_l1In, Q_s_l2Name, F_s_SignatureFault] at *); first | done | ((try generalize s_0.getD i.toNat (([], 0, PUnit.unit) : (List Int) × (Int) × Unit) = xa at *); (try obtain ⟨xa0, xa1, ⟨⟩⟩ := xa); (try dsimp only at *); (try generalize s_0.getD j.toNat (([], 0, PUnit.unit) : (List Int) × (Int) × Unit) = xb at *); (try obtain ⟨xb0, xb1, ⟨⟩⟩ := xb); (try dsimp only at *); grind [sigFault])))) | skip
  refine lp_v (V := (Int) × (Int)) (fun ((i, M) : (Int) × (Int)) => ⟨[.junk, .bptr 0 0, .junk, .dat (.int .i64) M, .junk, .junk, .junk, .dat (.int .i64) i, .junk, .junk, .junk, .junk, .junk, .junk, .junk, .junk, .junk, .junk, .junk, .junk, .junk, .junk, .junk, .junk, .junk, .junk, .junk, .junk, .junk, .junk, .junk, .junk, .junk, .junk, .junk, .junk, .junk, .junk, .junk, .junk, .junk, .junk, .junk, .junk, .junk, .junk, .junk, .junk, .junk, .junk, .junk, .junk, .junk, .junk, .junk, .junk, .junk, .junk, .junk, .junk, .junk, .junk, .junk, .junk, .junk, .junk, .junk, .junk, .junk, .junk, .junk, .junk, .junk], [some (.box [.dat (.sl (.pair .str (.pair (.int .i64) .unit))) s_0])]⟩) (fun ((i, M) : (Int) × (Int)) => M = s_0.length ∧ 0 ≤ i ∧ i ≤ s_0.length ∧ dupSym s_0 s_0.length = false ∧ symBad s_0 = 0 ∧ (1 ≤ s_0.length ∧ s_0.length ≤ 6) ∧ s_0.any (fun x => decide (x.2.1 = 0)) = (s_0.drop i.toNat).any (fun x => decide (x.2.1 = 0))) (fun ((i, M) : (Int) × (Int)) => s_0.length - i.toNat) (0, _) rfl ?_ ?_
  · subst hR0 hg_F_s_l1In hg_Q_s_l1In hg_F_s_l2Name hg_Q_s_l2Name
    (try simp only [Alg.std, F_s_l1In, F_s_l2Name, Q_s_l1In, Q_s_l2Name, F_s_SignatureFault] at *)
    have hz1 : (s_0.length : Int).toNat = s_0.length := rfl
    grind
  rintro ⟨i, M⟩ hf I hI
  replace hf : M = s_0.length ∧ 0 ≤ i ∧ i ≤ s_0.length ∧ dupSym s_0 s_0.length = false ∧ symBad s_0 = 0 ∧ (1 ≤ s_0.length ∧ s_0.length ≤ 6) ∧ s_0.any (fun x => decide (x.2.1 = 0)) = (s_0.drop i.toNat).any (fun x => decide (x.2.1 = 0)) := hf
  generalize hL : Lg.std = L
  generalize hA : Alg.std = A
  cbv
  subst hL hA
  try dsimp only [Ty.den]
  subst hI
  obtain ⟨h1, h2, h3, h4, h5, h6, h7⟩ := hf
  have hl := hw.1.1.1
  have hs := fun (h : i.toNat < s_0.length) => any_step (fun x : SymT => decide (x.2.1 = 0)) s_0 symD i.toNat h
  have he := fun (h : s_0.length ≤ i.toNat) => any_end (fun x : SymT => decide (x.2.1 = 0)) s_0 i.toNat h
  have hsu : (i + 1).toNat = i.toNat + 1 := by omega
  dsimp only [symD] at hs
  repeat' (first | intro _ | apply And.intro)
  all_goals first | (with_reducible exact True.intro) | ((fail_if_success (refine lp_v (V := Unit) (fun _ => ⟨[], []⟩) (fun _ => True) (fun _ => 0) () ?_ ?_ ?_)); (try simp only [Lg.std, Alg.std, List.drop_zero, List.take_length] at *); (try refine ⟨(_, _), rfl, ?_, ?_⟩); (all_goals (subst hR0 hg_F_s_l1In hg_Q_s_l1In hg_F_s_l2Name hg_Q_s_l2Name; (try simp only [Lg.std, Alg.std, List.drop_zero, List.take_length, F_s_l1In, F_s_l2Name, Q_s_l1In, Q_s_l2Name, F_s_SignatureFault] at *); first | done | ((try generalize s_0.getD i.toNat (([], 0, PUnit.unit) : (List Int) × (Int) × Unit) = xa at *); (try obtain ⟨xa0, xa1, ⟨⟩⟩ := xa); (try dsimp only at *); grind [sigFault])))) | skip
def con_s_SignatureFault : Con := ⟨true, g1 (pD (.pair (.sl (.pair .str (.pair (.int .i64) .unit))) .unit)) fun s => .one ⟨[Q_s_SignatureFault s], [⟨(.int .i64), .sh, F_s_SignatureFault s⟩], []⟩, [], false, 0⟩
theorem ok_s_SignatureFault : ConOk pg 66 con_s_SignatureFault := ConOk.g1 (Enters.of (by kernel_rfl)) ct_s_SignatureFault

def F_i_isSymbol (s : (List ((List Int) × (Int) × Unit)) × Unit) (n : Int) : Bool := decide (0 ≤ n ∧ n ≤ (s.1.length : Int) - 1)
def Q_i_isSymbol (s : (List ((List Int) × (Int) × Unit)) × Unit) (n : Int) : Prop := True
def O_i_isSymbol : Opt := ⟨fun i => false, fun i => [], fun i => .done, fun i => none, fun i => false, fun i => [], fun i => false, fun i => none⟩
def τ_i_isSymbol : Env := Env.of [(2, (.int .i64)), (3, (.int .i64)), (4, .bool), (28, (.sl (.pair .str (.pair (.int .i64) .unit)))), (30, (.pair (.sl (.pair .str (.pair (.int .i64) .unit))) .unit))] [] []

theorem ct_i_isSymbol (s : (List ((List Int) × (Int) × Unit)) × Unit) (n : Int) : Ct pg 232 [.dat (.pair (.sl (.pair .str (.pair (.int .i64) .unit))) .unit) s, .dat (.int .i64) n] ⟨[Q_i_isSymbol s n], [⟨.bool, .sh, F_i_isSymbol s n⟩], []⟩ := by
  refine ct_claim (O := O_i_isSymbol) (τ := τ_i_isSymbol) (EnvOk.of (by kernel_rfl) (by kernel_rfl)) (GOk.of (.cons ok_i_within .nil : AllOk pg [(102, con_i_within)])) mixed (Enters.of (by kernel_rfl)) (fn := Go.Proofs.Tryz.f232) (by kernel_rfl) rfl (by kernel_rfl) ?_
  intro hp hw
  have hq : Q_i_isSymbol s n := hp _ (List.mem_singleton.2 rfl)
  clear hp
  change claim Lg.std Alg.std τ_i_isSymbol (Gam.of [(102, ⟨true, g3 (pD (.int .i64)) (pD (.int .i64)) (pD (.int .i64)) fun n lo hi => .one ⟨[Q_i_within n lo hi], [⟨.bool, .sh, F_i_within n lo hi⟩], []⟩, [], false, 0⟩)]) O_i_isSymbol Go.Proofs.Tryz.f232 [.dat (.pair (.sl (.pair .str (.pair (.int .i64) .unit))) .unit) s, .dat (.int .i64) n] ⟨[Q_i_isSymbol s n], [⟨.bool, .sh, F_i_isSymbol s n⟩], []⟩
  generalize hg_F_i_within : F_i_within = g_F_i_within
  generalize hg_Q_i_within : Q_i_within = g_Q_i_within
  generalize hR0 : F_i_isSymbol s n = R0
  generalize Q_i_isSymbol s n = Q0
  generalize hL : Lg.std = L
  generalize hA : Alg.std = A
  cbv
  subst hL hA
  try dsimp only [Ty.den]
  obtain ⟨s_0, ⟨⟩⟩ := s
  have hl := hw.1.1.1
  subst hR0 hg_F_i_within hg_Q_i_within
  simp only [Q_i_isSymbol] at hq
  simp only [Lg.std, Alg.std, List.drop_zero, List.take_length, F_i_within, Q_i_within, F_i_isSymbol]
  all_goals grind
def con_i_isSymbol : Con := ⟨true, g2 (pD (.pair (.sl (.pair .str (.pair (.int .i64) .unit))) .unit)) (pD (.int .i64)) fun s n => .one ⟨[Q_i_isSymbol s n], [⟨.bool, .sh, F_i_isSymbol s n⟩], []⟩, [], false, 0⟩
theorem ok_i_isSymbol : ConOk pg 232 con_i_isSymbol := ConOk.g2 (Enters.of (by kernel_rfl)) ct_i_isSymbol
end Go.Vee
