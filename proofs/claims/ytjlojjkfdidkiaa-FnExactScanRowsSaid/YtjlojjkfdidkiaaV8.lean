/-
  Plain facts about lists and data, without a program.
-/
import Derived.Test.YtjlojjkfdidkiaaV7
set_option linter.unusedSimpArgs false
set_option linter.unusedVariables false
namespace Go.Vee
theorem drop_cons {α : Type} (a : List α) (d : α) (i : Nat) (h : i < a.length) : a.drop i = a.getD i d :: a.drop (i + 1) := by
  rw [List.drop_eq_getElem_cons h]
  simp [List.getD_eq_getElem?_getD, h]
end Go.Vee
namespace Go.Vee
def pageFault (p : Int × Int × List Int × Unit) : Int := if ¬ (1 ≤ p.1 ∧ p.1 ≤ 3 ∧ 2 ≤ p.2.1 ∧ p.2.1 ≤ 63) then 3 else if (p.2.2.1.length : Int) > 91 then 2 else 0
end Go.Vee
namespace Go.Vee
def markBytes : List Int → Int → List Int
  | [], _ => []
  | _ :: a, k => k % 256 :: markBytes a (k + 1)
def heldBytes : List Int → Int → Int
  | [], k => k
  | x :: a, k => if x = k % 256 then heldBytes a (k + 1) else -1
def sumOf (s : Int) : List Int → Int
  | [] => s
  | b :: l => sumOf ((227 * s + b + 1) % 65521) l
end Go.Vee
namespace Go.Vee
end Go.Vee
namespace Go.Vee
theorem drop_nil {α : Type} (a : List α) (i : Nat) (h : a.length ≤ i) : a.drop i = [] := List.drop_eq_nil_of_le h
end Go.Vee
namespace Go.Vee
def pairOf (n : Int) : List Int := [n / 256 % 256, n % 256]
def padded (p : Int × Int × List Int × Unit) : List Int := [p.1 % 256, p.2.1 % 256, (p.2.2.1.length : Int) % 256] ++ p.2.2.1 ++ List.replicate (94 - (3 + p.2.2.1.length)) 0
def packPage (p : Int × Int × List Int × Unit) : List Int := padded p ++ pairOf (sumOf 29 (padded p))
theorem padded_length (p : Int × Int × List Int × Unit) (h : p.2.2.1.length ≤ 91) : (padded p).length = 94 := by simp [padded]; omega
theorem sumOf_nonneg (s : Int) (l : List Int) (h : 0 ≤ s) : 0 ≤ sumOf s l := by
  induction l generalizing s with
  | nil => exact h
  | cons b l ih => simp only [sumOf]; exact ih _ (by omega)
end Go.Vee
namespace Go.Vee
/-- What is left behind a place. -/
theorem take_rest {α : Type} (l : List α) (n : Nat) : List.take ((l.length : Int).toNat - n) (l.drop n) = l.drop n := List.take_of_length_le (by simp)
end Go.Vee

set_option linter.unusedSimpArgs false
set_option linter.unusedVariables false
namespace Go.Vee
open Go
theorem copy_step {α : Type} (a : List α) (d : α) (k : Nat) (h : k < a.length) : (a.take k ++ List.replicate (a.length - k) d).set k (a.getD k d) = a.take (k + 1) ++ List.replicate (a.length - (k + 1)) d := by
  have e : a.length - k = (a.length - (k + 1)) + 1 := by omega
  have hl : (a.take k).length = k := by simp; omega
  rw [e, List.replicate_succ, List.set_append_right _ _ (by omega), hl, Nat.sub_self, List.set_cons_zero, List.take_succ_eq_append_getElem h, List.append_assoc, List.singleton_append]
  have : a.getD k d = a[k] := by simp [List.getD_eq_getElem?_getD, h]
  rw [this]
theorem set_step {α : Type} (m a : List α) (k : Nat) (h : k < a.length) (hl : m.length = a.length) (v : α) (hv : m[k]'(by omega) = v) : (m.take k ++ a.drop k).set k v = m.take (k + 1) ++ a.drop (k + 1) := by
  have hl' : (m.take k).length = k := by simp; omega
  rw [List.set_append_right _ _ (by omega), hl', Nat.sub_self, List.drop_eq_getElem_cons h, List.set_cons_zero, List.take_succ_eq_append_getElem (by omega), List.append_assoc, List.singleton_append, hv]
theorem wrap8 (n : Int) : IntKind.wrap .u8 n = n % 256 := by simp [IntKind.wrap, IntKind.bits, IntKind.signed]
theorem markBytes_length : ∀ (a : List Int) (k : Int), (markBytes a k).length = a.length
  | [], _ => rfl
  | _ :: a, k => by simp [markBytes, markBytes_length a]
theorem markBytes_get : ∀ (a : List Int) (k : Int) (i : Nat) (h : i < (markBytes a k).length), (markBytes a k)[i] = (k + i) % 256
  | [], _, i, h => by simp [markBytes] at h
  | _ :: a, k, 0, h => by simp [markBytes]
  | _ :: a, k, i + 1, h => by simp only [markBytes, List.getElem_cons_succ]; rw [markBytes_get a]; congr 1; omega
theorem mark_step (a : List Int) (k : Int) (i : Nat) (h : i < a.length) : ((markBytes a k).take i ++ a.drop i).set i ((k + i) % 256) = (markBytes a k).take (i + 1) ++ a.drop (i + 1) :=
  set_step _ a i h (markBytes_length a k) _ (markBytes_get a k i (by rw [markBytes_length]; exact h))
theorem getD_range {a : List Int} {lo hi : Int} (h : ∀ x ∈ a, lo ≤ x ∧ x ≤ hi) (d : Int) (i : Nat) (hi' : i < a.length) : lo ≤ a.getD i d ∧ a.getD i d ≤ hi := by
  rw [List.getD_eq_getElem?_getD, List.getElem?_eq_getElem hi']
  exact h _ (List.getElem_mem hi')
end Go.Vee
namespace Go.Vee
open Go
theorem u8s {a : List Int} (h : ∀ x ∈ a, wf (.int .u8) x) : ∀ x ∈ a, 0 ≤ x ∧ x ≤ 255 := fun x hx => by
  have := h x hx
  simpa [wf, IntKind.min, IntKind.max, IntKind.signed, IntKind.bits] using this
theorem i64w {x : Int} (h : wf (.int .i64) x) : -9223372036854775808 ≤ x ∧ x ≤ 9223372036854775807 := by
  simpa [wf, IntKind.min, IntKind.max, IntKind.signed, IntKind.bits] using h
theorem u8at {a : List Int} (h : ∀ x ∈ a, wf (.int .u8) x) (i : Nat) (hi : i < a.length) : 0 ≤ a.getD i 0 ∧ a.getD i 0 ≤ 255 := getD_range (u8s h) 0 i hi
end Go.Vee
namespace Go.Vee
end Go.Vee
namespace Go.Vee
open Go
theorem fdiv256 (n : Int) : n.fdiv (2 ^ min 8 IntKind.i64.bits) = n / 256 := by
  rw [show (min 8 IntKind.i64.bits) = 8 from rfl, Int.fdiv_eq_ediv_of_nonneg n (by omega)]
  rfl
end Go.Vee

set_option linter.unusedSimpArgs false
set_option linter.unusedVariables false
namespace Go.Vee
open Go

/-! ## What the laws do with data of any type: count, mark, look at marks -/
def totL {α : Type} (f : α → Nat) : List α → Nat
  | [] => 0
  | x :: l => 1 + f x + totL f l
/-- How many elements of slices there are. -/
def tot : (t : Ty) → t.den → Nat
  | .sl e, xs => totL (tot e) xs
  | .pair a b, x => tot a x.1 + tot b x.2
  | .str, x => List.length (α := Int) x
  | _, _ => 0
def cntL {α : Type} (f : α → Nat) : List α → Nat
  | [] => 0
  | x :: l => f x + cntL f l
/-- How many marks. 'el': does it lie in a slice? -/
def cnt : Bool → (t : Ty) → t.den → Nat
  | _, .sl e, xs => cntL (cnt true e) xs
  | el, .pair a b, x => cnt el a x.1 + cnt el b x.2
  | _, .unit, _ => 0
  | el, _, _ => if el then 1 else 0
/-- The digits of k, ahead of what stands there. -/
def digs (k : Int) (acc : List Int) : List Int := if h : k ≤ 0 then acc else digs (k / 10) ((48 + k % 10) :: acc)
termination_by k.toNat
decreasing_by omega
def digits (k : Int) : List Int := digs k []
def markText (k : Int) : List Int := if k ≤ 0 then [109, 48] else 109 :: digits k
def mkL {α : Type} (f : α → Int → α) (n : α → Nat) : List α → Int → List α
  | [], _ => []
  | x :: l, k => f x k :: mkL f n l (k + n x)
/-- Data marked from k on. -/
def mk : Bool → (t : Ty) → t.den → Int → t.den
  | _, .sl e, xs, k => mkL (mk true e) (cnt true e) xs k
  | el, .pair a b, x, k => (mk el a x.1 k, mk el b x.2 (k + cnt el a x.1))
  | _, .unit, x, _ => x
  | el, .int kd, x, k => if el then kd.wrap k else x
  | el, .str, x, k => if el then markText k else x
  | _, .bool, x, _ => x
def hdL {α : Type} (f : α → Int → Int) : List α → Int → Int
  | [], k => k
  | x :: l, k => if f x k < 0 then -1 else hdL f l (f x k)
/-- The number behind the last mark; -1: there is another mark. -/
def hd : Bool → (t : Ty) → t.den → Int → Int
  | _, .sl e, xs, k => hdL (hd true e) xs k
  | el, .pair a b, x, k => if hd el a x.1 k < 0 then -1 else hd el b x.2 (hd el a x.1 k)
  | _, .unit, _, k => k
  | el, .int kd, x, k => if el then (if x = kd.wrap k then k + 1 else -1) else k
  | el, .str, x, k => if el then (if x = markText k then k + 1 else -1) else k
  | el, .bool, x, k => if el then k + 1 else k

theorem cnt_mk : ∀ (el : Bool) (t : Ty) (x : t.den) (k : Int), cnt el t (mk el t x k) = cnt el t x
  | el, .sl e, xs, k => by
    have : ∀ (l : List e.den) (k : Int), cntL (cnt true e) (mkL (mk true e) (cnt true e) l k) = cntL (cnt true e) l := by
      intro l
      induction l with
      | nil => intro k; rfl
      | cons x l ih => intro k; simp only [mkL, cntL, ih, cnt_mk true e]
    simpa only [mk, cnt] using this xs k
  | el, .pair a b, x, k => by simp only [mk, cnt, cnt_mk el a, cnt_mk el b]
  | el, .unit, x, k => rfl
  | el, .int kd, x, k => rfl
  | el, .str, x, k => rfl
  | el, .bool, x, k => rfl

/-- What was marked is held. -/
theorem hd_mk : ∀ (el : Bool) (t : Ty) (x : t.den) (k : Int), 0 ≤ k → hd el t (mk el t x k) k = k + cnt el t x
  | el, .sl e, xs, k, hk => by
    have : ∀ (l : List e.den) (k : Int), 0 ≤ k → hdL (hd true e) (mkL (mk true e) (cnt true e) l k) k = k + cntL (cnt true e) l := by
      intro l
      induction l with
      | nil => intro k _; simp [mkL, hdL, cntL]
      | cons x l ih =>
        intro k hk
        simp only [mkL, hdL, cntL, hd_mk true e x k hk]
        rw [if_neg (by omega), ih _ (by omega)]
        omega
    simpa only [mk, hd, cnt] using this xs k hk
  | el, .pair a b, x, k, hk => by
    simp only [mk, hd, cnt, hd_mk el a _ k hk]
    rw [if_neg (by omega), hd_mk el b _ _ (by omega)]
    omega
  | el, .unit, x, k, hk => by simp [hd, cnt]
  | el, .int kd, x, k, hk => by cases el <;> simp [hd, mk, cnt]
  | el, .str, x, k, hk => by cases el <;> simp [hd, mk, cnt]
  | el, .bool, x, k, hk => by cases el <;> simp [hd, cnt]

theorem hd_or : ∀ (el : Bool) (t : Ty) (x : t.den) (k : Int), 0 ≤ k → hd el t x k = -1 ∨ hd el t x k = k + cnt el t x
  | el, .sl e, xs, k, hk => by
    have : ∀ (l : List e.den) (k : Int), 0 ≤ k → hdL (hd true e) l k = -1 ∨ hdL (hd true e) l k = k + cntL (cnt true e) l := by
      intro l
      induction l with
      | nil => intro k _; simp [hdL, cntL]
      | cons x l ih =>
        intro k hk
        simp only [hdL, cntL]
        rcases hd_or true e x k hk with h | h
        · simp [h]
        · rw [h, if_neg (by omega)]
          rcases ih (k + cnt true e x) (by omega) with h2 | h2
          · exact .inl h2
          · right; rw [h2]; omega
    simpa only [hd, cnt] using this xs k hk
  | el, .pair a b, x, k, hk => by
    simp only [hd, cnt]
    rcases hd_or el a x.1 k hk with h | h
    · simp [h]
    · rw [h, if_neg (by omega)]
      rcases hd_or el b x.2 (k + cnt el a x.1) (by omega) with h2 | h2
      · exact .inl h2
      · right; rw [h2]; omega
  | el, .unit, x, k, hk => by simp [hd, cnt]
  | el, .int kd, x, k, hk => by cases el <;> simp [hd, cnt]; (by_cases h : x = kd.wrap k <;> simp [h])
  | el, .str, x, k, hk => by cases el <;> simp [hd, cnt]; (by_cases h : x = markText k <;> simp [h])
  | el, .bool, x, k, hk => by cases el <;> simp [hd, cnt]

/-! ## Flat slices -/
theorem totL_zero {α : Type} (l : List α) : totL (fun _ => 0) l = l.length := by induction l with | nil => rfl | cons x l ih => simp [totL, ih]; omega
theorem cntL_one {α : Type} (l : List α) : cntL (fun _ => 1) l = l.length := by induction l with | nil => rfl | cons x l ih => simp [cntL, ih]; omega
theorem tot_int (kd : IntKind) (l : List Int) : tot (.sl (.int kd)) l = l.length := totL_zero l
theorem cnt_int (el : Bool) (kd : IntKind) (l : List Int) : cnt el (.sl (.int kd)) l = l.length := cntL_one l
theorem mk_bytes (el : Bool) : ∀ (l : List Int) (k : Int), mk el (.sl (.int .u8)) l k = markBytes l k
  | [], k => rfl
  | x :: l, k => by have := mk_bytes el l (k + 1); simp only [mk, cnt] at this; simp only [mk, mkL, cnt, markBytes, wrap8, if_true]; exact congrArg _ this
theorem i64_wrap {k : Int} (h : -9223372036854775808 ≤ k ∧ k ≤ 9223372036854775807) : IntKind.wrap .i64 k = k := wrap_in (i64_range h)
theorem hd_bytes (el : Bool) : ∀ (l : List Int) (k : Int), 0 ≤ k → hd el (.sl (.int .u8)) l k = heldBytes l k
  | [], k, _ => rfl
  | x :: l, k, h => by
    have := hd_bytes el l (k + 1) (by omega)
    simp only [hd] at this
    simp only [hd, hdL, heldBytes, wrap8, if_true]
    by_cases hx : x = k % 256
    · simp only [hx, if_true]; rw [if_neg (by omega)]; exact this
    · simp [hx]
/-! ## Slices of anything: a round of each loop -/
theorem totL_drop {α : Type} (f : α → Nat) (a : List α) (d : α) (i : Nat) (h : i < a.length) : totL f (a.drop i) = 1 + f (a.getD i d) + totL f (a.drop (i + 1)) := by
  rw [drop_cons a d i h]; rfl
theorem totL_len {α : Type} (f : α → Nat) (a : List α) : a.length ≤ totL f a := by induction a with | nil => simp [totL] | cons x l ih => simp [totL]; omega
theorem tot_len (e : Ty) (a : List e.den) : a.length ≤ tot (.sl e) a := totL_len _ _
theorem totL_mem {α : Type} (f : α → Nat) (a : List α) (x : α) (h : x ∈ a) : f x < totL f a := by
  induction a with
  | nil => simp at h
  | cons y l ih =>
    simp only [totL]
    rcases List.mem_cons.1 h with rfl | h
    · omega
    · have := ih h; omega
theorem totL_at {α : Type} (f : α → Nat) (a : List α) (d : α) (i : Nat) (h : i < a.length) : f (a.getD i d) < totL f a := by
  have e : a.getD i d = a[i] := by simp [List.getD_eq_getElem?_getD, h]
  rw [e]; exact totL_mem f a _ (List.getElem_mem h)
theorem cntL_take {α : Type} (f : α → Nat) : ∀ (a : List α) (d : α) (i : Nat), i < a.length → cntL f (a.take (i + 1)) = cntL f (a.take i) + f (a.getD i d)
  | [], d, i, h => by simp at h
  | x :: a, d, 0, h => by simp [cntL]
  | x :: a, d, i + 1, h => by
    have := cntL_take f a d i (by simpa using h)
    simp only [List.take_succ_cons, cntL, this, List.getD_cons_succ]
    omega
theorem cntL_all {α : Type} (f : α → Nat) (a : List α) (i : Nat) : cntL f (a.take i) ≤ cntL f a := by
  induction a generalizing i with
  | nil => simp
  | cons x a ih => cases i with
    | zero => simp [cntL]
    | succ i => simp only [List.take_succ_cons, cntL]; have := ih i; omega
theorem mkL_length {α : Type} (f : α → Int → α) (n : α → Nat) : ∀ (a : List α) (k : Int), (mkL f n a k).length = a.length
  | [], _ => rfl
  | x :: a, k => by simp [mkL, mkL_length f n a]
theorem mkL_get {α : Type} (f : α → Int → α) (n : α → Nat) : ∀ (a : List α) (d : α) (k : Int) (i : Nat) (h : i < (mkL f n a k).length), (mkL f n a k)[i] = f (a.getD i d) (k + cntL n (a.take i))
  | [], d, _, i, h => by simp [mkL] at h
  | x :: a, d, k, 0, h => by simp [mkL, cntL]
  | x :: a, d, k, i + 1, h => by
    simp only [mkL, List.getElem_cons_succ, List.getD_cons_succ, List.take_succ_cons, cntL]
    rw [mkL_get f n a d]
    congr 1
    omega
theorem mkL_step {α : Type} (f : α → Int → α) (n : α → Nat) (a : List α) (d : α) (k : Int) (i : Nat) (h : i < a.length) :
    ((mkL f n a k).take i ++ a.drop i).set i (f (a.getD i d) (k + cntL n (a.take i))) = (mkL f n a k).take (i + 1) ++ a.drop (i + 1) :=
  set_step _ a i h (mkL_length f n a k) _ (mkL_get f n a d k i (by rw [mkL_length]; exact h))
theorem mid_get {α : Type} (m a : List α) (d : α) (i : Nat) (h : i < a.length) (hl : m.length = a.length) : (m.take i ++ a.drop i).getD i d = a.getD i d := by
  have h1 : (m.take i).length = i := by simp; omega
  simp only [List.getD_eq_getElem?_getD]
  rw [List.getElem?_append_right (by omega), h1, Nat.sub_self, List.getElem?_drop]
  simp
theorem mid_len {α : Type} (m a : List α) (i : Nat) (h : i ≤ a.length) (hl : m.length = a.length) : (m.take i ++ a.drop i).length = a.length := by simp; omega
theorem getD_set_self {α : Type} (l : List α) (d : α) (i : Nat) (v : α) (h : i < l.length) : (l.set i v).getD i d = v := by simp [List.getD_eq_getElem?_getD, h]
theorem hdL_drop {α : Type} (f : α → Int → Int) (a : List α) (d : α) (i : Nat) (k : Int) (h : i < a.length) : hdL f (a.drop i) k = if f (a.getD i d) k < 0 then -1 else hdL f (a.drop (i + 1)) (f (a.getD i d) k) := by
  rw [drop_cons a d i h]; rfl
def szf (n : Nat) (left : Int) : Int := if left - n < 0 then -1 else left - n
end Go.Vee
namespace Go.Vee
theorem tot_p (a b : Ty) (x : (Ty.pair a b).den) : tot (.pair a b) x = tot a x.1 + tot b x.2 := rfl
theorem tot_u (x : Ty.unit.den) : tot .unit x = 0 := rfl
theorem tot_i (k : IntKind) (x : Int) : tot (.int k) x = 0 := rfl
theorem tot_b (x : Bool) : tot .bool x = 0 := rfl
theorem tot_s (x : List Int) : tot .str x = x.length := rfl
theorem cnt_p (el : Bool) (a b : Ty) (x : (Ty.pair a b).den) : cnt el (.pair a b) x = cnt el a x.1 + cnt el b x.2 := rfl
theorem cnt_u (el : Bool) (x : Ty.unit.den) : cnt el .unit x = 0 := by cases el <;> rfl
theorem cnt_i0 (k : IntKind) (x : Int) : cnt false (.int k) x = 0 := rfl
theorem cnt_b0 (x : Bool) : cnt false .bool x = 0 := rfl
theorem cnt_s0 (x : List Int) : cnt false .str x = 0 := rfl
theorem cnt_i1 (k : IntKind) (x : Int) : cnt true (.int k) x = 1 := rfl
theorem cnt_b1 (x : Bool) : cnt true .bool x = 1 := rfl
theorem cnt_s1 (x : List Int) : cnt true .str x = 1 := rfl
theorem cnt_l (e : Ty) (x : List e.den) : cnt true (.sl e) x = cnt false (.sl e) x := rfl
theorem mk_p (el : Bool) (a b : Ty) (x : (Ty.pair a b).den) (k : Int) : mk el (.pair a b) x k = (mk el a x.1 k, mk el b x.2 (k + cnt el a x.1)) := rfl
theorem mk_u (el : Bool) (x : Ty.unit.den) (k : Int) : mk el .unit x k = x := by cases el <;> rfl
theorem mk_i0 (kd : IntKind) (x k : Int) : mk false (.int kd) x k = x := rfl
theorem mk_b0 (el : Bool) (x : Bool) (k : Int) : mk el .bool x k = x := by cases el <;> rfl
theorem mk_s0 (x : List Int) (k : Int) : mk false .str x k = x := rfl
theorem mk_i1 (kd : IntKind) (x k : Int) : mk true (.int kd) x k = kd.wrap k := rfl
theorem mk_s1 (x : List Int) (k : Int) : mk true .str x k = markText k := rfl
theorem mk_l (e : Ty) (x : List e.den) (k : Int) : mk true (.sl e) x k = mk false (.sl e) x k := rfl
theorem hd_p (el : Bool) (a b : Ty) (x : (Ty.pair a b).den) (k : Int) : hd el (.pair a b) x k = if hd el a x.1 k < 0 then -1 else hd el b x.2 (hd el a x.1 k) := rfl
theorem hd_u (el : Bool) (x : Ty.unit.den) (k : Int) : hd el .unit x k = k := by cases el <;> rfl
theorem hd_i0 (kd : IntKind) (x k : Int) : hd false (.int kd) x k = k := rfl
theorem hd_b0 (x : Bool) (k : Int) : hd false .bool x k = k := rfl
theorem hd_s0 (x : List Int) (k : Int) : hd false .str x k = k := rfl
theorem hd_i1 (kd : IntKind) (x k : Int) : hd true (.int kd) x k = if x = kd.wrap k then k + 1 else -1 := rfl
theorem hd_b1 (x : Bool) (k : Int) : hd true .bool x k = k + 1 := rfl
theorem hd_s1 (x : List Int) (k : Int) : hd true .str x k = if x = markText k then k + 1 else -1 := rfl
theorem hd_l (e : Ty) (x : List e.den) (k : Int) : hd true (.sl e) x k = hd false (.sl e) x k := rfl
theorem mk_len (el : Bool) (e : Ty) (a : List e.den) (k : Int) : List.length (mk el (.sl e) a k : List e.den) = a.length := mkL_length _ _ _ _
/-! Rounds, said of slices of any type -/
theorem tot_split (e : Ty) (a : List e.den) (d : e.den) (i : Nat) (h : i < a.length) : tot (.sl e) (a.drop i : List e.den) = 1 + tot e (a.getD i d) + tot (.sl e) (a.drop (i + 1) : List e.den) := totL_drop _ a d i h
theorem tot_at (e : Ty) (a : List e.den) (d : e.den) (i : Nat) (h : i < a.length) : tot e (a.getD i d) < tot (.sl e) a := totL_at _ a d i h
theorem tot_nil (e : Ty) : tot (.sl e) ([] : List e.den) = 0 := rfl
theorem cnt_take (e : Ty) (a : List e.den) (d : e.den) (i : Nat) (h : i < a.length) : cnt false (.sl e) (a.take (i + 1) : List e.den) = cnt false (.sl e) (a.take i : List e.den) + cnt true e (a.getD i d) := cntL_take _ a d i h
theorem cnt_le (e : Ty) (a : List e.den) (i : Nat) : cnt false (.sl e) (a.take i : List e.den) ≤ cnt false (.sl e) a := cntL_all _ a i
theorem mk_stepT (e : Ty) (a : List e.den) (d : e.den) (k : Int) (i : Nat) (h : i < a.length) :
    ((mk false (.sl e) a k : List e.den).take i ++ a.drop i).set i (mk true e (a.getD i d) (k + cnt false (.sl e) (a.take i : List e.den))) = (mk false (.sl e) a k : List e.den).take (i + 1) ++ a.drop (i + 1) :=
  mkL_step _ _ a d k i h
theorem mk_mid (e : Ty) (a : List e.den) (d : e.den) (k : Int) (i : Nat) (h : i < a.length) : ((mk false (.sl e) a k : List e.den).take i ++ a.drop i).getD i d = a.getD i d := mid_get _ a d i h (mk_len false e a k)
theorem mk_midlen (e : Ty) (a : List e.den) (k : Int) (i : Nat) (h : i ≤ a.length) : ((mk false (.sl e) a k : List e.den).take i ++ a.drop i).length = a.length := mid_len _ a i h (mk_len false e a k)
theorem hd_drop (e : Ty) (a : List e.den) (d : e.den) (i : Nat) (k : Int) (h : i < a.length) : hd false (.sl e) (a.drop i : List e.den) k = if hd true e (a.getD i d) k < 0 then -1 else hd false (.sl e) (a.drop (i + 1) : List e.den) (hd true e (a.getD i d) k) := hdL_drop _ a d i k h
theorem hd_nil (e : Ty) (k : Int) : hd false (.sl e) ([] : List e.den) k = k := rfl
theorem cnt_split (e : Ty) (a : List e.den) (d : e.den) (i : Nat) (h : i < a.length) : cnt false (.sl e) (a.drop i : List e.den) = cnt true e (a.getD i d) + cnt false (.sl e) (a.drop (i + 1) : List e.den) := by
  rw [drop_cons a d i h]; rfl
end Go.Vee
namespace Go.Vee
open Go
/-- How many plain cells; the most that an element of a slice has. -/
def wd : Ty → Nat
  | .pair a b => wd a + wd b
  | .unit => 0
  | .sl _ => 0
  | _ => 1
def mx : Ty → Nat
  | .sl e => max (wd e) (mx e)
  | .pair a b => max (mx a) (mx b)
  | _ => 0
theorem cnt_tot2 : ∀ (t : Ty) (M : Nat) (x : t.den), mx t ≤ M → cnt true t x ≤ wd t + M * tot t x ∧ cnt false t x ≤ M * tot t x
  | .sl e, M, xs, h => by
    have h1 : wd e ≤ M ∧ mx e ≤ M := by simp only [mx] at h; omega
    have : ∀ l : List e.den, cntL (cnt true e) l ≤ M * totL (tot e) l := by
      intro l
      induction l with
      | nil => simp [cntL, totL]
      | cons x l ih =>
        have := (cnt_tot2 e M x h1.2).1
        simp only [cntL, totL, Nat.mul_add, Nat.mul_one]
        omega
    simp only [cnt, tot, wd]
    exact ⟨by have := this xs; omega, this xs⟩
  | .pair a b, M, x, h => by
    have h1 : mx a ≤ M ∧ mx b ≤ M := by simp only [mx] at h; omega
    obtain ⟨a1, a2⟩ := cnt_tot2 a M x.1 h1.1
    obtain ⟨b1, b2⟩ := cnt_tot2 b M x.2 h1.2
    simp only [cnt, tot, wd, Nat.mul_add]
    omega
  | .unit, M, x, h => by simp [cnt]
  | .int k, M, x, h => by simp [cnt, wd]
  | .str, M, x, h => by simp [cnt, wd]
  | .bool, M, x, h => by simp [cnt, wd]
theorem cnt_tot (t : Ty) (x : t.den) (h : mx t ≤ 64) : cnt false t x ≤ 64 * tot t x := (cnt_tot2 t 64 x h).2
end Go.Vee
namespace Go.Vee
theorem mk_take (el : Bool) (e : Ty) (a : List e.den) (k : Int) : List.take a.length (mk el (.sl e) a k : List e.den) = mk el (.sl e) a k := List.take_of_length_le (Nat.le_of_eq (mk_len el e a k))
end Go.Vee

