/-
  Plain facts about lists and data, without a program.
-/
import Derived.Test.YtjlojjkfdidkiaaV7
set_option linter.unusedSimpArgs false
set_option linter.unusedVariables false
namespace Go.Vee
theorem drop_cons {α : Type} (a : List α) (d : α) (i : Nat) (h : i < a.length) : a.drop i = a.getD i d :: a.drop (i + 1) := by
  rw [List.drop_eq_getElem_cons h]
  simp [List.getD_eq_getElem?_getD, h]
end Go.Vee
namespace Go.Vee
end Go.Vee
namespace Go.Vee
end Go.Vee
namespace Go.Vee
end Go.Vee
namespace Go.Vee
theorem drop_nil {α : Type} (a : List α) (i : Nat) (h : a.length ≤ i) : a.drop i = [] := List.drop_eq_nil_of_le h
end Go.Vee
namespace Go.Vee
end Go.Vee
namespace Go.Vee
end Go.Vee

set_option linter.unusedSimpArgs false
set_option linter.unusedVariables false
namespace Go.Vee
open Go
theorem wrap8 (n : Int) : IntKind.wrap .u8 n = n % 256 := by simp [IntKind.wrap, IntKind.bits, IntKind.signed]
theorem getD_range {a : List Int} {lo hi : Int} (h : ∀ x ∈ a, lo ≤ x ∧ x ≤ hi) (d : Int) (i : Nat) (hi' : i < a.length) : lo ≤ a.getD i d ∧ a.getD i d ≤ hi := by
  rw [List.getD_eq_getElem?_getD, List.getElem?_eq_getElem hi']
  exact h _ (List.getElem_mem hi')
end Go.Vee
namespace Go.Vee
open Go
theorem u8s {a : List Int} (h : ∀ x ∈ a, wf (.int .u8) x) : ∀ x ∈ a, 0 ≤ x ∧ x ≤ 255 := fun x hx => by
  have := h x hx
  simpa [wf, IntKind.min, IntKind.max, IntKind.signed, IntKind.bits] using this
end Go.Vee
namespace Go.Vee
end Go.Vee
namespace Go.Vee
open Go
end Go.Vee

set_option linter.unusedSimpArgs false
set_option linter.unusedVariables false
namespace Go.Vee
open Go

/-! ## What the laws do with data of any type: count, mark, look at marks -/
def totL {α : Type} (f : α → Nat) : List α → Nat
  | [] => 0
  | x :: l => 1 + f x + totL f l
/-- How many elements of slices there are. -/
def tot : (t : Ty) → t.den → Nat
  | .sl e, xs => totL (tot e) xs
  | .pair a b, x => tot a x.1 + tot b x.2
  | .str, x => List.length (α := Int) x
  | _, _ => 0
def cntL {α : Type} (f : α → Nat) : List α → Nat
  | [] => 0
  | x :: l => f x + cntL f l
/-- How many marks. 'el': does it lie in a slice? -/
def cnt : Bool → (t : Ty) → t.den → Nat
  | _, .sl e, xs => cntL (cnt true e) xs
  | el, .pair a b, x => cnt el a x.1 + cnt el b x.2
  | _, .unit, _ => 0
  | el, _, _ => if el then 1 else 0
/-- The digits of k, ahead of what stands there. -/
def digs (k : Int) (acc : List Int) : List Int := if h : k ≤ 0 then acc else digs (k / 10) ((48 + k % 10) :: acc)
termination_by k.toNat
decreasing_by omega
def digits (k : Int) : List Int := digs k []
def markText (k : Int) : List Int := if k ≤ 0 then [109, 48] else 109 :: digits k
def mkL {α : Type} (f : α → Int → α) (n : α → Nat) : List α → Int → List α
  | [], _ => []
  | x :: l, k => f x k :: mkL f n l (k + n x)
/-- Data marked from k on. -/
def mk : Bool → (t : Ty) → t.den → Int → t.den
  | _, .sl e, xs, k => mkL (mk true e) (cnt true e) xs k
  | el, .pair a b, x, k => (mk el a x.1 k, mk el b x.2 (k + cnt el a x.1))
  | _, .unit, x, _ => x
  | el, .int kd, x, k => if el then kd.wrap k else x
  | el, .str, x, k => if el then markText k else x
  | _, .bool, x, _ => x
def hdL {α : Type} (f : α → Int → Int) : List α → Int → Int
  | [], k => k
  | x :: l, k => if f x k < 0 then -1 else hdL f l (f x k)
/-- The number behind the last mark; -1: there is another mark. -/
def hd : Bool → (t : Ty) → t.den → Int → Int
  | _, .sl e, xs, k => hdL (hd true e) xs k
  | el, .pair a b, x, k => if hd el a x.1 k < 0 then -1 else hd el b x.2 (hd el a x.1 k)
  | _, .unit, _, k => k
  | el, .int kd, x, k => if el then (if x = kd.wrap k then k + 1 else -1) else k
  | el, .str, x, k => if el then (if x = markText k then k + 1 else -1) else k
  | el, .bool, x, k => if el then k + 1 else k

/-! ## Flat slices -/
theorem totL_zero {α : Type} (l : List α) : totL (fun _ => 0) l = l.length := by induction l with | nil => rfl | cons x l ih => simp [totL, ih]; omega
theorem tot_int (kd : IntKind) (l : List Int) : tot (.sl (.int kd)) l = l.length := totL_zero l
theorem totL_len {α : Type} (f : α → Nat) (a : List α) : a.length ≤ totL f a := by induction a with | nil => simp [totL] | cons x l ih => simp [totL]; omega
theorem tot_len (e : Ty) (a : List e.den) : a.length ≤ tot (.sl e) a := totL_len _ _
theorem totL_mem {α : Type} (f : α → Nat) (a : List α) (x : α) (h : x ∈ a) : f x < totL f a := by
  induction a with
  | nil => simp at h
  | cons y l ih =>
    simp only [totL]
    rcases List.mem_cons.1 h with rfl | h
    · omega
    · have := ih h; omega
theorem totL_at {α : Type} (f : α → Nat) (a : List α) (d : α) (i : Nat) (h : i < a.length) : f (a.getD i d) < totL f a := by
  have e : a.getD i d = a[i] := by simp [List.getD_eq_getElem?_getD, h]
  rw [e]; exact totL_mem f a _ (List.getElem_mem h)
end Go.Vee
namespace Go.Vee
theorem tot_p (a b : Ty) (x : (Ty.pair a b).den) : tot (.pair a b) x = tot a x.1 + tot b x.2 := rfl
theorem tot_u (x : Ty.unit.den) : tot .unit x = 0 := rfl
theorem tot_at (e : Ty) (a : List e.den) (d : e.den) (i : Nat) (h : i < a.length) : tot e (a.getD i d) < tot (.sl e) a := totL_at _ a d i h
end Go.Vee
namespace Go.Vee
open Go
end Go.Vee
namespace Go.Vee
end Go.Vee

