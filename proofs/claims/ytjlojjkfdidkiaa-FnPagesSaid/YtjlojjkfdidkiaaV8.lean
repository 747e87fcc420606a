/-
  Plain facts about lists and data, without a program.
-/
import Derived.Test.YtjlojjkfdidkiaaV7
set_option linter.unusedSimpArgs false
set_option linter.unusedVariables false
namespace Go.Vee
theorem drop_cons {α : Type} (a : List α) (d : α) (i : Nat) (h : i < a.length) : a.drop i = a.getD i d :: a.drop (i + 1) := by
  rw [List.drop_eq_getElem_cons h]
  simp [List.getD_eq_getElem?_getD, h]
end Go.Vee
namespace Go.Vee
def pageFault (p : Int × Int × List Int × Unit) : Int := if ¬ (1 ≤ p.1 ∧ p.1 ≤ 3 ∧ 2 ≤ p.2.1 ∧ p.2.1 ≤ 63) then 3 else if (p.2.2.1.length : Int) > 91 then 2 else 0
end Go.Vee
namespace Go.Vee
def sumOf (s : Int) : List Int → Int
  | [] => s
  | b :: l => sumOf ((227 * s + b + 1) % 65521) l
end Go.Vee
namespace Go.Vee
end Go.Vee
namespace Go.Vee
theorem drop_nil {α : Type} (a : List α) (i : Nat) (h : a.length ≤ i) : a.drop i = [] := List.drop_eq_nil_of_le h
end Go.Vee
namespace Go.Vee
def pairOf (n : Int) : List Int := [n / 256 % 256, n % 256]
def padded (p : Int × Int × List Int × Unit) : List Int := [p.1 % 256, p.2.1 % 256, (p.2.2.1.length : Int) % 256] ++ p.2.2.1 ++ List.replicate (94 - (3 + p.2.2.1.length)) 0
def packPage (p : Int × Int × List Int × Unit) : List Int := padded p ++ pairOf (sumOf 29 (padded p))
theorem padded_length (p : Int × Int × List Int × Unit) (h : p.2.2.1.length ≤ 91) : (padded p).length = 94 := by simp [padded]; omega
theorem packPage_length (p : Int × Int × List Int × Unit) (h : p.2.2.1.length ≤ 91) : (packPage p).length = 96 := by simp [packPage, padded_length p h, pairOf]
theorem pageFault_len (p : Int × Int × List Int × Unit) (h : pageFault p = 0) : p.2.2.1.length ≤ 91 := by unfold pageFault at h; grind
theorem sumOf_range (s : Int) (l : List Int) (h : 0 ≤ s ∧ s < 65521) (hl : ∀ x ∈ l, 0 ≤ x ∧ x ≤ 255) : 0 ≤ sumOf s l ∧ sumOf s l < 65521 := by
  induction l generalizing s with
  | nil => exact h
  | cons b l ih =>
    simp only [sumOf]
    exact ih _ ⟨by omega, by omega⟩ (fun x hx => hl x (by simp [hx]))
theorem sumOf_nonneg (s : Int) (l : List Int) (h : 0 ≤ s) : 0 ≤ sumOf s l := by
  induction l generalizing s with
  | nil => exact h
  | cons b l ih => simp only [sumOf]; exact ih _ (by omega)
end Go.Vee
namespace Go.Vee
end Go.Vee

set_option linter.unusedSimpArgs false
set_option linter.unusedVariables false
namespace Go.Vee
open Go
theorem wrap8 (n : Int) : IntKind.wrap .u8 n = n % 256 := by simp [IntKind.wrap, IntKind.bits, IntKind.signed]
theorem getD_range {a : List Int} {lo hi : Int} (h : ∀ x ∈ a, lo ≤ x ∧ x ≤ hi) (d : Int) (i : Nat) (hi' : i < a.length) : lo ≤ a.getD i d ∧ a.getD i d ≤ hi := by
  rw [List.getD_eq_getElem?_getD, List.getElem?_eq_getElem hi']
  exact h _ (List.getElem_mem hi')
end Go.Vee
namespace Go.Vee
open Go
theorem u8s {a : List Int} (h : ∀ x ∈ a, wf (.int .u8) x) : ∀ x ∈ a, 0 ≤ x ∧ x ≤ 255 := fun x hx => by
  have := h x hx
  simpa [wf, IntKind.min, IntKind.max, IntKind.signed, IntKind.bits] using this
theorem i64w {x : Int} (h : wf (.int .i64) x) : -9223372036854775808 ≤ x ∧ x ≤ 9223372036854775807 := by
  simpa [wf, IntKind.min, IntKind.max, IntKind.signed, IntKind.bits] using h
theorem u8at {a : List Int} (h : ∀ x ∈ a, wf (.int .u8) x) (i : Nat) (hi : i < a.length) : 0 ≤ a.getD i 0 ∧ a.getD i 0 ≤ 255 := getD_range (u8s h) 0 i hi
end Go.Vee
namespace Go.Vee
end Go.Vee
namespace Go.Vee
open Go
theorem fdiv256 (n : Int) : n.fdiv (2 ^ min 8 IntKind.i64.bits) = n / 256 := by
  rw [show (min 8 IntKind.i64.bits) = 8 from rfl, Int.fdiv_eq_ediv_of_nonneg n (by omega)]
  rfl
end Go.Vee

set_option linter.unusedSimpArgs false
set_option linter.unusedVariables false
namespace Go.Vee
open Go

def cntL {α : Type} (f : α → Nat) : List α → Nat
  | [] => 0
  | x :: l => f x + cntL f l
/-- How many marks. 'el': does it lie in a slice? -/
def cnt : Bool → (t : Ty) → t.den → Nat
  | _, .sl e, xs => cntL (cnt true e) xs
  | el, .pair a b, x => cnt el a x.1 + cnt el b x.2
  | _, .unit, _ => 0
  | el, _, _ => if el then 1 else 0
/-- The digits of k, ahead of what stands there. -/
def digs (k : Int) (acc : List Int) : List Int := if h : k ≤ 0 then acc else digs (k / 10) ((48 + k % 10) :: acc)
termination_by k.toNat
decreasing_by omega
def digits (k : Int) : List Int := digs k []
def markText (k : Int) : List Int := if k ≤ 0 then [109, 48] else 109 :: digits k
def mkL {α : Type} (f : α → Int → α) (n : α → Nat) : List α → Int → List α
  | [], _ => []
  | x :: l, k => f x k :: mkL f n l (k + n x)
/-- Data marked from k on. -/
def mk : Bool → (t : Ty) → t.den → Int → t.den
  | _, .sl e, xs, k => mkL (mk true e) (cnt true e) xs k
  | el, .pair a b, x, k => (mk el a x.1 k, mk el b x.2 (k + cnt el a x.1))
  | _, .unit, x, _ => x
  | el, .int kd, x, k => if el then kd.wrap k else x
  | el, .str, x, k => if el then markText k else x
  | _, .bool, x, _ => x
def hdL {α : Type} (f : α → Int → Int) : List α → Int → Int
  | [], k => k
  | x :: l, k => if f x k < 0 then -1 else hdL f l (f x k)
/-- The number behind the last mark; -1: there is another mark. -/
def hd : Bool → (t : Ty) → t.den → Int → Int
  | _, .sl e, xs, k => hdL (hd true e) xs k
  | el, .pair a b, x, k => if hd el a x.1 k < 0 then -1 else hd el b x.2 (hd el a x.1 k)
  | _, .unit, _, k => k
  | el, .int kd, x, k => if el then (if x = kd.wrap k then k + 1 else -1) else k
  | el, .str, x, k => if el then (if x = markText k then k + 1 else -1) else k
  | el, .bool, x, k => if el then k + 1 else k

end Go.Vee
namespace Go.Vee
end Go.Vee
namespace Go.Vee
open Go
end Go.Vee
namespace Go.Vee
end Go.Vee

