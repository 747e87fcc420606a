import Derived.Test.YtcdlgemhmmkneaaVA
import Derived.Laws.AppendOwn
import Derived.Laws.OwnMore
import Derived.Lib.AppendStr
import Derived.Deep.Draws
import Derived.Below
set_option linter.unusedSimpArgs false
set_option linter.unusedVariables false
namespace Go.Vee
open Go

/-! ## Reading memory -/
def seg (arr : Array Value) (i n : Nat) : List Value := (arr.toList.drop i).take n

theorem seg_length {arr : Array Value} {i n : Nat} (h : i + n ≤ arr.size) : (seg arr i n).length = n := by
  simp [seg]; omega

theorem seg_get {arr : Array Value} {i n j : Nat} (h : j < n) : (seg arr i n)[j]? = arr[i + j]? := by
  simp [seg, List.getElem?_take, h, List.getElem?_drop]

theorem seg_seg {arr : Array Value} {i n j k : Nat} (h : j + k ≤ n) : ((seg arr i n).drop j).take k = seg arr (i + j) k := by
  simp only [seg, List.drop_take, List.take_take, List.drop_drop]
  congr 1
  omega

/-- 'cs' are the cells of a value of type t that reads as x: what is owned is just 'fp'; what is shared lies in I. -/
def Own (w : World) (I : Nat → Prop) : (t : Ty) → Md → List Value → t.den → List Nat → Prop
  | .int k, _, cs, n, fp => cs = [.int k n] ∧ (k.min ≤ n ∧ n ≤ k.max) ∧ fp = []
  | .bool, _, cs, b, fp => cs = [.bool b] ∧ fp = []
  | .str, _, cs, l, fp => (∃ s : ByteArray, cs = [.string s] ∧ l = s.data.toList.map (fun b => (b.toNat : Int)) ∧ s.size ≤ 9223372036854775807) ∧ fp = []
  | .sl e, m, cs, xs, fp =>
    xs.length ≤ 9223372036854775807 ∧
    match m with
    | .sh => fp = [] ∧ ∃ A c, cs = [.slice A xs.length c] ∧ xs.length ≤ c ∧ (xs = [] ∨ ∃ (b off : Nat) (arr : Array Value) (et : TypeId) (fr : Nat × Nat), A = some ⟨b, off, none⟩ ∧ w.heap[b]? = some (.cells arr et fr) ∧ I b ∧
        ∀ j (h : j < xs.length), off + (j + 1) * e.sz ≤ arr.size ∧ Own w I e .sh (seg arr (off + j * e.sz) e.sz) (xs[j]'h) [])
    | .ow m' => (cs = [.slice none 0 0] ∧ xs = [] ∧ fp = []) ∨
        ∃ (b c : Nat) (arr : Array Value) (et : TypeId) (fps : List (List Nat)), cs = [.slice (some ⟨b, 0, none⟩) xs.length c] ∧ w.heap[b]? = some (.cells arr et (0, 0)) ∧ xs.length ≤ c ∧ c ≤ maxLen ∧ arr.size = c * e.sz ∧
          fps.length = xs.length ∧ fp = b :: fps.flatten ∧
          ∀ j (h : j < xs.length), Own w I e m' (seg arr (j * e.sz) e.sz) (xs[j]'h) (fps.getD j [])
    | _ => False
  | .unit, _, cs, _, fp => cs = [] ∧ fp = []
  | .pair a b, m, cs, x, fp => ∃ c1 c2 f1 f2, cs = c1 ++ c2 ∧ fp = f1 ++ f2 ∧ Own w I a m.fst c1 x.1 f1 ∧ Own w I b m.snd c2 x.2 f2

theorem Own.len {w : World} {I : Nat → Prop} : ∀ {t : Ty} {m : Md} {cs : List Value} {x : t.den} {fp : List Nat}, Own w I t m cs x fp → cs.length = t.sz
  | .int _, _, _, _, _, h => by simp [h.1, Ty.sz]
  | .bool, _, _, _, _, h => by simp [h.1, Ty.sz]
  | .str, _, _, _, _, h => by obtain ⟨⟨s, rfl, _⟩, _⟩ := h; rfl
  | .sl e, .sh, _, _, _, h => by obtain ⟨_, _, A, c, rfl, _, _⟩ := h; rfl
  | .sl e, .ow m', _, _, _, h => by
    rcases h.2 with ⟨rfl, _⟩ | ⟨b, c, arr, et, fps, rfl, _⟩ <;> rfl
  | .sl e, .no, _, _, _, h => h.2.elim
  | .sl e, .pr _ _, _, _, _, h => h.2.elim
  | .unit, _, _, _, _, h => by simp [h.1, Ty.sz]
  | .pair a b, _, _, _, _, h => by
    obtain ⟨c1, c2, f1, f2, rfl, _, h1, h2⟩ := h
    simp [Ty.sz, Own.len h1, Own.len h2]

theorem Own.one {w : World} {I : Nat → Prop} : ∀ {t : Ty} {m : Md} {cs : List Value} {x : t.den} {fp : List Nat}, Own w I t m cs x fp → ∀ v ∈ cs, v.oneCell' = true
  | .int _, _, _, _, _, h, v, hv => by simp [h.1] at hv; subst hv; rfl
  | .bool, _, _, _, _, h, v, hv => by simp [h.1] at hv; subst hv; rfl
  | .str, _, _, _, _, h, v, hv => by obtain ⟨⟨s, rfl, _⟩, _⟩ := h; simp at hv; subst hv; rfl
  | .sl e, .sh, _, _, _, h, v, hv => by obtain ⟨_, _, A, c, rfl, _, _⟩ := h; simp at hv; subst hv; rfl
  | .sl e, .ow m', _, _, _, h, v, hv => by
    rcases h.2 with ⟨rfl, _⟩ | ⟨b, c, arr, et, fps, rfl, _⟩ <;> (simp at hv; subst hv; rfl)
  | .sl e, .no, _, _, _, h, _, _ => h.2.elim
  | .sl e, .pr _ _, _, _, _, h, _, _ => h.2.elim
  | .unit, _, _, _, _, h, v, hv => by simp [h.1] at hv
  | .pair a b, _, _, _, _, h, v, hv => by
    obtain ⟨c1, c2, f1, f2, rfl, _, h1, h2⟩ := h
    rcases List.mem_append.1 hv with hv | hv
    · exact Own.one h1 v hv
    · exact Own.one h2 v hv

/-- What is read lies in 'fp' and in I alone. -/
theorem Own.frame {w w' : World} {I I' : Nat → Prop} (hI : ∀ b, I b → w'.heap[b]? = w.heap[b]?) (hII : ∀ b, I b → I' b) :
    ∀ {t : Ty} {m : Md} {cs : List Value} {x : t.den} {fp : List Nat}, Own w I t m cs x fp → (∀ b ∈ fp, w'.heap[b]? = w.heap[b]?) → Own w' I' t m cs x fp
  | .int _, _, _, _, _, h, _ => h
  | .bool, _, _, _, _, h, _ => h
  | .str, _, _, _, _, h, _ => h
  | .sl e, .sh, _, _, _, h, hf => by
    obtain ⟨hl, rfl, A, c, rfl, hc, h⟩ := h
    refine ⟨hl, rfl, A, c, rfl, hc, ?_⟩
    rcases h with h | ⟨b, off, arr, et, fr, rfl, hb, hi, h⟩
    · exact .inl h
    · exact .inr ⟨b, off, arr, et, fr, rfl, (hI b hi).trans hb, hII b hi, fun j hj => ⟨(h j hj).1, Own.frame hI hII (h j hj).2 (by simp)⟩⟩
  | .sl e, .ow m', _, _, _, h, hf => by
    refine ⟨h.1, ?_⟩
    rcases h.2 with h | ⟨b, c, arr, et, fps, rfl, hb, h1, h2, h3, h4, rfl, hel⟩
    · exact .inl h
    · refine .inr ⟨b, c, arr, et, fps, rfl, (hf b (by simp)).trans hb, h1, h2, h3, h4, rfl, fun j hj => Own.frame hI hII (hel j hj) fun q hq => hf q ?_⟩
      refine List.mem_cons_of_mem _ (List.mem_flatten.2 ⟨_, ?_, hq⟩)
      have hj' : j < fps.length := by omega
      simp [List.getD_eq_getElem?_getD, hj']
  | .sl e, .no, _, _, _, h, _ => h.2.elim
  | .sl e, .pr _ _, _, _, _, h, _ => h.2.elim
  | .unit, _, _, _, _, h, _ => h
  | .pair a b, _, _, _, _, h, hf => by
    obtain ⟨c1, c2, f1, f2, rfl, rfl, h1, h2⟩ := h
    exact ⟨c1, c2, f1, f2, rfl, rfl, Own.frame hI hII h1 (fun q hq => hf q (by simp [hq])), Own.frame hI hII h2 (fun q hq => hf q (by simp [hq]))⟩

/-- What is owned may be read as shared, if it is counted among the shared. -/
theorem Own.share {w : World} {I : Nat → Prop} :
    ∀ {t : Ty} {m : Md} {cs : List Value} {x : t.den} {fp : List Nat}, Own w I t m cs x fp → (∀ b ∈ fp, I b) → Own w I t .sh cs x []
  | .int _, _, _, _, _, h, _ => ⟨h.1, h.2.1, rfl⟩
  | .bool, _, _, _, _, h, _ => ⟨h.1, rfl⟩
  | .str, _, _, _, _, h, _ => ⟨h.1, rfl⟩
  | .sl e, .sh, _, _, _, h, _ => ⟨h.1, rfl, h.2.2⟩
  | .sl e, .ow m', _, xs, _, h, hf => by
    refine ⟨h.1, rfl, ?_⟩
    rcases h.2 with ⟨rfl, rfl, _⟩ | ⟨b, c, arr, et, fps, rfl, hb, h1, h2, h3, h4, rfl, hel⟩
    · exact ⟨none, 0, rfl, Nat.le_refl _, .inl rfl⟩
    · refine ⟨_, c, rfl, h1, .inr ⟨b, 0, arr, et, _, rfl, hb, hf b (by simp), fun j hj => ⟨?_, ?_⟩⟩⟩
      · rw [h3, Nat.zero_add]; exact Nat.mul_le_mul_right _ (by omega)
      · rw [Nat.zero_add]
        refine Own.share (hel j hj) fun q hq => hf q (List.mem_cons_of_mem _ (List.mem_flatten.2 ⟨_, ?_, hq⟩))
        have hj' : j < fps.length := by omega
        simp [List.getD_eq_getElem?_getD, hj']
  | .sl e, .no, _, _, _, h, _ => h.2.elim
  | .sl e, .pr _ _, _, _, _, h, _ => h.2.elim
  | .unit, _, _, _, _, h, _ => ⟨h.1, rfl⟩
  | .pair a b, _, _, _, _, h, hf => by
    obtain ⟨c1, c2, f1, f2, rfl, rfl, h1, h2⟩ := h
    exact ⟨c1, c2, [], [], rfl, rfl, Own.share h1 (fun q hq => hf q (by simp [hq])), Own.share h2 (fun q hq => hf q (by simp [hq]))⟩

/-- Where nothing is shared, I is not asked. -/
theorem Own.anyI {w : World} {I I' : Nat → Prop} :
    ∀ {t : Ty} {m : Md} {cs : List Value} {x : t.den} {fp : List Nat}, own t m = true → Own w I t m cs x fp → Own w I' t m cs x fp
  | .int _, _, _, _, _, _, h => h
  | .bool, _, _, _, _, _, h => h
  | .str, _, _, _, _, _, h => h
  | .sl e, .sh, _, _, _, ho, _ => by simp [own] at ho
  | .sl e, .ow m', _, _, _, ho, h => by
    refine ⟨h.1, ?_⟩
    rcases h.2 with h | ⟨b, c, arr, et, fps, rfl, hb, h1, h2, h3, h4, rfl, hel⟩
    · exact .inl h
    · exact .inr ⟨b, c, arr, et, fps, rfl, hb, h1, h2, h3, h4, rfl, fun j hj => Own.anyI (by simpa [own] using ho) (hel j hj)⟩
  | .sl e, .no, _, _, _, _, h => h.2.elim
  | .sl e, .pr _ _, _, _, _, _, h => h.2.elim
  | .unit, _, _, _, _, _, h => h
  | .pair a b, m, _, _, _, ho, h => by
    obtain ⟨c1, c2, f1, f2, rfl, rfl, h1, h2⟩ := h
    simp only [own, Bool.and_eq_true] at ho
    exact ⟨c1, c2, f1, f2, rfl, rfl, Own.anyI ho.1 h1, Own.anyI ho.2 h2⟩

/-- Every block that is owned is there. -/
theorem Own.lt {w : World} {I : Nat → Prop} :
    ∀ {t : Ty} {m : Md} {cs : List Value} {x : t.den} {fp : List Nat}, Own w I t m cs x fp → ∀ b ∈ fp, b < w.heap.size
  | .int _, _, _, _, _, h, b, hb => by simp [h.2.2] at hb
  | .bool, _, _, _, _, h, b, hb => by simp [h.2] at hb
  | .str, _, _, _, _, h, b, hb => by simp [h.2] at hb
  | .sl e, .sh, _, _, _, h, b, hb => by simp [h.2.1] at hb
  | .sl e, .ow m', _, _, _, h, q, hq => by
    rcases h.2 with ⟨_, _, rfl⟩ | ⟨b, c, arr, et, fps, rfl, hb, h1, h2, h3, h4, rfl, hel⟩
    · simp at hq
    · rcases List.mem_cons.1 hq with rfl | hq
      · exact (Array.getElem?_eq_some_iff.1 hb).1
      · obtain ⟨l, hl, hq⟩ := List.mem_flatten.1 hq
        obtain ⟨j, hj, rfl⟩ := List.getElem_of_mem hl
        exact Own.lt (hel j (by omega)) q (by simpa [List.getD_eq_getElem?_getD, hj] using hq)
  | .sl e, .no, _, _, _, h, _, _ => h.2.elim
  | .sl e, .pr _ _, _, _, _, h, _, _ => h.2.elim
  | .unit, _, _, _, _, h, b, hb => by simp [h.2] at hb
  | .pair a b, _, _, _, _, h, q, hq => by
    obtain ⟨c1, c2, f1, f2, rfl, rfl, h1, h2⟩ := h
    rcases List.mem_append.1 hq with hq | hq
    · exact Own.lt h1 q hq
    · exact Own.lt h2 q hq

end Go.Vee
