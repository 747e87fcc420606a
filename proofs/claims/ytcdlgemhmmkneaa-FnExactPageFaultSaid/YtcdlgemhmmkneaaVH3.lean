import Derived.Test.YtcdlgemhmmkneaaVH2
import Derived.Laws.Strings
import Derived.Laws.Small
set_option linter.unusedSimpArgs false
set_option linter.unusedVariables false
namespace Go.Vee
open Go

theorem wrap_in {k : IntKind} {n : Int} (h : k.min ≤ n ∧ n ≤ k.max) : k.wrap n = n := by
  cases k <;> simp [IntKind.min, IntKind.max, IntKind.wrap, IntKind.signed, IntKind.bits] at h ⊢ <;> omega

theorem wrap_range {k : IntKind} {n : Int} : k.min ≤ k.wrap n ∧ k.wrap n ≤ k.max := by
  cases k <;> simp [IntKind.min, IntKind.max, IntKind.wrap, IntKind.signed, IntKind.bits] <;> omega

theorem bytesEq (a b : ByteArray) : (a.toList == b.toList) = decide ((a.data.toList.map fun b => (b.toNat : Int)) = b.data.toList.map fun b => (b.toNat : Int)) := by
  have inj : ∀ (l k : List UInt8), (l.map (fun b => (b.toNat : Int)) = k.map fun b => (b.toNat : Int)) → l = k := by
    intro l
    induction l with
    | nil => intro k h; simpa using h.symm
    | cons x l ih =>
      intro k h
      cases k with
      | nil => simp at h
      | cons y k =>
        simp only [List.map_cons, List.cons.injEq] at h
        rw [ih k h.2, UInt8.toNat_inj.1 (by omega : x.toNat = y.toNat)]
  rw [Bool.eq_iff_iff]
  simp only [beq_iff_eq, decide_eq_true_eq]
  constructor
  · intro h
    have : a.data.toList = b.data.toList := by
      have h1 : a.toList = a.data.toList := ByteArray.toList_eq _
      have h2 : b.toList = b.data.toList := ByteArray.toList_eq _
      rw [← h1, ← h2, h]
    rw [this]
  · intro h
    have h1 : a.toList = a.data.toList := ByteArray.toList_eq _
    have h2 : b.toList = b.data.toList := ByteArray.toList_eq _
    rw [h1, h2, inj _ _ h]


section
variable {P : Program} {w0 w : World} {F0 : Bnd} {s : St} {a : Act} {I : Nat → Prop} {ρ : Nat → RC} {H : Heap} {o : Oper} {K : St → Prop} {Q : Exit → Act → World → Prop} {C : World → Prop}

theorem sat_need {p : Prop} {k : Tr} {Q : Ex → St → Prop} (h : sat (.need p k) Q) : p ∧ sat k Q := h

/-- What the operation on two numbers gives. -/
theorem ok_binI {op : BinOp} {t : TypeId} {x y : Operand} {yt : TypeId} {k : IntKind} {m n : Int} (h : Inv w0 F0 s a w I ρ) (ho : o.op = .binOp op t x y yt) (hx : a.eval x = .int k m) (hy : a.eval y = .int k n)
    (hm : k.min ≤ m ∧ m ≤ k.max) (hn : k.min ≤ n ∧ n ≤ k.max) (hs : sat (binI Alg.std s o.dst op k m n) (fun _ s' => K s')) : Quiet P o a C (fun a' => Post w0 F0 K a' w) := by
  have hg : ∀ w, (eqGuard op t x y (.int k m) (.int k n)).run P w = .ok () w := fun w => by
    unfold eqGuard; split <;> simp
  have hrun : ∀ v, (∀ w', (binOp op t (.int k m) (.int k n)).run P w' = .ok v w') → ∀ w', C w' → (execOp a.eval o).run P w' = .ok (.value v) w' := fun v hv w' _ => by
    simp only [execOp, ho, hx, hy, Sem.run_bind, hg, Result.andThen_ok, hv, Sem.run_pure]
  cases op with
  | add =>
    simp only [binI] at hs
    split at hs
    · rename_i hk
      subst hk
      have hr := i64_range hs.1
      exact ok_done h (hrun (.int .i64 (m + n)) (fun w' => by simp [binOp, Op.intArith]; exact wrap_in hr)) (VR.int hr) hs.2
    · exact ok_done h (hrun (.int k (k.wrap (m + n))) (fun w' => by simp [binOp, Op.intArith])) (VR.int wrap_range) hs
  | sub =>
    simp only [binI] at hs
    split at hs
    · rename_i hk
      subst hk
      have hr := i64_range hs.1
      exact ok_done h (hrun (.int .i64 (m - n)) (fun w' => by simp [binOp, Op.intArith]; exact wrap_in hr)) (VR.int hr) hs.2
    · exact ok_done h (hrun (.int k (k.wrap (m - n))) (fun w' => by simp [binOp, Op.intArith])) (VR.int wrap_range) hs
  | mul =>
    simp only [binI] at hs
    split at hs
    · rename_i hk
      subst hk
      have hr := i64_range hs.1
      exact ok_done h (hrun (.int .i64 (m * n)) (fun w' => by simp [binOp, Op.intArith]; exact wrap_in hr)) (VR.int hr) hs.2
    · exact ok_done h (hrun (.int k (k.wrap (m * n))) (fun w' => by simp [binOp, Op.intArith])) (VR.int wrap_range) hs
  | quo =>
    obtain ⟨⟨h1, h2⟩, hs⟩ := hs
    have hdm : m.tdiv n = m / n := Int.tdiv_eq_ediv_of_nonneg h1
    have hr : k.min ≤ m / n ∧ m / n ≤ k.max := by
      have h3 : m / n ≤ m := Int.ediv_le_self n h1
      have h4 : 0 ≤ m / n := Int.ediv_nonneg h1 (by omega)
      have h5 : k.min ≤ 0 := by cases k <;> simp [IntKind.min, IntKind.signed, IntKind.bits]
      omega
    refine ok_done h (hrun (.int k (m / n)) ?_) (VR.int hr) hs
    intro w'
    simp only [binOp, Op.intDiv, hdm, wrap_in hr, ne_eq, not_true, if_false]
    rw [if_neg (by omega)]; rfl
  | rem =>
    obtain ⟨⟨h1, h2⟩, hs⟩ := hs
    have hdm : m.tmod n = m % n := Int.tmod_eq_emod_of_nonneg h1
    have hr : k.min ≤ m % n ∧ m % n ≤ k.max := by
      have h3 : m % n ≤ m := by
        have e := Int.mul_ediv_add_emod m n
        have p := Int.mul_nonneg (show 0 ≤ n by omega) (Int.ediv_nonneg h1 (show 0 ≤ n by omega))
        omega
      have h4 : 0 ≤ m % n := Int.emod_nonneg _ (by omega)
      have h5 : k.min ≤ 0 := by cases k <;> simp [IntKind.min, IntKind.signed, IntKind.bits]
      omega
    refine ok_done h (hrun (.int k (m % n)) ?_) (VR.int hr) hs
    intro w'
    simp only [binOp, Op.intDiv, hdm, ne_eq, not_true, if_false]
    rw [if_neg (by omega)]; rfl
  | eql => exact ok_done h (hrun (.bool (decide (m = n))) (fun w' => by simp [binOp, Op.intCmp]; rw [Bool.eq_iff_iff]; simp)) VR.bool hs
  | neq => exact ok_done h (hrun (.bool (!decide (m = n))) (fun w' => by simp [binOp, Op.intCmp]; rw [Bool.eq_iff_iff]; simp)) VR.bool hs
  | lss => exact ok_done h (hrun (.bool (decide (m < n))) (fun w' => by simp [binOp, Op.intCmp])) VR.bool hs
  | leq => exact ok_done h (hrun (.bool (decide (m ≤ n))) (fun w' => by simp [binOp, Op.intCmp])) VR.bool hs
  | gtr => exact ok_done h (hrun (.bool (decide (n < m))) (fun w' => by simp [binOp, Op.intCmp])) VR.bool hs
  | geq => exact ok_done h (hrun (.bool (decide (n ≤ m))) (fun w' => by simp [binOp, Op.intCmp])) VR.bool hs
  | and => exact ok_done h (hrun (.int k (bitStd .and k m n)) (fun w' => by simp [binOp, Op.intBits, bitStd])) (VR.int wrap_range) hs
  | or => exact ok_done h (hrun (.int k (bitStd .or k m n)) (fun w' => by simp [binOp, Op.intBits, bitStd])) (VR.int wrap_range) hs
  | xor => exact ok_done h (hrun (.int k (bitStd .xor k m n)) (fun w' => by simp [binOp, Op.intBits, bitStd])) (VR.int wrap_range) hs
  | shl =>
    obtain ⟨⟨h1, h2⟩, hs⟩ := hs
    refine ok_done h (hrun (.int k (k.wrap (m * 2 ^ (min n.toNat k.bits)))) ?_) (VR.int wrap_range) hs
    intro w'
    simp only [binOp, Op.shift]
    rw [if_neg (by omega)]; rfl
  | shr =>
    simp only [binI] at hs
    split at hs
    · rename_i hk
      subst hk
      obtain ⟨⟨h1, h2⟩, hs⟩ := hs
      have hr : IntKind.i64.min ≤ m.fdiv (2 ^ (min n.toNat 64)) ∧ m.fdiv (2 ^ (min n.toNat 64)) ≤ IntKind.i64.max := by
        have hd : (1 : Int) ≤ 2 ^ (min n.toNat 64) := by
          have : 0 < (2 : Int) ^ (min n.toNat 64) := Int.pow_pos (by omega)
          omega
        generalize (2 : Int) ^ (min n.toNat 64) = d at hd
        have hm' : -9223372036854775808 ≤ m ∧ m ≤ 9223372036854775807 := by simpa [IntKind.min, IntKind.max, IntKind.signed, IntKind.bits] using hm
        rw [Int.fdiv_eq_ediv_of_nonneg m (by omega)]
        refine i64_range ⟨?_, ?_⟩
        · rw [Int.le_ediv_iff_mul_le (by omega)]
          have : 9223372036854775808 * 1 ≤ 9223372036854775808 * d := Int.mul_le_mul_of_nonneg_left hd (by omega)
          omega
        · have : m / d < 9223372036854775808 := by
            rw [Int.ediv_lt_iff_lt_mul (by omega)]
            have : 9223372036854775808 * 1 ≤ 9223372036854775808 * d := Int.mul_le_mul_of_nonneg_left hd (by omega)
            omega
          omega
      refine ok_done h (hrun (.int .i64 (m.fdiv (2 ^ (min n.toNat 64)))) ?_) (VR.int hr) hs
      intro w'
      simp only [binOp, Op.shift]
      rw [if_neg (by omega)]; rfl
    · exact hs.elim
  | andNot => exact hs.elim

theorem lb_dat {b : Bool} {u : Value} (h : VR w I ρ H (.lb b) u) : u = .bool b := by cases h; rfl

theorem ok_binB {op : BinOp} {t : TypeId} {x y : Operand} {yt : TypeId} {p q : Bool} (hE : P.underlying t = some .bool) (h : Inv w0 F0 s a w I ρ) (ho : o.op = .binOp op t x y yt) (hx : a.eval x = .bool p) (hy : a.eval y = .bool q)
    (hs : sat (binB Alg.std s o.dst op p q) (fun _ s' => K s')) : Quiet P o a C (fun a' => Post w0 F0 K a' w) := by
  have hg : ∀ w, (eqGuard op t x y (.bool p) (.bool q)).run P w = .ok () w := fun w => by
    unfold eqGuard; split <;> simp
  have hrun : ∀ v, (∀ w', (binOp op t (.bool p) (.bool q)).run P w' = .ok v w') → ∀ w', C w' → (execOp a.eval o).run P w' = .ok (.value v) w' := fun v hv w' _ => by
    simp only [execOp, ho, hx, hy, Sem.run_bind, hg, Result.andThen_ok, hv, Sem.run_pure]
  cases op <;> first | exact hs.elim | skip
  case eql => exact ok_done h (hrun (.bool (decide (p = q))) (fun w' => by simp [binOp, run_equal_bool w' t p q hE]; cases p <;> cases q <;> rfl)) VR.bool hs
  case neq => exact ok_done h (hrun (.bool (!decide (p = q))) (fun w' => by simp [binOp, run_equal_bool w' t p q hE]; cases p <;> cases q <;> rfl)) VR.bool hs

theorem ok_binS {op : BinOp} {t : TypeId} {x y : Operand} {yt : TypeId} {p q : ByteArray} (h : Inv w0 F0 s a w I ρ) (ho : o.op = .binOp op t x y yt) (hx : a.eval x = .string p) (hy : a.eval y = .string q)
    (hs : sat (binS Alg.std s o.dst op (p.data.toList.map fun b => (b.toNat : Int)) (q.data.toList.map fun b => (b.toNat : Int))) (fun _ s' => K s')) : Quiet P o a C (fun a' => Post w0 F0 K a' w) := by
  have hg : ∀ w, (eqGuard op t x y (.string p) (.string q)).run P w = .ok () w := fun w => by
    unfold eqGuard; split <;> simp
  have hrun : ∀ v, (∀ w', (binOp op t (.string p) (.string q)).run P w' = .ok v w') → ∀ w', C w' → (execOp a.eval o).run P w' = .ok (.value v) w' := fun v hv w' _ => by
    simp only [execOp, ho, hx, hy, Sem.run_bind, hg, Result.andThen_ok, hv, Sem.run_pure]
  cases op <;> first | exact hs.elim | skip
  case eql => exact ok_done h (hrun (.bool _) (fun w' => by simp only [binOp, Op.stringOp, bytesEq]; rfl)) VR.bool hs
  case neq => exact ok_done h (hrun (.bool _) (fun w' => by simp only [binOp, Op.stringOp, bytesEq]; rfl)) VR.bool hs

theorem ok_binOp {op : BinOp} {t : TypeId} {x y : Operand} {yt : TypeId} (τ : Env) (G : Gam) (hE : EnvOk P τ) (h : Inv w0 F0 s a w I ρ) (ho : o.op = .binOp op t x y yt)
    (hs : sat (stepOp Alg.std τ G o s) (fun _ s' => K s')) : Quiet P o a C (fun a' => Post w0 F0 K a' w) := by
  have hx := h.ev x
  have hy := h.ev y
  simp only [stepOp, ho] at hs
  unfold binV at hs
  split at hs
  · rename_i k m k' n ex ey
    rw [ex] at hx
    rw [ey] at hy
    split at hs
    · rename_i hk
      subst hk
      exact ok_binI h ho hx.int_inv.1 hy.int_inv.1 hx.int_inv.2 hy.int_inv.2 hs
    · exact hs.elim
  · rename_i m n ex ey
    rw [ex] at hx
    rw [ey] at hy
    obtain ⟨b, hb, rfl, _⟩ := hx.str_inv
    obtain ⟨c, hc, rfl, _⟩ := hy.str_inv
    exact ok_binS h ho hb hc hs
  · split at hs
    · rename_i p q ht hp hq
      exact ok_binB (hE.ty t _ ht).2 h ho (hx.asB hp) (hy.asB hq) hs
    · exact hs.elim

end
end Go.Vee
