import Derived.Test.YtcdlgemhmmkneaaVH1
set_option linter.unusedSimpArgs false
set_option linter.unusedVariables false
namespace Go.Vee
open Go

section
variable {P : Program} {w0 w : World} {F0 : Bnd} {s : St} {a : Act} {I : Nat → Prop} {ρ : Nat → RC} {H : Heap}

/-! ## Values taken apart -/
theorem VR.dat_inv {t : Ty} {x : t.den} {u : Value} (h : VR w I ρ H (.dat t x) u) : ∃ cs, Own w I t .sh cs x [] ∧ u = mkV t cs := by
  cases h with
  | dat _ _ cs h => exact ⟨cs, h, rfl⟩

theorem VR.int_inv {k : IntKind} {n : Int} {u : Value} (h : VR w I ρ H (.dat (.int k) n) u) : u = .int k n ∧ k.min ≤ n ∧ n ≤ k.max := by
  obtain ⟨cs, ⟨rfl, h2, _⟩, rfl⟩ := h.dat_inv
  exact ⟨rfl, h2⟩

theorem VR.bool_inv {b : Bool} {u : Value} (h : VR w I ρ H (.dat .bool b) u) : u = .bool b := by
  obtain ⟨cs, ⟨rfl, _⟩, rfl⟩ := h.dat_inv
  rfl

theorem VR.str_inv {l : List Int} {u : Value} (h : VR w I ρ H (.dat .str l) u) : ∃ b : ByteArray, u = .string b ∧ l = b.data.toList.map (fun b => (b.toNat : Int)) ∧ b.size ≤ 9223372036854775807 := by
  obtain ⟨cs, ⟨⟨b, rfl, h1, h2⟩, _⟩, rfl⟩ := h.dat_inv
  exact ⟨b, rfl, h1, h2⟩

theorem VR.sl_inv {e : Ty} {xs : List e.den} {u : Value} (h : VR w I ρ H (.dat (.sl e) xs) u) : ∃ A c, u = .slice A xs.length c ∧ xs.length ≤ 9223372036854775807 ∧ xs.length ≤ c ∧
    (xs = [] ∨ ∃ (b off : Nat) (arr : Array Value) (et : TypeId) (fr : Nat × Nat), A = some ⟨b, off, none⟩ ∧ w.heap[b]? = some (.cells arr et fr) ∧ I b ∧
        ∀ j (h : j < xs.length), off + (j + 1) * e.sz ≤ arr.size ∧ Own w I e .sh (seg arr (off + j * e.sz) e.sz) (xs[j]'h) []) := by
  obtain ⟨cs, h1, rfl⟩ := h.dat_inv
  obtain ⟨h1, _, A, c, rfl, h3, h2⟩ := h1
  exact ⟨A, c, rfl, h1, h3, h2⟩

theorem VR.int {k : IntKind} {n : Int} (h : k.min ≤ n ∧ n ≤ k.max) : VR w I ρ H (.dat (.int k) n) (.int k n) := VR.dat (.int k) n [.int k n] ⟨rfl, h, rfl⟩
theorem VR.bool {b : Bool} : VR w I ρ H (.dat .bool b) (.bool b) := VR.dat .bool b [.bool b] ⟨rfl, rfl⟩
theorem i64_range {n : Int} (h : -9223372036854775808 ≤ n ∧ n ≤ 9223372036854775807) : IntKind.i64.min ≤ n ∧ n ≤ IntKind.i64.max := by simpa [IntKind.min, IntKind.max, IntKind.signed, IntKind.bits] using h
theorem VR.i64 {n : Int} (h : -9223372036854775808 ≤ n ∧ n ≤ 9223372036854775807) : VR w I ρ H (.dat (.int .i64) n) (.int .i64 n) := VR.int (i64_range h)

theorem VR.asB {v : AV} {u : Value} {b : Bool} (h : VR w I ρ H v u) (hb : Vee.asB v = some b) : u = .bool b := by
  cases h <;> simp [Vee.asB] at hb
  case lb => subst hb; rfl
  case dat t x cs ho =>
    cases t <;> simp at hb
    subst hb
    exact (VR.dat (ρ := ρ) (H := H) _ _ _ ho).bool_inv

theorem VR.intOf {v : AV} {u : Value} {n : Int} (h : VR w I ρ H v u) (hn : Vee.intOf v = some n) : ∃ k, u = .int k n ∧ k.min ≤ n ∧ n ≤ k.max := by
  cases h <;> simp [Vee.intOf] at hn
  case dat t x cs ho =>
    cases t with
    | int k => simp at hn; subst hn; exact ⟨k, (VR.dat (ρ := ρ) (H := H) _ _ _ ho).int_inv⟩
    | _ => simp at hn

/-! ## One step's end -/
def Post (w0 : World) (F0 : Bnd) (K : St → Prop) (a : Act) (w : World) : Prop := ∃ s I ρ, Inv w0 F0 s a w I ρ ∧ K s

variable {o : Oper} {K : St → Prop} {Q : Exit → Act → World → Prop} {C : World → Prop}

/-- The operation yields one value, in every world of the class, and leaves it as it is. -/
def Quiet (P : Program) (o : Oper) (a : Act) (C : World → Prop) (N : Act → Prop) : Prop := ∃ u, (∀ w', C w' → (execOp a.eval o).run P w' = .ok (.value u) w') ∧ N (a.put o.dst u)

theorem wp_val {u : Value} {w' : World} (hr : (execOp a.eval o).run P w = .ok (.value u) w') (hn : Post w0 F0 K (a.put o.dst u) w') : o.wp P a w (Post w0 F0 K) Q := by
  unfold Oper.wp; rw [hr]; exact hn
theorem wp_skip {w' : World} (hr : (execOp a.eval o).run P w = .ok .skip w') (hn : Post w0 F0 K (a.put o.dst undef) w') : o.wp P a w (Post w0 F0 K) Q := by
  unfold Oper.wp; rw [hr]; exact hn

theorem ok_done {v : AV} {u : Value} (h : Inv w0 F0 s a w I ρ) (hr : ∀ w', C w' → (execOp a.eval o).run P w' = .ok (.value u) w') (hv : VR w I ρ s.H v u) (hs : sat (done s o.dst v) (fun _ s' => K s')) :
    Quiet P o a C (fun a' => Post w0 F0 K a' w) := ⟨u, hr, _, I, ρ, h.put hv o.dst, hs⟩

theorem Quiet.wp {N : Act → World → Prop} (h : Quiet P o a (fun w' => w' = w) (fun a' => N a' w)) : o.wp P a w N Q := by
  obtain ⟨u, h1, h2⟩ := h
  unfold Oper.wp; rw [h1 w rfl]; exact h2

theorem ok_move {x : Operand} (h : Inv w0 F0 s a w I ρ) (ho : o.op = .move x ∨ o.op = .assign x) (hs : sat (done s o.dst (Vee.ev Alg.std s x)) (fun _ s' => K s')) : Quiet P o a C (fun a' => Post w0 F0 K a' w) :=
  ok_done h (fun w' _ => by rcases ho with ho | ho <;> simp [execOp, ho]) (h.ev x) hs

theorem ok_pick {c x y : Operand} (h : Inv w0 F0 s a w I ρ) (ho : o.op = .pick c x y) (τ : Env) (G : Gam) (hs : sat (stepOp Alg.std τ G o s) (fun _ s' => K s')) : Quiet P o a C (fun a' => Post w0 F0 K a' w) := by
  have hc := h.ev c
  have hx := h.ev x
  have hy := h.ev y
  simp only [stepOp, ho] at hs
  split at hs
  · rename_i e
    rw [e] at hc
    cases hc' : a.eval c <;> rw [hc'] at hc <;> cases hc
    exact ok_done h (fun w' _ => by simp [execOp, ho, hc', asBool]) hx hs
  · rename_i e
    rw [e] at hc
    cases hc' : a.eval c <;> rw [hc'] at hc <;> cases hc
    exact ok_done h (fun w' _ => by simp [execOp, ho, hc', asBool]) hy hs
  · rename_i b e
    rw [e] at hc
    have hc' := hc.bool_inv
    split at hs
    · rename_i p q hp hq
      have hx' := hx.asB hp
      have hy' := hy.asB hq
      refine ok_done (u := .bool (if b then p else q)) h ?_ VR.bool hs
      intro w' _
      simp only [execOp, ho, hc', asBool, hx', hy', Sem.run_bind, Sem.run_pure, Result.andThen_ok]
      cases b <;> rfl
    · exact hs.elim
  · exact hs.elim

theorem ok_unOp {op : UnOp} {t : TypeId} {x : Operand} (h : Inv w0 F0 s a w I ρ) (ho : o.op = .unOp op t x) (τ : Env) (G : Gam) (hs : sat (stepOp Alg.std τ G o s) (fun _ s' => K s')) : Quiet P o a C (fun a' => Post w0 F0 K a' w) := by
  have hx := h.ev x
  simp only [stepOp, ho] at hs
  split at hs
  · rename_i b e
    rw [e] at hx
    cases hx' : a.eval x <;> rw [hx'] at hx <;> cases hx
    exact ok_done h (fun w' _ => by simp [execOp, ho, hx', Op.unary]) (.lb _) hs
  · rename_i b e
    rw [e] at hx
    have hx' := hx.bool_inv
    exact ok_done h (fun w' _ => by simp [execOp, ho, hx', Op.unary, Alg.std]) VR.bool hs
  · exact hs.elim

theorem ok_nilCheck {x : Operand} (h : Inv w0 F0 s a w I ρ) (ho : o.op = .nilCheck x) (τ : Env) (G : Gam) (hs : sat (stepOp Alg.std τ G o s) (fun _ s' => K s')) : Quiet P o a C (fun a' => Post w0 F0 K a' w) := by
  have hx := h.ev x
  simp only [stepOp, ho] at hs
  split at hs
  · rename_i e
    rw [e] at hx
    refine ok_done h ?_ hx hs
    intro w' _
    cases hx' : a.eval x <;> rw [hx'] at hx <;> cases hx
    simp [execOp, ho, hx']
  · rename_i e
    rw [e] at hx
    refine ok_done h ?_ hx hs
    intro w' _
    cases hx' : a.eval x <;> rw [hx'] at hx <;> cases hx
    simp [execOp, ho, hx']
  · rename_i e
    rw [e] at hx
    refine ok_done h ?_ hx hs
    intro w' _
    cases hx' : a.eval x <;> rw [hx'] at hx <;> cases hx
    simp [execOp, ho, hx']
  · exact hs.elim

end
end Go.Vee
