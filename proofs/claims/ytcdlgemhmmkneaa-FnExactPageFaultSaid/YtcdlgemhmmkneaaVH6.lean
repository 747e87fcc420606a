import Derived.Test.YtcdlgemhmmkneaaVH5
import Derived.Lib.Strings
set_option linter.unusedSimpArgs false
set_option linter.unusedVariables false
namespace Go.Vee
open Go

section
variable {P : Program} {w0 w : World} {F0 : Bnd} {s : St} {a : Act} {I : Nat → Prop} {ρ : Nat → RC} {H : Heap} {o : Oper} {K : St → Prop} {Q : Exit → Act → World → Prop} {C : World → Prop}

theorem TyF.sl {t : TypeId} {e : Ty} (h : (TyF P (.sl e)).1 t) : ∃ eid, P.underlying t = some (.slice eid) ∧ (TyF P e).1 eid ∧ 0 < e.sz := by
  obtain ⟨_, h1, eid, h2, h3⟩ := h
  exact ⟨eid, h2, h3, h1⟩

/-- What a slice's place is. -/
theorem readRef_spec {e : Ty} {r ver : Nat} {p : List Stp} {m : Md} {y : List e.den} (h : readRef Alg.std H e r ver p = some (m, y)) :
    ∃ v e' m' xs, hget H r = some (.row v e' m' xs) ∧ (hops p = 0 ∨ v = ver) ∧ getAt Alg.std (.sl e') (.ow m') xs p = some ⟨.sl e, .ow m, y⟩ := by
  unfold readRef at h
  split at h
  · rename_i e' m' xs v hrow
    obtain ⟨h1, h2⟩ := rowAt_spec hrow
    split at h
    · rename_i t m2 x hg
      split at h
      · rename_i z hz
        cases h
        unfold castD at hz
        split at hz
        · rename_i e1
          subst e1
          cases hz
          exact ⟨v, e', m', xs, h1, h2, hg⟩
        · cases hz
      · cases h
    · cases h
  · cases h

/-- A slice in memory that is owned: its header's place, its elements. -/
theorem Inv.ref (h : Inv w0 F0 s a w I ρ) {e : Ty} {r ver : Nat} {p : List Stp} {lo n : Nat} {u : Value} (hv : VR w I ρ s.H (.ref e r ver p lo n) u) {m : Md} {y : List e.den} (hr : readRef Alg.std s.H e r ver p = some (m, y)) :
    ∃ A c B c0 l fp' e' m' xs v, u = .slice A n c ∧ n ≤ c ∧ hget s.H r = some (.row v e' m' xs) ∧ ver ≤ v ∧ (hops p = 0 ∨ v = ver) ∧ walk w (.sl e') [(ρ r).hdr] none p = some (.sl e, [.slice B y.length c0], l) ∧
      lo + n ≤ y.length ∧ (0 < n → A = B.map (fun a => a.add (lo * e.sz))) ∧ (lo = 0 ∧ n = y.length → A = B ∧ c = c0) ∧ Own w I (.sl e) (.ow m) [.slice B y.length c0] y fp' ∧ (∀ b ∈ fp', b ∈ (ρ r).fp) ∧
      getAt Alg.std (.sl e') (.ow m') xs p = some ⟨.sl e, .ow m, y⟩ := by
  obtain ⟨v, e', m', xs, h1, h2, h3⟩ := readRef_spec hr
  cases hv
  rename_i A c hrl hn hnc hc
  obtain ⟨hle, hw⟩ := hc v e' m' xs h1
  obtain ⟨B, c0, len, l, hw, q1, q2, q3⟩ := hw h2
  obtain ⟨_, fp', ho, hsub⟩ := Own.get p (h.roots r _ h1) h3 hw
  have hlen : len = y.length := by
    rcases ho.2 with ⟨he, hx, _⟩ | ⟨b, c, arr, et, fps, he, _⟩
    · simp at he; simp [he, hx]
    · simp at he; exact he.2.1
  subst hlen
  exact ⟨A, c, B, c0, l, fp', e', m', xs, v, rfl, hnc, h1, hle, h2, hw, q1, q2, q3, ho, hsub, h3⟩

theorem run_indexAt {t eid : TypeId} {e : Ty} (hu : P.underlying t = some (.slice eid)) (hF : (TyF P e).1 eid) {k : IntKind} {i : Int} {ad : Addr} {n c : Nat} (h0 : 0 ≤ i) (h1 : i < n) :
    (Instr.indexAt t (.slice (some ad) n c) (.int k i)).run P w = .ok (.pointer (some (ad.add (i.toNat * e.sz)))) w := by
  simp [Instr.indexAt, asIntOf, run_underlying hu, run_sizeOf (TyF.base hF), h0, h1]

theorem ok_indexAddr {t : TypeId} {x i : Operand} (τ : Env) (G : Gam) (hE : EnvOk P τ) (h : Inv w0 F0 s a w I ρ) (ho : o.op = .indexAddr t x i) (hs : sat (stepOp Alg.std τ G o s) (fun _ s' => K s')) :
    Quiet P o a C (fun a' => Post w0 F0 K a' w) := by
  have hv := h.ev x
  have hi := h.ev i
  simp only [stepOp, ho] at hs
  split at hs
  · rename_i e j ht hj
    obtain ⟨k, hi, _⟩ := hi.intOf hj
    obtain ⟨eid, hun, hF, hsz⟩ := TyF.sl (hE.ty t _ ht)
    unfold idxOp at hs
    split at hs
    · rename_i e' xs hx
      rw [hx] at hv
      split at hs
      · rename_i he
        subst he
        obtain ⟨⟨h0, h1⟩, hs⟩ := hs
        obtain ⟨A, c, hu, hl, hlc, hcase⟩ := hv.sl_inv
        rcases hcase with rfl | ⟨b, off, arr, et, fr, rfl, hb, hI, hel⟩
        · simp [Alg.std] at h1; omega
        · have hlt : j.toNat < List.length xs := by simp only [Alg.std] at h1; omega
          obtain ⟨g1, g2⟩ := hel j.toNat hlt
          refine ok_done (u := .pointer (some ⟨b, off + j.toNat * e'.sz, none⟩)) h ?_ ?_ hs
          · intro w' _
            have h1' : j < (List.length xs : Int) := h1
            simp only [execOp, ho, hu, hi]
            simp [run_indexAt hun hF h0 h1', add_lit']
          · have e1 : Alg.std.getL xs (Alg.std.toN j) e'.dflt = xs[j.toNat] := getL_std _ _ _ hlt
            rw [e1]
            rw [Nat.add_mul, Nat.one_mul] at g1
            exact .dptr e' _ b _ arr et fr hb hI (by omega) g2
      · exact hs.elim
    · rename_i e' r ver p lo n hx
      rw [hx] at hv
      split at hs
      · rename_i he
        subst he
        split at hs
        · rename_i my hmy
          obtain ⟨m, y⟩ := my
          obtain ⟨⟨h0, h1⟩, hs⟩ := hs
          obtain ⟨A, c, B, c0, l, fp', e0, m0, xs, v, hu, hnc, hr, hle, hver, hw, q1, q2, q3, hown, hsub, hg⟩ := h.ref hv hmy
          have hn : 0 < n := by omega
          have hy : 0 < y.length := by omega
          rcases hown.2 with ⟨_, hy0, _⟩ | ⟨b, c2, arr, et, fps, he, hb, _⟩
          · rw [hy0] at hy; simp at hy
          · simp only [List.cons.injEq, Value.slice.injEq, and_true] at he
            obtain ⟨rfl, -, rfl⟩ := he
            have hA := q2 hn
            simp only [Option.map_some] at hA
            subst hA
            rw [plusN_std, show Alg.std.toN j = j.toNat from rfl] at hs
            refine ok_done (u := .pointer (some ⟨b, (lo + j.toNat) * e'.sz, none⟩)) h ?_ ?_ hs
            · intro w' _
              simp only [execOp, ho, hu, hi]
              simp [run_indexAt hun hF h0 h1, add_lit', Nat.add_mul]
            · refine .ptr r ver _ b _ (hget_lt hr) fun v' e1 m1 xs1 hg1 => ?_
              rw [hr] at hg1
              cases hg1
              refine ⟨hle, fun _ => ⟨e', seg arr ((lo + j.toNat) * e'.sz) e'.sz, ?_⟩⟩
              rw [walk_append hw]
              simp only [walk, hb, Nat.zero_add]
              rw [if_pos (by omega)]
        · exact hs.elim
      · exact hs.elim
    · exact hs.elim
  · exact hs.elim

theorem ok_index {t : TypeId} {x i : Operand} (τ : Env) (G : Gam) (hE : EnvOk P τ) (h : Inv w0 F0 s a w I ρ) (ho : o.op = .index t x i) (hs : sat (stepOp Alg.std τ G o s) (fun _ s' => K s')) :
    Quiet P o a C (fun a' => Post w0 F0 K a' w) := by
  have hv := h.ev x
  have hi := h.ev i
  simp only [stepOp, ho] at hs
  split at hs
  · rename_i xs j ht hx hj
    obtain ⟨k, hi, _⟩ := hi.intOf hj
    rw [hx] at hv
    obtain ⟨b, hb, rfl, hsz⟩ := hv.str_inv
    obtain ⟨⟨h0, h1⟩, hs⟩ := hs
    have hlt : j.toNat < b.size := by
      have h1' : j < (((b.data.toList.map fun b => (b.toNat : Int)).length : Nat) : Int) := h1
      rw [List.length_map] at h1'
      have : b.data.toList.length = b.size := Array.length_toList
      omega
    have hun := (hE.ty t _ ht).2
    have he : Alg.std.getL (b.data.toList.map fun b => (b.toNat : Int)) (Alg.std.toN j) 0 = ((b[j.toNat]'hlt).toNat : Int) := by
      have hl : j.toNat < (b.data.toList.map fun b => (b.toNat : Int)).length := by
        rw [List.length_map]
        have : b.data.toList.length = b.size := Array.length_toList
        omega
      rw [show Alg.std.toN j = j.toNat from rfl, getL_std _ _ _ hl]
      simp
      rfl
    rw [he] at hs
    refine ok_done (u := .int .u8 (b[j.toNat]'hlt).toNat) h ?_ (VR.int ?_) hs
    · intro w' _
      simp only [execOp, ho, hb, hi]
      have hg : b[j.toNat]? = some (b[j.toNat]'hlt) := getElem?_pos b j.toNat hlt
      simp [Instr.index, asIntOf, run_underlying hun, h0, hg]
    · have := (b[j.toNat]'hlt).toNat_lt
      simp [IntKind.min, IntKind.max, IntKind.signed, IntKind.bits]; omega
  · exact hs.elim

theorem ok_extract {x : Operand} {i : Nat} (τ : Env) (G : Gam) (h : Inv w0 F0 s a w I ρ) (ho : o.op = .extract x i) (hs : sat (stepOp Alg.std τ G o s) (fun _ s' => K s')) :
    Quiet P o a C (fun a' => Post w0 F0 K a' w) := by
  have hv := h.ev x
  simp only [stepOp, ho] at hs
  split at hs
  · rename_i vs hx
    rw [hx] at hv
    split at hs
    · rename_i v hvi
      cases hu : a.eval x <;> rw [hu] at hv <;> cases hv
      rename_i cs hl hc
      have hi := (List.getElem?_eq_some_iff.1 hvi).1
      have hci : cs[i]? = some (cs[i]'(by omega)) := by simp
      exact ok_done h (fun w' _ => by simp [execOp, ho, hu, Instr.extract, hci]) (hc i v _ hvi hci) hs
    · exact hs.elim
  · exact hs.elim

theorem ok_makeFunc {f : FuncId} {first caps : Array Operand} (τ : Env) (G : Gam) (h : Inv w0 F0 s a w I ρ) (ho : o.op = .makeFunc (.func f) first caps) (hs : sat (stepOp Alg.std τ G o s) (fun _ s' => K s')) :
    Quiet P o a C (fun a' => Post w0 F0 K a' w) := by
  simp only [stepOp, ho] at hs
  split at hs
  · rename_i h0
    have hf : first = #[] := Array.eq_empty_of_size_eq_zero h0
    subst hf
    have hr : ∀ w', C w' → (execOp a.eval o).run P w' = .ok (.value (.func (.func f) #[] (caps.map a.eval))) w' := by
      intro w' _
      unfold execOp
      rw [ho]
      simp [Instr.makeFunc]
    refine ok_done (u := .func (.func f) #[] (caps.map a.eval)) h hr ?_ hs
    have : (caps.map a.eval) = (caps.toList.map a.eval).toArray := by rw [← Array.toList_map, Array.toArray_toList]
    rw [this]
    refine .clo f _ _ (by simp) fun i v u hv hu => ?_
    simp only [List.getElem?_map] at hv hu
    cases hc : caps.toList[i]? with
    | none => simp [hc] at hv
    | some x =>
      simp only [hc, Option.map_some, Option.some.injEq] at hv hu
      subst hv
      subst hu
      exact h.ev x
  · exact hs.elim

end
end Go.Vee
