import Derived.Test.YtcdlgemhmmkneaaVH15
import Derived.Laws.BytesArg
set_option linter.unusedSimpArgs false
set_option linter.unusedVariables false
namespace Go.Vee
open Go

theorem setAt_getAt : ∀ (p : List Stp) {t : Ty} {m : Md} {x : t.den} {t' : Ty} {m' : Md} {y : t'.den} {z : t.den}, setAt Alg.std t m x p t' m' y = some z → ∃ x', getAt Alg.std t m x p = some ⟨t', m', x'⟩
  | [], t, m, x, t', m', y, z, h => by
    have : setAt Alg.std t m x [] t' m' y = if m' = m then castD t' t y else none := by cases t <;> simp [setAt]
    rw [this] at h
    split at h
    · rename_i hm
      obtain ⟨e, _⟩ := castD_some h
      subst e
      subst hm
      exact ⟨x, by cases t' <;> simp [getAt]⟩
    · cases h
  | st :: p, t, m, x, t', m', y, z, h => by
    cases t with
    | pair a b =>
      cases st with
      | fst =>
        simp only [setAt] at h
        split at h
        · rename_i z' hz
          obtain ⟨x', hx⟩ := setAt_getAt p hz
          exact ⟨x', by simp only [getAt]; exact hx⟩
        · cases h
      | snd =>
        simp only [setAt] at h
        split at h
        · rename_i z' hz
          obtain ⟨x', hx⟩ := setAt_getAt p hz
          exact ⟨x', by simp only [getAt]; exact hx⟩
        · cases h
      | idx i => simp [setAt] at h
    | sl e =>
      cases st with
      | fst => cases m <;> simp [setAt] at h
      | snd => cases m <;> simp [setAt] at h
      | idx i =>
        cases m with
        | ow m1 =>
          simp only [setAt] at h
          split at h
          · rename_i z' hz
            obtain ⟨x', hx⟩ := setAt_getAt p hz
            exact ⟨x', by simp only [getAt]; exact hx⟩
          · cases h
        | _ => simp [setAt] at h
    | int k => cases st <;> simp [setAt] at h
    | bool => cases st <;> simp [setAt] at h
    | str => cases st <;> simp [setAt] at h
    | unit => cases st <;> simp [setAt] at h

section
variable {P : Program} {w0 w : World} {F0 : Bnd} {s : St} {a : Act} {I : Nat → Prop} {ρ : Nat → RC} {H : Heap} {o : Oper} {K : St → Prop} {Q : Exit → Act → World → Prop} {C : World → Prop}

theorem ok_load {t : TypeId} {x : Operand} (τ : Env) (G : Gam) (hE : EnvOk P τ) (hC : ∀ w', C w' → Keeps (fun _ => False) w w') (h : Inv w0 F0 s a w I ρ) (ho : o.op = .load t x) (hs : sat (stepOp Alg.std τ G o s) (fun _ s' => K s')) :
    Quiet P o a C (fun a' => Post w0 F0 K a' w) := by
  simp only [stepOp, ho] at hs
  split at hs
  · rename_i T hT
    have hF := hE.ty t T hT
    cases hx : Vee.ev Alg.std s x <;> rw [hx] at hs <;> first | exact hs.elim | skip
    case ptr r ver p => exact ok_load_ptr T hC hF h ho hx hs
    case bptr r off => exact ok_load_box T hC hF h ho hx hs
    case dptr t' y => exact ok_load_dptr T hC hF h ho hx hs
  · exact hs.elim

theorem Own.eqM {w : World} {I : Nat → Prop} : ∀ {t : Ty} {m n : Md} {cs : List Value} {x : t.den} {fp : List Nat}, Vee.eqM t m n = true → Own w I t m cs x fp → Own w I t n cs x fp
  | .int _, _, _, _, _, _, _, h => h
  | .bool, _, _, _, _, _, _, h => h
  | .str, _, _, _, _, _, _, h => h
  | .unit, _, _, _, _, _, _, h => h
  | .sl e, m, n, _, _, _, he, h => by
    have : m = n := by simpa [Vee.eqM] using he
    subst this
    exact h
  | .pair a b, m, n, _, _, _, he, h => by
    simp only [Vee.eqM, Bool.and_eq_true] at he
    obtain ⟨c1, c2, f1, f2, e1, e2, h1, h2⟩ := h
    exact ⟨c1, c2, f1, f2, e1, e2, Own.eqM he.1 h1, Own.eqM he.2 h2⟩

theorem ok_storeIn {t : TypeId} {x v : Operand} (h : Inv w0 F0 s a w I ρ) (ho : o.op = .store t x v) {T : Ty} (hF : (TyF P T).1 t) {r ver : Nat} {p : List Stp} (hx : VR w I ρ s.H (Vee.ev Alg.std s x) (a.eval x)) (hxe : Vee.ev Alg.std s x = .ptr r ver p)
    (hv : VR w I ρ s.H (Vee.ev Alg.std s v) (a.eval v)) {e : Ty} {m : Md} {xs : List e.den} {v0 : Nat} (hrow : rowAt s.H r ver (hops p - 1) = some ⟨e, m, xs, v0⟩) {m2 : Md} {k : Pk T} (hpk : packM Alg.std T m2 (cellsOf (Vee.ev Alg.std s v)) s.H = some k)
    {v' : Nat} {e' : Ty} {m' : Md} {xs' : List e'.den} (hkl : k.l = []) (hkr : hget k.H r = some (.row v' e' m' xs')) (heq : eqM T k.m m2 = true) {ys : List e.den} (hset : setAt Alg.std (.sl e) (.ow m) xs p T m2 k.x = some ys)
    (hs : sat (needs k.p (doneH s (k.H.set r (some (.row (if e.hasSl then v' + 1 else v') e m ys))) o.dst .junk)) (fun _ s' => K s')) : o.wp P a w (Post w0 F0 K) Q := by
  rw [hxe] at hx
  rw [sat_needs] at hs
  obtain ⟨hq, hs⟩ := hs
  obtain ⟨us, hu, hul, hc⟩ := hv.packed hpk hkl
  obtain ⟨u1, u2, fp2, e1, hv2, pk⟩ := packM_spec s.H h.rootsOf (fun _ _ h => h) hc hpk hq
  have hu2 : u2 = [] := List.eq_nil_of_length_eq_zero (by have := hv2.len; rw [hkl] at this; simpa using this.symm)
  subst hu2
  rw [List.append_nil] at e1
  subst e1
  obtain ⟨hr, hver⟩ := rowAt_spec hrow
  have hkr' := pk.sub _ _ hkr
  rw [hr] at hkr'
  cases hkr'
  have hI := h.sub pk.sub (Nat.le_of_eq pk.len.symm)
  cases hxu : a.eval x <;> rw [hxu] at hx <;> cases hx
  rename_i b off hrl hcc
  obtain ⟨hle, hw⟩ := hcc _ _ _ _ hr
  obtain ⟨t2, cs, hw⟩ := hw hver
  obtain ⟨x', hg⟩ := setAt_getAt p hset
  rcases walk_sl hw with ⟨rfl, he⟩ | ⟨i, q, _, _, _, _, _, _, _, rfl, _⟩
  · cases he
  · obtain ⟨b', off', fp1, arr0, et0, e1, e2, hown, hnd1, hsub1, hbn, hbin, hh0, hcs, hsz, hlens⟩ := hI.rowAt hkr hg hw
    cases e1
    subst e2
    have hlu : us.length = t2.sz := pk.own.len
    have hfit : off + us.length ≤ arr0.size := by omega
    have hst := run_storeVar' (TyF.base hF) hh0 hu hlu hc.one hfit
    have hsrc : ∀ b ∈ fp2, b ∉ (ρ r).fp ∧ ¬ I b ∧ (w0.heap.size ≤ b ∨ F0.wr b) ∧ ∀ r' o, r' ≠ r → hget k.H r' = some o → b ∉ tfp ρ r' o := fun b hb => by
      obtain ⟨r1, o1, g1, g2, g3⟩ := pk.src b hb
      have hne : r1 ≠ r := by rintro rfl; rw [g2] at hkr; cases hkr
      obtain ⟨k1, k2, k3⟩ := h.sep r1 o1 g1 b g3
      refine ⟨fun hh => h.disj r1 o1 r _ hne g1 hr b g3 (by simpa [tfp] using hh), k1, k3, fun r' o hr' hg' hb' => ?_⟩
      have hne2 : r1 ≠ r' := by rintro rfl; rw [g2] at hg'; cases hg'
      exact h.disj r1 o1 r' o hne2 g1 (pk.sub _ _ hg') b g3 hb'
    have hbI : ¬ I b := (h.sep r _ hr b (by simpa [tfp] using hbin)).1
    have hb2 : b ∉ fp2 := fun hh => (hsrc b hh).1 hbin
    have hown2 : Own (w.setRow b (lay arr0 off us)) I t2 m2 (seg (lay arr0 off us) off t2.sz) k.x fp2 := by
      rw [lay_seg hfit hlu]
      exact Own.frame (fun c hc => setRow_other w _ _ _ (fun hh => hbI (by rw [← hh]; exact hc))) (fun _ h => h) (pk.own.eqM heq) fun c hc => setRow_other w _ _ _ (fun hh => hb2 (by rw [← hh]; exact hc))
    obtain ⟨ρ', h', E⟩ := hlens (w.setRow b (lay arr0 off us)) _ et0 _ fp2 ys (Keeps.setRow w b _ _ (.inl rfl)) (setRow_heap w b arr0 _ et0 _ hh0) (lay_near hfit hlu) hown2 pk.nd (fun k hk => .inr (hsrc k hk)) hset
    refine wp_skip ?_ ⟨_, I, ρ', h'.put (.junk _) o.dst, hs⟩
    simp [execOp, ho, hxu, Instr.storeAt, Instr.sureAddr, hst]

theorem ok_store {t : TypeId} {x v : Operand} (τ : Env) (G : Gam) (hE : EnvOk P τ) (h : Inv w0 F0 s a w I ρ) (ho : o.op = .store t x v) (hs : sat (stepOp Alg.std τ G o s) (fun _ s' => K s')) :
    o.wp P a w (Post w0 F0 K) Q := by
  simp only [stepOp, ho] at hs
  split at hs
  · rename_i T hT
    have hF := hE.ty t T hT
    have hx := h.ev x
    have hv := h.ev v
    unfold storeOp at hs
    split at hs
    · rename_i r off hxe
      rw [hxe] at hx
      split at hs
      · rename_i cs hr
        split at hs
        · rename_i hfit
          split at hs
          · rename_i hsz
            obtain ⟨us, hu, hul, hc⟩ := hv.fit hfit
            have hle : off + (cellsOf (Vee.ev Alg.std s v)).length ≤ cs.length := by rw [hc.len, hul]; exact hsz
            obtain ⟨arr, et, hb, hin, h'⟩ := h.setBox hr off (cellsOf (Vee.ev Alg.std s v)) us hc.len hle hc.one hc.at_
            cases hxu : a.eval x <;> rw [hxu] at hx <;> cases hx
            have hst := run_storeVar' (TyF.base hF) hb hu hul hc.one hin
            refine wp_skip ?_ ⟨_, I, ρ, h'.put (.junk _) o.dst, hs⟩
            simp [execOp, ho, hxu, Instr.storeAt, Instr.sureAddr, hst]
          · exact hs.elim
        · exact hs.elim
      · exact hs.elim
    · rename_i r ver p hxe
      rw [hxe] at hx
      split at hs
      · rename_i e m xs v0 hrow
        split at hs
        · rename_i tq m2 xq hgq
          split at hs
          · rename_i k hpk
            split at hs
            · rename_i v' e' m' xs' hkl hkr
              split at hs
              · rename_i heq
                split at hs
                · rename_i ys hset
                  exact ok_storeIn h ho hF (h.ev x) hxe hv hrow hpk hkl hkr heq hset hs
                · exact hs.elim
              · exact hs.elim
            · exact hs.elim
          · exact hs.elim
        · exact hs.elim
      · exact hs.elim
    · exact hs.elim
  · exact hs.elim

theorem bytes_cells {H' : Heap} {m : Md} {ys : List Int} {cells : List Value} {fps : List (List Nat)} (h : PackedL w I ρ H H' (.int .u8) m ys cells fps) : cells = ys.map (Value.int .u8) ∧ ∀ n ∈ ys, 0 ≤ n ∧ n ≤ 255 := by
  have hl := h.len
  simp only [Ty.sz, Nat.mul_one] at hl
  have hj : ∀ j (hj : j < ys.length), cells[j]? = some (.int .u8 ys[j]) ∧ 0 ≤ ys[j] ∧ ys[j] ≤ 255 := fun j hj => by
    obtain ⟨h1, h2, _⟩ := h.own j hj
    simp only [Ty.sz, Nat.mul_one] at h1
    have h3 : ((cells.drop j).take 1)[0]? = some (.int .u8 ys[j]) := by rw [h1]; rfl
    rw [List.getElem?_take, if_pos (by omega), List.getElem?_drop] at h3
    refine ⟨by simpa using h3, ?_⟩
    simpa [IntKind.min, IntKind.max, IntKind.signed, IntKind.bits] using h2
  constructor
  · apply List.ext_getElem?
    intro j
    by_cases hlt : j < ys.length
    · rw [(hj j hlt).1]; simp [hlt]
    · rw [List.getElem?_eq_none (by omega), List.getElem?_eq_none (by simp; omega)]
  · intro n hn
    obtain ⟨j, hjl, rfl⟩ := List.getElem_of_mem hn
    exact (hj j hjl).2

theorem run_bytes_text {ys : List Int} {cells : List Value} {u : Value} (hsl : (∃ A n c, u = .slice A n c)) (hc : cells = ys.map (Value.int .u8)) (hs : Src P w 1 ys.length u cells) : (Conv.bytesToString u).run P w = .ok (.string (strOfNums ys)) w := by
  obtain ⟨A, n, c, rfl⟩ := hsl
  have hn : n = ys.length := by have := hs.len w; simpa [Builtin.lenOf] using this
  subst hn
  cases A with
  | none =>
    have := hs.now
    simp [Builtin.firstCells] at this
    rw [this] at hc
    have : ys = [] := by simpa using hc.symm
    subst this
    simp [Conv.bytesToString, strOfNums]
    rfl
  | some ad =>
    have := hs.now
    simp only [Builtin.firstCells, Nat.mul_one] at this
    rw [hc] at this
    rw [run_bytesToString w ad _ c ys this, foldl_push_bytes]
    simp [strOfNums, ByteArray.empty, ByteArray.emptyWithCapacity]
    rfl

theorem strOfNums_list {ys : List Int} (h : ∀ n ∈ ys, 0 ≤ n ∧ n ≤ 255) : ys = (strOfNums ys).data.toList.map fun b => (b.toNat : Int) := by
  simp only [strOfNums, List.map_map]
  symm
  rw [List.map_congr_left (g := id)]
  · simp
  · intro n hn
    have := h n hn
    simp only [Function.comp, id]
    rw [UInt8.toNat_ofNat']
    omega

theorem ok_convert {t0 t : TypeId} {x : Operand} (τ : Env) (G : Gam) (hE : EnvOk P τ) (hC : ∀ w', C w' → Keeps (fun _ => False) w w') (h : Inv w0 F0 s a w I ρ) (ho : o.op = .convert t0 t x) (hs : sat (stepOp Alg.std τ G o s) (fun _ s' => K s')) :
    Quiet P o a C (fun a' => Post w0 F0 K a' w) := by
  have hx := h.ev x
  simp only [stepOp, ho] at hs
  split at hs
  · rename_i k0 k' hT0 hT
    split at hs
    · rename_i k n hxe
      rw [hxe] at hx
      obtain ⟨hu, hr⟩ := hx.int_inv
      have hun0 := (hE.ty t0 _ hT0).2
      have hun := (hE.ty t _ hT).2
      have hval : (if k = k' then n else if k = .u8 ∧ k' ≠ .i8 then n else Alg.std.wrapI k' n) = k'.wrap n := by
        split
        · rename_i e; subst e; exact (wrap_in hr).symm
        · split
          · rename_i e
            obtain ⟨rfl, e2⟩ := e
            refine (wrap_in ?_).symm
            cases k' <;> simp [IntKind.min, IntKind.max, IntKind.signed, IntKind.bits] at hr e2 ⊢ <;> omega
          · rfl
      rw [hval] at hs
      refine ok_done (u := .int k' (k'.wrap n)) h ?_ (VR.int wrap_range) hs
      intro w' _
      simp [execOp, ho, hu, convert, run_underlying hun0, run_underlying hun, Conv.intToInt]
    · exact hs.elim
  · rename_i hT0 hT
    split at hs
    · rename_i m ys H' hsrc
      obtain ⟨cells, fps, pk, src⟩ := srcM_spec (P := P) h hx hsrc (by simp)
      obtain ⟨hc, hr⟩ := bytes_cells pk
      obtain ⟨eid, hun0, hF, _⟩ := TyF.sl (hE.ty t0 _ hT0)
      have hun := (hE.ty t _ hT).2
      have hsl : ∃ A n c, a.eval x = .slice A n c ∨ ∃ b, a.eval x = .string b ∧ Vee.ev Alg.std s x = .dat .str ys := by
        cases hxe : Vee.ev Alg.std s x <;> rw [hxe] at hsrc hx
        case nilS => cases hu : a.eval x <;> rw [hu] at hx <;> cases hx; exact ⟨_, _, _, .inl rfl⟩
        case ref e r ver p lo n => cases hu : a.eval x <;> rw [hu] at hx <;> cases hx; exact ⟨_, _, _, .inl rfl⟩
        case dat t x =>
          cases t with
          | sl e => obtain ⟨A, c, hu, _⟩ := hx.sl_inv; exact ⟨A, _, c, .inl hu⟩
          | str =>
            simp only [srcM] at hsrc
            split at hsrc
            · rename_i y hy
              obtain ⟨e1, e2⟩ := castD_some hy
              cases hsrc
              change x = ys at e2
              subst e2
              obtain ⟨b, hu, _⟩ := hx.str_inv
              exact ⟨none, 0, 0, .inr ⟨b, hu, rfl⟩⟩
            · cases hsrc
          | _ => simp [srcM, castD] at hsrc
        all_goals simp [srcM] at hsrc
      have hlen : ys.length ≤ 9223372036854775807 := by
        obtain ⟨A, n, c, hu | ⟨b, hu, he⟩⟩ := hsl
        · have h1 := src.len w
          rw [hu] at h1
          have h2 : n = ys.length := by simpa [Builtin.lenOf] using h1
          rw [hu] at hx
          cases hxe : Vee.ev Alg.std s x <;> rw [hxe] at hsrc hx
          case nilS => cases hx; omega
          case ref e r ver p lo n => cases hx; omega
          case dat t x =>
            cases t with
            | sl e => obtain ⟨A, c, hu, hl, _⟩ := hx.sl_inv; cases hu; omega
            | str => obtain ⟨b, hu, _⟩ := hx.str_inv; cases hu
            | _ => simp [srcM, castD] at hsrc
          all_goals simp [srcM] at hsrc
        · rw [he] at hx
          obtain ⟨b', hu', h1, h2⟩ := hx.str_inv
          rw [h1, List.length_map]
          have : b'.data.toList.length = b'.size := Array.length_toList
          omega
      refine ok_done (u := .string (strOfNums ys)) h ?_ (VR.dat .str ys [.string (strOfNums ys)] ⟨⟨_, rfl, strOfNums_list hr, by simp [strOfNums, ByteArray.size]; exact hlen⟩, rfl⟩) hs
      intro w' hw'
      obtain ⟨A, n, c, hu | ⟨b, hu, he⟩⟩ := hsl
      · have h' := h.world (hC w' hw') (fun _ _ h => h) (fun _ _ _ _ _ h => h) (fun _ h => h.elim)
        obtain ⟨cells', fps', pk', src'⟩ := srcM_spec (P := P) h' (h'.ev x) hsrc (by simp)
        have hb := run_bytes_text (P := P) (w := w') ⟨A, n, c, hu⟩ (bytes_cells pk').1 src'
        rw [hu] at hb
        unfold execOp
        rw [ho]
        simp only [Sem.run_bind, hu]
        rw [run_convert_bytes_string w' t0 t eid A n c hun0 hF.2 hun, hb]
        simp
      · rw [he] at hx
        obtain ⟨b', hu', h1, h2⟩ := hx.str_inv
        rw [hu] at hu'
        cases hu'
        have e : strOfNums ys = b := by
          have := strOfNums_list hr
          rw [h1] at this
          have inj : ∀ (l k : List UInt8), (l.map (fun b => (b.toNat : Int)) = k.map fun b => (b.toNat : Int)) → l = k := by
            intro l
            induction l with
            | nil => intro k h; simpa using h.symm
            | cons x l ih =>
              intro k h
              cases k with
              | nil => simp at h
              | cons y k =>
                simp only [List.map_cons, List.cons.injEq] at h
                rw [ih k h.2, UInt8.toNat_inj.1 (by omega : x.toNat = y.toNat)]
          have := inj _ _ this
          rw [← h1] at this
          have h3 : b.data = (strOfNums ys).data := Array.toList_inj.1 this
          cases b
          cases hh : strOfNums ys
          rw [hh] at h3
          simp at h3
          rw [h3]
        rw [e]
        simp [execOp, ho, hu, convert, run_underlying hun0, run_underlying hun]
    · exact hs.elim
  · exact hs.elim

end
end Go.Vee
