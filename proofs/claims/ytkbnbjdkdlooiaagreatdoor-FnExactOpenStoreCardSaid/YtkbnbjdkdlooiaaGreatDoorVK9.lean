/-
  Contracts of functions of the program: what each returns for all arguments that its precondition lets in.
-/
import Derived.Test.YtkbnbjdkdlooiaaGreatDoorVK8
set_option linter.unusedSimpArgs false
set_option linter.unusedVariables false
set_option maxRecDepth 100000
set_option maxHeartbeats 4000000
set_option synthInstance.maxHeartbeats 4000000
set_option synthInstance.maxSize 20000000
namespace Go.Vee
open Go
def F_w_eqSymbol (a : (List Int) × (Int) × Unit) (b : (List Int) × (Int) × Unit) : Bool := decide (a = b)
def Q_w_eqSymbol (a : (List Int) × (Int) × Unit) (b : (List Int) × (Int) × Unit) : Prop := True
def O_w_eqSymbol : Opt := ⟨fun i => false, fun i => [], fun i => .done, fun i => none, fun i => false, fun i => [], fun i => false, fun i => none⟩
def τ_w_eqSymbol : Env := Env.of [(2, (.int .i64)), (4, .bool), (9, .str), (175, (.pair .str (.pair (.int .i64) .unit)))] [] []

theorem ct_w_eqSymbol (a : (List Int) × (Int) × Unit) (b : (List Int) × (Int) × Unit) : Ct pg 139 [.dat (.pair .str (.pair (.int .i64) .unit)) a, .dat (.pair .str (.pair (.int .i64) .unit)) b] ⟨[Q_w_eqSymbol a b], [⟨.bool, .sh, F_w_eqSymbol a b⟩], []⟩ := by
  refine ct_claim (O := O_w_eqSymbol) (τ := τ_w_eqSymbol) (EnvOk.of (by kernel_rfl) (by kernel_rfl)) (GOk.of (.nil : AllOk pg [])) mixed (Enters.of (by kernel_rfl)) (fn := Go.Proofs.Tryz.f139) (by kernel_rfl) rfl (by kernel_rfl) ?_
  intro hp hw
  have hq : Q_w_eqSymbol a b := hp _ (List.mem_singleton.2 rfl)
  clear hp
  change claim Lg.std Alg.std τ_w_eqSymbol (Gam.of []) O_w_eqSymbol Go.Proofs.Tryz.f139 [.dat (.pair .str (.pair (.int .i64) .unit)) a, .dat (.pair .str (.pair (.int .i64) .unit)) b] ⟨[Q_w_eqSymbol a b], [⟨.bool, .sh, F_w_eqSymbol a b⟩], []⟩
  generalize hR0 : F_w_eqSymbol a b = R0
  generalize Q_w_eqSymbol a b = Q0
  generalize hL : Lg.std = L
  generalize hA : Alg.std = A
  cbv
  subst hL hA
  try dsimp only [Ty.den]
  obtain ⟨f0, f1, ⟨⟩⟩ := a
  obtain ⟨g0, g1, ⟨⟩⟩ := b
  subst hR0
  simp only [Q_w_eqSymbol] at hq
  simp only [Lg.std, Alg.std, List.drop_zero, List.take_length, F_w_eqSymbol]
  all_goals grind
def con_w_eqSymbol : Con := ⟨true, g2 (pD (.pair .str (.pair (.int .i64) .unit))) (pD (.pair .str (.pair (.int .i64) .unit))) fun a b => .one ⟨[Q_w_eqSymbol a b], [⟨.bool, .sh, F_w_eqSymbol a b⟩], []⟩, [], false, 0⟩
theorem ok_w_eqSymbol : ConOk pg 139 con_w_eqSymbol := ConOk.g2 (Enters.of (by kernel_rfl)) ct_w_eqSymbol

def F_w_eqSymbolS (a : List ((List Int) × (Int) × Unit)) (b : List ((List Int) × (Int) × Unit)) : Bool := decide (a = b)
def Q_w_eqSymbolS (a : List ((List Int) × (Int) × Unit)) (b : List ((List Int) × (Int) × Unit)) : Prop := True
def O_w_eqSymbolS : Opt := ⟨fun i => (match decide (i = 6) with | true => true | false => false), fun i => (match decide (i = 4) with | true => [true, true, false, false, false, true, false, false, false, false, false, false, false, false, false, false, false, false, false, false, false, false, false, false, false, false, false] | false => []), fun i => .done, fun i => none, fun i => false, fun i => [], fun i => false, fun i => none⟩
def τ_w_eqSymbolS : Env := Env.of [(3, (.int .i64)), (4, .bool), (28, (.sl (.pair .str (.pair (.int .i64) .unit)))), (175, (.pair .str (.pair (.int .i64) .unit)))] [] []

theorem ct_w_eqSymbolS (a : List ((List Int) × (Int) × Unit)) (b : List ((List Int) × (Int) × Unit)) : Ct pg 75 [.dat (.sl (.pair .str (.pair (.int .i64) .unit))) a, .dat (.sl (.pair .str (.pair (.int .i64) .unit))) b] ⟨[Q_w_eqSymbolS a b], [⟨.bool, .sh, F_w_eqSymbolS a b⟩], []⟩ := by
  refine ct_claim (O := O_w_eqSymbolS) (τ := τ_w_eqSymbolS) (EnvOk.of (by kernel_rfl) (by kernel_rfl)) (GOk.of (.cons ok_w_eqSymbol .nil : AllOk pg [(139, con_w_eqSymbol)])) mixed (Enters.of (by kernel_rfl)) (fn := Go.Proofs.Tryz.f75) (by kernel_rfl) rfl (by kernel_rfl) ?_
  intro hp hw
  have hq : Q_w_eqSymbolS a b := hp _ (List.mem_singleton.2 rfl)
  clear hp
  change claim Lg.std Alg.std τ_w_eqSymbolS (Gam.of [(139, ⟨true, g2 (pD (.pair .str (.pair (.int .i64) .unit))) (pD (.pair .str (.pair (.int .i64) .unit))) fun a b => .one ⟨[Q_w_eqSymbol a b], [⟨.bool, .sh, F_w_eqSymbol a b⟩], []⟩, [], false, 0⟩)]) O_w_eqSymbolS Go.Proofs.Tryz.f75 [.dat (.sl (.pair .str (.pair (.int .i64) .unit))) a, .dat (.sl (.pair .str (.pair (.int .i64) .unit))) b] ⟨[Q_w_eqSymbolS a b], [⟨.bool, .sh, F_w_eqSymbolS a b⟩], []⟩
  generalize hg_F_w_eqSymbol : F_w_eqSymbol = g_F_w_eqSymbol
  generalize hg_Q_w_eqSymbol : Q_w_eqSymbol = g_Q_w_eqSymbol
  generalize hR0 : F_w_eqSymbolS a b = R0
  generalize Q_w_eqSymbolS a b = Q0
  generalize hL : Lg.std = L
  generalize hA : Alg.std = A
  cbv
  subst hL hA
  try dsimp only [Ty.den]
  refine ⟨fun hne => ?_, fun heq => ?_⟩
  · subst hR0 hg_F_w_eqSymbol hg_Q_w_eqSymbol
    simp only [Alg.std, F_w_eqSymbol, Q_w_eqSymbol, F_w_eqSymbolS] at *
    grind
  refine lp_v (V := (Int)) (fun (i : Int) => ⟨[.dat (.sl (.pair .str (.pair (.int .i64) .unit))) a, .dat (.sl (.pair .str (.pair (.int .i64) .unit))) b, .junk, .junk, .junk, .dat (.int .i64) i, .junk, .junk, .junk, .junk, .junk, .junk, .junk, .junk, .junk, .junk, .junk, .junk, .junk, .junk, .junk, .junk, .junk, .junk, .junk, .junk, .junk], []⟩) (fun (i : Int) => a.length = b.length ∧ 0 ≤ i ∧ i ≤ a.length ∧ decide (a = b) = decide (a.drop i.toNat = b.drop i.toNat)) (fun (i : Int) => a.length - i.toNat) (0) rfl ?_ ?_
  · simp [Alg.std] at heq ⊢; omega
  rintro i hf I hI
  replace hf : a.length = b.length ∧ 0 ≤ i ∧ i ≤ a.length ∧ decide (a = b) = decide (a.drop i.toNat = b.drop i.toNat) := hf
  generalize hL : Lg.std = L
  generalize hA : Alg.std = A
  cbv
  subst hL hA
  try dsimp only [Ty.den]
  subst hI
  simp only [Lg.std, Alg.std, List.drop_zero, List.take_length]
  obtain ⟨h1, h2, h3, h4⟩ := hf
  have hl := hw.1.1
  have hdc := fun (h : i.toNat < a.length) => drop_cons a (([], 0, PUnit.unit) : (List Int) × (Int) × Unit) i.toNat h
  have he := fun (h : a.length ≤ i.toNat) => drop_nil a i.toNat h
  have hdc2 := fun (h : i.toNat < b.length) => drop_cons b (([], 0, PUnit.unit) : (List Int) × (Int) × Unit) i.toNat h
  have he2 := fun (h : b.length ≤ i.toNat) => drop_nil b i.toNat h
  repeat' (first | intro _ | apply And.intro)
  all_goals (try refine ⟨_, rfl, ?_, ?_⟩)
  all_goals subst hR0 hg_F_w_eqSymbol hg_Q_w_eqSymbol
  all_goals (try simp only [F_w_eqSymbol, Q_w_eqSymbol, F_w_eqSymbolS] at *)
  all_goals grind
def con_w_eqSymbolS : Con := ⟨true, g2 (pD (.sl (.pair .str (.pair (.int .i64) .unit)))) (pD (.sl (.pair .str (.pair (.int .i64) .unit)))) fun a b => .one ⟨[Q_w_eqSymbolS a b], [⟨.bool, .sh, F_w_eqSymbolS a b⟩], []⟩, [], false, 0⟩
theorem ok_w_eqSymbolS : ConOk pg 75 con_w_eqSymbolS := ConOk.g2 (Enters.of (by kernel_rfl)) ct_w_eqSymbolS

def F_w_eqSignature (a : (List ((List Int) × (Int) × Unit)) × Unit) (b : (List ((List Int) × (Int) × Unit)) × Unit) : Bool := decide (a = b)
def Q_w_eqSignature (a : (List ((List Int) × (Int) × Unit)) × Unit) (b : (List ((List Int) × (Int) × Unit)) × Unit) : Prop := True
def O_w_eqSignature : Opt := ⟨fun i => false, fun i => [], fun i => .done, fun i => none, fun i => false, fun i => [], fun i => false, fun i => none⟩
def τ_w_eqSignature : Env := Env.of [(4, .bool), (28, (.sl (.pair .str (.pair (.int .i64) .unit)))), (30, (.pair (.sl (.pair .str (.pair (.int .i64) .unit))) .unit))] [] []

theorem ct_w_eqSignature (a : (List ((List Int) × (Int) × Unit)) × Unit) (b : (List ((List Int) × (Int) × Unit)) × Unit) : Ct pg 23 [.dat (.pair (.sl (.pair .str (.pair (.int .i64) .unit))) .unit) a, .dat (.pair (.sl (.pair .str (.pair (.int .i64) .unit))) .unit) b] ⟨[Q_w_eqSignature a b], [⟨.bool, .sh, F_w_eqSignature a b⟩], []⟩ := by
  refine ct_claim (O := O_w_eqSignature) (τ := τ_w_eqSignature) (EnvOk.of (by kernel_rfl) (by kernel_rfl)) (GOk.of (.cons ok_w_eqSymbolS .nil : AllOk pg [(75, con_w_eqSymbolS)])) mixed (Enters.of (by kernel_rfl)) (fn := Go.Proofs.Tryz.f23) (by kernel_rfl) rfl (by kernel_rfl) ?_
  intro hp hw
  have hq : Q_w_eqSignature a b := hp _ (List.mem_singleton.2 rfl)
  clear hp
  change claim Lg.std Alg.std τ_w_eqSignature (Gam.of [(75, ⟨true, g2 (pD (.sl (.pair .str (.pair (.int .i64) .unit)))) (pD (.sl (.pair .str (.pair (.int .i64) .unit)))) fun a b => .one ⟨[Q_w_eqSymbolS a b], [⟨.bool, .sh, F_w_eqSymbolS a b⟩], []⟩, [], false, 0⟩)]) O_w_eqSignature Go.Proofs.Tryz.f23 [.dat (.pair (.sl (.pair .str (.pair (.int .i64) .unit))) .unit) a, .dat (.pair (.sl (.pair .str (.pair (.int .i64) .unit))) .unit) b] ⟨[Q_w_eqSignature a b], [⟨.bool, .sh, F_w_eqSignature a b⟩], []⟩
  generalize hg_F_w_eqSymbolS : F_w_eqSymbolS = g_F_w_eqSymbolS
  generalize hg_Q_w_eqSymbolS : Q_w_eqSymbolS = g_Q_w_eqSymbolS
  generalize hR0 : F_w_eqSignature a b = R0
  generalize Q_w_eqSignature a b = Q0
  generalize hL : Lg.std = L
  generalize hA : Alg.std = A
  cbv
  subst hL hA
  try dsimp only [Ty.den]
  obtain ⟨f0, ⟨⟩⟩ := a
  obtain ⟨g0, ⟨⟩⟩ := b
  subst hR0 hg_F_w_eqSymbolS hg_Q_w_eqSymbolS
  simp only [Q_w_eqSignature] at hq
  simp only [Lg.std, Alg.std, List.drop_zero, List.take_length, F_w_eqSymbolS, Q_w_eqSymbolS, F_w_eqSignature]
  all_goals grind
def con_w_eqSignature : Con := ⟨true, g2 (pD (.pair (.sl (.pair .str (.pair (.int .i64) .unit))) .unit)) (pD (.pair (.sl (.pair .str (.pair (.int .i64) .unit))) .unit)) fun a b => .one ⟨[Q_w_eqSignature a b], [⟨.bool, .sh, F_w_eqSignature a b⟩], []⟩, [], false, 0⟩
theorem ok_w_eqSignature : ConOk pg 23 con_w_eqSignature := ConOk.g2 (Enters.of (by kernel_rfl)) ct_w_eqSignature

def F_w_eqSuper (a : (Int) × (Int) × (Int) × (Int) × (Int) × (Int) × (Bool) × (List (Int)) × ((List ((List Int) × (Int) × Unit)) × Unit) × Unit) (b : (Int) × (Int) × (Int) × (Int) × (Int) × (Int) × (Bool) × (List (Int)) × ((List ((List Int) × (Int) × Unit)) × Unit) × Unit) : Bool := decide (a = b)
def Q_w_eqSuper (a : (Int) × (Int) × (Int) × (Int) × (Int) × (Int) × (Bool) × (List (Int)) × ((List ((List Int) × (Int) × Unit)) × Unit) × Unit) (b : (Int) × (Int) × (Int) × (Int) × (Int) × (Int) × (Bool) × (List (Int)) × ((List ((List Int) × (Int) × Unit)) × Unit) × Unit) : Prop := True
def O_w_eqSuper : Opt := ⟨fun i => false, fun i => [], fun i => .done, fun i => none, fun i => false, fun i => [], fun i => false, fun i => none⟩
def τ_w_eqSuper : Env := Env.of [(2, (.int .i64)), (3, (.int .i64)), (4, .bool), (5, (.int .u8)), (27, (.sl (.int .u8))), (30, (.pair (.sl (.pair .str (.pair (.int .i64) .unit))) .unit)), (32, (.pair (.int .i64) (.pair (.int .i64) (.pair (.int .i64) (.pair (.int .i64) (.pair (.int .i64) (.pair (.int .i64) (.pair .bool (.pair (.sl (.int .u8)) (.pair (.pair (.sl (.pair .str (.pair (.int .i64) .unit))) .unit) .unit))))))))))] [] []

theorem ct_w_eqSuper (a : (Int) × (Int) × (Int) × (Int) × (Int) × (Int) × (Bool) × (List (Int)) × ((List ((List Int) × (Int) × Unit)) × Unit) × Unit) (b : (Int) × (Int) × (Int) × (Int) × (Int) × (Int) × (Bool) × (List (Int)) × ((List ((List Int) × (Int) × Unit)) × Unit) × Unit) : Ct pg 37 [.dat (.pair (.int .i64) (.pair (.int .i64) (.pair (.int .i64) (.pair (.int .i64) (.pair (.int .i64) (.pair (.int .i64) (.pair .bool (.pair (.sl (.int .u8)) (.pair (.pair (.sl (.pair .str (.pair (.int .i64) .unit))) .unit) .unit))))))))) a, .dat (.pair (.int .i64) (.pair (.int .i64) (.pair (.int .i64) (.pair (.int .i64) (.pair (.int .i64) (.pair (.int .i64) (.pair .bool (.pair (.sl (.int .u8)) (.pair (.pair (.sl (.pair .str (.pair (.int .i64) .unit))) .unit) .unit))))))))) b] ⟨[Q_w_eqSuper a b], [⟨.bool, .sh, F_w_eqSuper a b⟩], []⟩ := by
  refine ct_claim (O := O_w_eqSuper) (τ := τ_w_eqSuper) (EnvOk.of (by kernel_rfl) (by kernel_rfl)) (GOk.of (.cons ok_w_eqByteS (.cons ok_w_eqSignature .nil) : AllOk pg [(24, con_w_eqByteS), (23, con_w_eqSignature)])) mixed (Enters.of (by kernel_rfl)) (fn := Go.Proofs.Tryz.f37) (by kernel_rfl) rfl (by kernel_rfl) ?_
  intro hp hw
  have hq : Q_w_eqSuper a b := hp _ (List.mem_singleton.2 rfl)
  clear hp
  change claim Lg.std Alg.std τ_w_eqSuper (Gam.of [(24, ⟨true, g2 (pD (.sl (.int .u8))) (pD (.sl (.int .u8))) fun a b => .one ⟨[Q_w_eqByteS a b], [⟨.bool, .sh, F_w_eqByteS a b⟩], []⟩, [], false, 0⟩), (23, ⟨true, g2 (pD (.pair (.sl (.pair .str (.pair (.int .i64) .unit))) .unit)) (pD (.pair (.sl (.pair .str (.pair (.int .i64) .unit))) .unit)) fun a b => .one ⟨[Q_w_eqSignature a b], [⟨.bool, .sh, F_w_eqSignature a b⟩], []⟩, [], false, 0⟩)]) O_w_eqSuper Go.Proofs.Tryz.f37 [.dat (.pair (.int .i64) (.pair (.int .i64) (.pair (.int .i64) (.pair (.int .i64) (.pair (.int .i64) (.pair (.int .i64) (.pair .bool (.pair (.sl (.int .u8)) (.pair (.pair (.sl (.pair .str (.pair (.int .i64) .unit))) .unit) .unit))))))))) a, .dat (.pair (.int .i64) (.pair (.int .i64) (.pair (.int .i64) (.pair (.int .i64) (.pair (.int .i64) (.pair (.int .i64) (.pair .bool (.pair (.sl (.int .u8)) (.pair (.pair (.sl (.pair .str (.pair (.int .i64) .unit))) .unit) .unit))))))))) b] ⟨[Q_w_eqSuper a b], [⟨.bool, .sh, F_w_eqSuper a b⟩], []⟩
  generalize hg_F_w_eqByteS : F_w_eqByteS = g_F_w_eqByteS
  generalize hg_Q_w_eqByteS : Q_w_eqByteS = g_Q_w_eqByteS
  generalize hg_F_w_eqSignature : F_w_eqSignature = g_F_w_eqSignature
  generalize hg_Q_w_eqSignature : Q_w_eqSignature = g_Q_w_eqSignature
  generalize hR0 : F_w_eqSuper a b = R0
  generalize Q_w_eqSuper a b = Q0
  generalize hL : Lg.std = L
  generalize hA : Alg.std = A
  cbv
  subst hL hA
  try dsimp only [Ty.den]
  obtain ⟨f0, f1, f2, f3, f4, f5, f6, f7, f8, ⟨⟩⟩ := a
  obtain ⟨g0, g1, g2, g3, g4, g5, g6, g7, g8, ⟨⟩⟩ := b
  subst hR0 hg_F_w_eqByteS hg_Q_w_eqByteS hg_F_w_eqSignature hg_Q_w_eqSignature
  simp only [Q_w_eqSuper] at hq
  simp only [Lg.std, Alg.std, List.drop_zero, List.take_length, F_w_eqByteS, F_w_eqSignature, Q_w_eqByteS, Q_w_eqSignature, F_w_eqSuper]
  all_goals grind
def con_w_eqSuper : Con := ⟨true, g2 (pD (.pair (.int .i64) (.pair (.int .i64) (.pair (.int .i64) (.pair (.int .i64) (.pair (.int .i64) (.pair (.int .i64) (.pair .bool (.pair (.sl (.int .u8)) (.pair (.pair (.sl (.pair .str (.pair (.int .i64) .unit))) .unit) .unit)))))))))) (pD (.pair (.int .i64) (.pair (.int .i64) (.pair (.int .i64) (.pair (.int .i64) (.pair (.int .i64) (.pair (.int .i64) (.pair .bool (.pair (.sl (.int .u8)) (.pair (.pair (.sl (.pair .str (.pair (.int .i64) .unit))) .unit) .unit)))))))))) fun a b => .one ⟨[Q_w_eqSuper a b], [⟨.bool, .sh, F_w_eqSuper a b⟩], []⟩, [], false, 0⟩
theorem ok_w_eqSuper : ConOk pg 37 con_w_eqSuper := ConOk.g2 (Enters.of (by kernel_rfl)) ct_w_eqSuper
end Go.Vee
