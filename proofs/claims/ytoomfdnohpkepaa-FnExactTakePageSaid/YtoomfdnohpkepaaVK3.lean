/-
  Contracts of functions of the program: what each returns for all arguments that its precondition lets in.
-/
import Derived.Test.YtoomfdnohpkepaaVK2
set_option linter.unusedSimpArgs false
set_option linter.unusedVariables false
set_option maxRecDepth 100000
set_option maxHeartbeats 4000000
set_option synthInstance.maxHeartbeats 4000000
set_option synthInstance.maxSize 20000
namespace Go.Vee
open Go
abbrev zPage : Int × Int × List Int × Unit := (0, 0, [], ())
def rdPage (data : List Int) (id : Int) : Int × Int × List Int × Unit := (data.getD 0 0, id, (data.drop 3).take (data.getD 2 0).toNat, ())
def l15Read (data : List Int) (id : Int) : Int × (Int × Int × List Int × Unit) :=
  if pairOf (sumOf 29 (data.take 94)) ≠ data.drop 94 then (11, zPage) else if data.getD 1 0 ≠ id then (8, zPage) else if data.getD 2 0 > 91 then (5, zPage) else if pageFault (rdPage data id) ≠ 0 ∨ packPage (rdPage data id) ≠ data then (5, zPage) else (0, rdPage data id)
def readPage (data : List Int) (id : Int) : Int × (Int × Int × List Int × Unit) × Unit :=
  if data.length ≠ 96 then (1, zPage, ()) else if ¬ (2 ≤ id ∧ id ≤ 63) then (3, zPage, ()) else ((l15Read data id).1, (l15Read data id).2, ())
theorem readPage_len (data : List Int) (id : Int) (h : ∀ j, j < data.length → 0 ≤ data.getD j 0 ∧ data.getD j 0 ≤ 255) : (readPage data id).2.1.2.2.1.length ≤ 91 := by
  have h2 := h 2
  unfold readPage l15Read rdPage
  repeat' split
  all_goals (try have h2 := h2 (by omega))
  all_goals (simp only [zPage, List.length_nil, List.length_take, List.length_drop]; omega)

def F_s_l1Copy (data : List (Int)) : List (Int) := data
def Q_s_l1Copy (data : List (Int)) : Prop := data.length ≤ 1048576
def O_s_l1Copy : Opt := ⟨fun i => false, fun i => [], fun i => .done, fun i => none, fun i => false, fun i => []⟩
def τ_s_l1Copy : Env := Env.of [(2, (.int .i64)), (26, (.sl (.int .u8)))] [] []

theorem ct_s_l1Copy (data : List (Int)) : Ct pg 144 [.dat (.sl (.int .u8)) data] ⟨[Q_s_l1Copy data], [⟨(.sl (.int .u8)), (.ow .sh), F_s_l1Copy data⟩], []⟩ := by
  refine ct_claim (O := O_s_l1Copy) (τ := τ_s_l1Copy) (EnvOk.of (by kernel_rfl) (by kernel_rfl)) (GOk.of (.nil : AllOk pg [])) mixed (Enters.of (by kernel_rfl)) (fn := Go.Proofs.Try.f144) (by kernel_rfl) rfl (by kernel_rfl) ?_
  intro hp hw
  have hq : Q_s_l1Copy data := hp _ (List.mem_singleton.2 rfl)
  clear hp
  change claim Lg.std Alg.std τ_s_l1Copy (Gam.of []) O_s_l1Copy Go.Proofs.Try.f144 [.dat (.sl (.int .u8)) data] ⟨[Q_s_l1Copy data], [⟨(.sl (.int .u8)), (.ow .sh), F_s_l1Copy data⟩], []⟩
  generalize hR0 : F_s_l1Copy data = R0
  generalize Q_s_l1Copy data = Q0
  generalize hL : Lg.std = L
  generalize hA : Alg.std = A
  cbv
  subst hL hA
  try dsimp only [Ty.den]
  subst hR0
  simp only [Q_s_l1Copy] at hq
  simp only [Lg.std, Alg.std, List.drop_zero, List.take_length, F_s_l1Copy]
  all_goals grind
def con_s_l1Copy : Con := ⟨true, g1 (pD (.sl (.int .u8))) fun data => ⟨[Q_s_l1Copy data], [⟨(.sl (.int .u8)), (.ow .sh), F_s_l1Copy data⟩], []⟩, [], false, 0⟩
theorem ok_s_l1Copy : ConOk pg 144 con_s_l1Copy := ConOk.g1 (Enters.of (by kernel_rfl)) ct_s_l1Copy

def F_sl_Clone_byte (s : List (Int)) : List (Int) := s
def Q_sl_Clone_byte (s : List (Int)) : Prop := s.length ≤ 1048576
def O_sl_Clone_byte : Opt := ⟨fun i => false, fun i => [], fun i => .done, fun i => none, fun i => false, fun i => []⟩
def τ_sl_Clone_byte : Env := Env.of [(2, (.int .i64)), (4, .bool), (26, (.sl (.int .u8)))] [] []

theorem ct_sl_Clone_byte (s : List (Int)) : Ct pg 152 [.dat (.sl (.int .u8)) s] ⟨[Q_sl_Clone_byte s], [⟨(.sl (.int .u8)), (.ow .sh), F_sl_Clone_byte s⟩], []⟩ := by
  refine ct_claim (O := O_sl_Clone_byte) (τ := τ_sl_Clone_byte) (EnvOk.of (by kernel_rfl) (by kernel_rfl)) (GOk.of (.nil : AllOk pg [])) mixed (Enters.of (by kernel_rfl)) (fn := Go.Proofs.Try.f152) (by kernel_rfl) rfl (by kernel_rfl) ?_
  intro hp hw
  have hq : Q_sl_Clone_byte s := hp _ (List.mem_singleton.2 rfl)
  clear hp
  change claim Lg.std Alg.std τ_sl_Clone_byte (Gam.of []) O_sl_Clone_byte Go.Proofs.Try.f152 [.dat (.sl (.int .u8)) s] ⟨[Q_sl_Clone_byte s], [⟨(.sl (.int .u8)), (.ow .sh), F_sl_Clone_byte s⟩], []⟩
  generalize hR0 : F_sl_Clone_byte s = R0
  generalize Q_sl_Clone_byte s = Q0
  generalize hL : Lg.std = L
  generalize hA : Alg.std = A
  cbv
  subst hL hA
  try dsimp only [Ty.den]
  subst hR0
  simp only [Q_sl_Clone_byte] at hq
  simp only [Lg.std, Alg.std, List.drop_zero, List.take_length, F_sl_Clone_byte]
  all_goals grind
def con_sl_Clone_byte : Con := ⟨true, g1 (pD (.sl (.int .u8))) fun s => ⟨[Q_sl_Clone_byte s], [⟨(.sl (.int .u8)), (.ow .sh), F_sl_Clone_byte s⟩], []⟩, [], false, 0⟩
theorem ok_sl_Clone_byte : ConOk pg 152 con_sl_Clone_byte := ConOk.g1 (Enters.of (by kernel_rfl)) ct_sl_Clone_byte
end Go.Vee
