-- Written by this session's program drv.py, by means of the kit's printer; not a text of print.sh.
import Derived.Test.YtdbccnhdblljbaaDoorF0
namespace Go.Proofs.YtdbccnhdblljbaaDoor.P
open Go.RowKit Go.Proofs.YtdbccnhdblljbaaDoorW.PrintWords Go.Proofs.YtdbccnhdblljbaaDoorW.PrintLast Go.Proofs.YtdbccnhdblljbaaDoorW.PrintMore
attribute [local go_sem] max2_int min2_int max_two min_two max_three min_three max_four min_four   -- for this text's walks alone
set_option linter.unusedVariables false
set_option linter.unusedSimpArgs false

/-- The value of digits, from a place on; none: it is too great. -/
def lex_number.go (s : ByteArray) : Nat → Int → Int → Option Int
  | 0, _, n => some n
  | k + 1, i, n => if n > (9223372036854775807 - (bt s i - 48) % 256) / 10 then none else lex_number.go s k (i + 1) (wrap64 (wrap64 (10 * n) + (bt s i - 48) % 256))
def lex_number.f (a0 : ByteArray) : Option (Int × Bool) := if a0.size ≤ 140737488351232 then (match lex_number.go a0 a0.size 0 0 with | some n => some (n, true) | none => some (0, false)) else none
set_option maxHeartbeats 1000000 in
set_option maxRecDepth 100000 in
theorem lex_number.calls (a0 : ByteArray) (r1 : Int) (r2 : Bool) (w : World) (h : lex_number.f a0 = some (r1, r2)) :
    Calls Tryd.prog 54 #[.string a0] w fun e w' => e = .returned (.tuple #[.int .i64 r1, .bool r2]) ∧ Below w.heap.size w w' := by
  unfold lex_number.f at h
  split at h
  case isFalse => cases h
  case isTrue hs =>
  have HV0 := Aside0.mk h
  clear h
  have qc := fun (W : World) (s : ByteArray) => Lib.run_convert_string_bytes (P := Tryd.prog) W 9 102 5 s Tryd.underlying9 Tryd.underlying102 Tryd.underlying5
  go_enter Tryd.func54, Tryd.ntmps54
  go_wp2
  have hcell := Lib.bytesWorld_cell w 5 a0
  have hbel := Aside0.mk (show Below w.heap.size w (Lib.bytesWorld w 5 a0) from ⟨rfl, rfl, rfl, by rw [Lib.bytesWorld_size]; omega, fun k hk => Lib.bytesWorld_at_old w 5 a0 k (by omega)⟩)
  clear qc
  generalize grownCap w a0.size 0 5 = cp
  generalize Lib.bytesWorld w 5 a0 = wb at *
  have HC := Aside0.mk hcell
  clear hcell
  go_loopg [4, 11] a0.size (fun kq v4 v11 w' => ∃ (j : Nat) (n : Int), v4 = .int .i64 n ∧ v11 = .int .i64 (j : Int) ∧ Aside0 (j + kq = a0.size) ∧ Aside0 ((match lex_number.go a0 kq (j : Int) n with | some n => some (n, true) | none => some (0, false)) = some (r1, r2)) ∧ w' = wb)
  case atStart => exact ⟨0, 0, rfl, rfl, ⟨by omega⟩, HV0, rfl⟩
  case round =>
    clear HV0
    obtain ⟨j, n, rfl, rfl, hk, hv, rfl⟩ := hrel
    cases gk with
    | zero =>
      have h1 := hk.out
      have c : decide ((j : Int) < (a0.size : Int)) = false := decide_eq_false (by omega)
      have c' : decide (j < a0.size) = false := decide_eq_false (by omega)
      have hv' := hv.out
      simp only [lex_number.go, Option.some.injEq, Prod.mk.injEq] at hv'
      obtain ⟨rfl, rfl⟩ := hv'
      clear hv
      go_wp2
      go_ret2
      exact ⟨rfl, hbel.out⟩
    | succ k =>
      have h1 := hk.out
      have hlt : j < a0.size := by omega
      have c : decide ((j : Int) < (a0.size : Int)) = true := decide_eq_true (by omega)
      have c' : decide (j < a0.size) = true := decide_eq_true (by omega)
      have hc := HC.out j hlt
      have hx : ((a0.data.toList.getD j 0).toNat : Int) = bt a0 (j : Int) := by
        unfold bt
        rw [dif_pos (show ((j : Int)).toNat < a0.size by omega)]
        simp [List.getD_eq_getElem?_getD, hlt]
        rfl
      rw [hx] at hc
      clear hx
      have HV := hv.out
      simp only [lex_number.go] at HV
      by_cases e : n > (9223372036854775807 - (bt a0 (j : Int) - 48) % 256) / 10
      · rw [if_pos e] at HV
        simp only [Option.some.injEq, Prod.mk.injEq] at HV
        obtain ⟨rfl, rfl⟩ := HV
        clear hv
        have eb : decide ((9223372036854775807 - (bt a0 (j : Int) - 48) % 256) / 10 < n) = true := decide_eq_true e
        clear e
        go_wp2
        go_ret2
        exact ⟨rfl, hbel.out⟩
      · rw [if_neg e] at HV
        have H' := Aside0.mk HV
        clear HV hv
        have eb : decide ((9223372036854775807 - (bt a0 (j : Int) - 48) % 256) / 10 < n) = false := decide_eq_false e
        clear e
        go_wp2
        go_roundg k
        case measure => omega
        case rel => exact ⟨j + 1, _, rfl, by go_num, ⟨by omega⟩, by exact_mod_cast H', rfl⟩

end Go.Proofs.YtdbccnhdblljbaaDoor.P
