/- The last bit of a power of two: what math/bits' function finds by its table. -/
import Derived.Test.YthinfmfjpaikiaaDoorFld
import Derived.Laws.BitsLemmas
namespace Go.Proofs.YthinfmfjpaikiaaDoor
open Go.RowKit Go.Proofs.YthinfmfjpaikiaaDoorW.PrintWords

def tz64 (x : Int) : Option Int := Option.map (fun k : Nat => (k : Int)) ((List.range 63).find? fun k : Nat => x == (2 : Int) ^ k)
theorem tz64_some {x r : Int} (h : tz64 x = some r) : ∃ k : Nat, k < 63 ∧ x = 2 ^ k ∧ r = k := by
  obtain ⟨k, hk, rfl⟩ := Option.map_eq_some_iff.1 h
  have h1 := List.find?_some hk
  have h2 := List.mem_of_find?_eq_some hk
  exact ⟨k, List.mem_range.1 h2, by simpa using h1, rfl⟩
theorem tz64_pow {k : Nat} (hk : k < 63) : tz64 (2 ^ k) = some (k : Int) := by
  have : ∀ k : Fin 63, tz64 (2 ^ k.val) = some (k.val : Int) := by decide +kernel
  exact this ⟨k, hk⟩
def tzAt (x : Int) : Int := IntKind.u64.wrap (Go.bits .and .u64 x (IntKind.u64.wrap (-x)) * 285870213051353865) / 288230376151711744
theorem tzAt_all : ∀ k : Fin 63, 0 ≤ tzAt (2 ^ k.val) ∧ tzAt (2 ^ k.val) < 64 ∧ dbt.getD (tzAt (2 ^ k.val)).toNat 0 = (k.val : Int) ∧ ((2 : Int) ^ k.val == 0) = false := by decide +kernel
theorem tz64_calls (a0 r : Int) (w : World) (hG : Fld w) (h : tz64 a0 = some r) :
    Calls Tryd.prog 95 #[.int .u64 a0] w fun e w' => e = .returned (.int .i64 r) ∧ Below w.heap.size w w' := by
  obtain ⟨k, hk, rfl, rfl⟩ := tz64_some h
  obtain ⟨p, q, e, h0⟩ := tzAt_all ⟨k, hk⟩
  have p : 0 ≤ tzAt (2 ^ k) := p
  have q : tzAt (2 ^ k) < 64 := q
  have h0 : ((2 : Int) ^ k == 0) = false := h0
  have hc := hG.z (tzAt (2 ^ k)).toNat (by omega)
  rw [show dbt.getD (tzAt (2 ^ k)).toNat 0 = (k : Int) from e] at hc
  have hw : IntKind.i64.wrap (k : Int) = (k : Int) := by rw [Go.IntKind.wrap_i64]; omega
  generalize (2 : Int) ^ k = x at *
  generalize (k : Int) = kk at *
  unfold tzAt at p q hc
  replace p := eq_true p
  replace q := eq_true q
  clear h hG hk e
  go_enter Tryd.func95, Tryd.ntmps95
  go_wp2
  go_ret
  exact ⟨rfl, Below.refl _ _⟩
end Go.Proofs.YthinfmfjpaikiaaDoor
