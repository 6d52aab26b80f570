-- Written by prx.py (this session's driver of the kit's print) out of the translation. Not trusted: Lean checks it.
import Derived.Test.YtjjjoepnlhpjdaaDoorQ0
import Derived.Test.YtjjjoepnlhpjdaaDoorAr2
import Derived.Test.YtjjjoepnlhpjdaaDoorQ1
namespace Go.Proofs.YtjjjoepnlhpjdaaDoor.Q
open Go.RowKit Go.Proofs.YtjjjoepnlhpjdaaDoorW.PrintWords Go.Proofs.YtjjjoepnlhpjdaaDoorW.PrintLast Go.Proofs.YtjjjoepnlhpjdaaDoorW.PrintMore
attribute [local go_sem] max2_int min2_int max_two min_two max_three min_three max_four min_four   -- for this text's walks alone
set_option linter.unusedVariables false
set_option linter.unusedSimpArgs false

/-! ### ratio_Value: function 46, by hand -/
def ratio_Value.f (k : Nat) (l0 : List Int) : Option (Int × Bool) := (ratio_ValidNat.f k l0).bind fun t => if t = true then (if (l0.length : Int) > 2 then some (0, false) else some (Go.bits .or .u64 (IntKind.u64.wrap (IntKind.u64.wrap (rd l0 1) * 4294967296)) (IntKind.u64.wrap (rd l0 0)), true)) else some (0, false)
theorem val_cells {l : List Int} (h : l.length ≤ 2) : (cpyAt (List.replicate 2 0) 0 l).length = 2 ∧ bco (cpyAt (List.replicate 2 0) 0 l) 0 = rd l 0 ∧ bco (cpyAt (List.replicate 2 0) 0 l) 1 = rd l 1 := by
  match l, h with
  | [], _ => exact ⟨rfl, rfl, rfl⟩
  | [_], _ => exact ⟨rfl, rfl, rfl⟩
  | [_, _], _ => exact ⟨rfl, rfl, rfl⟩
set_option maxHeartbeats 8000000 in
set_option maxRecDepth 100000 in
theorem ratio_Value.calls (k : Nat) (A0 : Option Addr) (c0 : Nat) (l0 : List Int) (r1 : Int) (r2 : Bool) (w : World) (hr0 : Kd.C (Kd.int .u32) w A0 l0.length l0) (hc0 : l0.length ≤ c0) (h : ratio_Value.f k l0 = some (r1, r2)) :
    Calls Tryd.prog 46 #[.slice A0 l0.length c0] w fun e w' => e = .returned (.tuple #[.int .u64 r1, .bool r2]) ∧ Below w.heap.size w w' := by
  have hlen := hr0.2.1
  have HR0 := ak hr0
  have HC0 := ak hc0
  clear hr0 hc0
  have HB := ak (Below.refl w.heap.size w)
  have H : ((ratio_ValidNat.f k l0).bind fun t => if t = true then (if (l0.length : Int) > 2 then some ((0 : Int), false) else some (Go.bits .or .u64 (IntKind.u64.wrap (IntKind.u64.wrap (rd l0 1) * 4294967296)) (IntKind.u64.wrap (rd l0 0)), true)) else some (0, false)) = some (r1, r2) := h
  clear h
  revert H
  refine bd_ fun t1 A1 H => ?_
  by_cases c1 : t1 = true
  · subst c1
    rw [if_pos rfl] at H
    by_cases c2 : (l0.length : Int) > 2
    · rw [if_pos c2] at H
      obtain ⟨rfl, rfl⟩ := Prod.mk.inj (Option.some.inj H)
      have c2b : decide ((l0.length : Int) > 2) = true := decide_eq_true c2
      go_enter Tryd.func46, Tryd.ntmps46
      go_wp2_with (first | ((with_reducible refine gate_callee (f := 27) rfl ?_); refine gl_ (some 6) Tryd.func27 #[.slice A0 l0.length c0] ?_; (with_reducible refine (ratio_ValidNat.calls k _ _ l0 true _ ?side1 ?side2 A1.out).mono ?_); (case side1 => exact cU_ HR0.out); (case side2 => exact HC0.out); rintro e w8 ⟨rfl, hb⟩; refine ⟨_, rfl, ?_⟩; refine nx1_ (below_step (bU_ HB.out) hb) ?_; clear HB; intro HB; clear hb))
      go_ret2
      exact ⟨rfl, bU_ HB.out⟩
    · rw [if_neg c2] at H
      obtain ⟨rfl, rfl⟩ := Prod.mk.inj (Option.some.inj H)
      have c2b : decide ((l0.length : Int) > 2) = false := decide_eq_false c2
      have hl2 : l0.length ≤ 2 := by omega
      go_enter Tryd.func46, Tryd.ntmps46
      go_wp2_with (first | ((with_reducible refine gate_callee (f := 27) rfl ?_); refine gl_ (some 6) Tryd.func27 #[.slice A0 l0.length c0] ?_; (with_reducible refine (ratio_ValidNat.calls k _ _ l0 true _ ?side1 ?side2 A1.out).mono ?_); (case side1 => exact cU_ HR0.out); (case side2 => exact HC0.out); rintro e w8 ⟨rfl, hb⟩; refine ⟨_, rfl, ?_⟩; refine nx1_ (below_step (bU_ HB.out) hb) ?_; clear HB; intro HB; clear hb) | ((with_reducible refine gate_dst (N := 4) rfl ?_); refine hold_ ?_))
      refine ⟨?_⟩
      refine ev_alloc_ (some 4) 77 2 rfl rfl rfl zA2.1 ?_
      intro B w2 hB hA hb
      refine nx3_ (below_step HB.out hb) hA (Nat.le_trans (below_size HB.out) hB) ?_
      clear HB hb hA hB
      intro HB HA GB
      go_wp2_with ((with_reducible refine gate_dst (N := 13) rfl ?_); refine hold_ ?_)
      refine ⟨?_⟩
      refine ev_slice_ (some 13) 77 (.tmp 4) B 2 44 rfl rfl rfl rfl uA2 sU2 ?_
      go_wp2_with ((with_reducible refine gate_builtin (b := .copy) (xs := #[.tmp 13, .tmp 14]) rfl ?_); refine hold_ ?_)
      refine ⟨?_⟩
      refine ev_copy_ (some 15) rfl rfl (.tmp 13) (.tmp 14) 23 24 44 77 B (List.replicate 2 0) l0 A0 l0.length c0 rfl Tryd.underlying23 sU2 rfl rfl HA.out (Kd.C_below HR0.out HB.out) ?_
      intro w3 hA hgr hbl
      obtain ⟨v1, v2, v3⟩ := val_cells hl2
      have hb3 := hbl _ _ GB.out HB.out
      have z0 : w3.cell? ⟨B, 0, none⟩ = some (.int .u32 (rd l0 0)) := by rw [hA.cell (by rw [v1]; decide), v2]
      have z1 : w3.cell? ⟨B, 1, none⟩ = some (.int .u32 (rd l0 1)) := by rw [hA.cell (by rw [v1]; decide), v3]
      refine nx1_ hb3 ?_
      clear HB HA hA hgr hbl hb3
      intro HB
      go_wp2
      go_ret2
      exact ⟨rfl, bU_ HB.out⟩
  · replace c1 := Bool.eq_false_iff.mpr c1
    subst c1
    rw [if_neg (show ¬ (false = true) by decide)] at H
    obtain ⟨rfl, rfl⟩ := Prod.mk.inj (Option.some.inj H)
    go_enter Tryd.func46, Tryd.ntmps46
    go_wp2_with (first | ((with_reducible refine gate_callee (f := 27) rfl ?_); refine gl_ (some 6) Tryd.func27 #[.slice A0 l0.length c0] ?_; (with_reducible refine (ratio_ValidNat.calls k _ _ l0 false _ ?side1 ?side2 A1.out).mono ?_); (case side1 => exact cU_ HR0.out); (case side2 => exact HC0.out); rintro e w8 ⟨rfl, hb⟩; refine ⟨_, rfl, ?_⟩; refine nx1_ (below_step (bU_ HB.out) hb) ?_; clear HB; intro HB; clear hb))
    go_ret2
    exact ⟨rfl, bU_ HB.out⟩

end Go.Proofs.YtjjjoepnlhpjdaaDoor.Q
