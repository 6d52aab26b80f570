/- What the reference's functions of the polynomials answer. -/
import Derived.Test.YtdjjdlkglinlgaaDoorSpecL
import Derived.Test.YtdjjdlkglinlgaaDoorSpecFR
import Derived.Test.YtdjjdlkglinlgaaDoorQ1
import Derived.Test.YtdjjdlkglinlgaaDoorQ5
import Derived.Test.YtdjjdlkglinlgaaDoorQ8
namespace Go.Proofs.YtdjjdlkglinlgaaDoor.Pure
open Go.RowKit Go.Proofs.YtdjjdlkglinlgaaDoor.Q Go.Proofs.YtdjjdlkglinlgaaDoor.Num Go.Proofs.YtdjjdlkglinlgaaDoor.Pol Go.Proofs.YtdjjdlkglinlgaaDoorW.PrintWords Go.Proofs.YtdjjdlkglinlgaaDoorW.PrintLast Go.Proofs.YtdjjdlkglinlgaaDoorW.PrintMore

theorem rtrim_l {l : List Int} (hl : l.length ≤ 1000000) : ∀ n : Nat, n ≤ l.length → (∀ i, n ≤ i → co l i = 0) → Ev (fun k => attestorref03_Normal.l1 k l n) (trm l) := by
  intro n
  induction n with
  | zero =>
    intro hn hz
    refine Ev.succ (F := fun _ => some (trm l)) (fun k => ?_) (Ev.all fun _ => rfl)
    rw [attestorref03_Normal.l1, if_neg (by omega), if_pos (by omega), if_pos (by omega)]
    exact congrArg some (trm_eq (m := 0) hn hz (fun n h => by omega))
  | succ n ih =>
    intro hn hz
    by_cases h0 : co l n = 0
    · refine Ev.succ (fun k => ?_) (ih (by omega) (fun i hi => ?_))
      · rw [attestorref03_Normal.l1, if_pos (by omega), w64_pred (by omega), if_pos (by omega), if_pos (by omega), rd_nat, if_pos h0]
      · rcases Nat.eq_or_lt_of_le hi with e | e
        · rw [← e]; exact h0
        · exact hz i e
    · refine Ev.succ (F := fun _ => some (trm l)) (fun k => ?_) (Ev.all fun _ => rfl)
      rw [attestorref03_Normal.l1, if_pos (by omega), w64_pred (by omega), if_pos (by omega), if_pos (by omega), rd_nat, if_neg h0, if_pos (by omega), if_pos (by omega)]
      refine congrArg some ?_
      rw [Int.toNat_natCast]
      exact trm_eq hn hz (fun m hm => by obtain rfl : m = n := by omega
                                         exact h0)
theorem same_l0 {l : List Int} (hl : l.length ≤ 1000000) : ∀ (d i : Nat), i + d = l.length → Ev (fun k => attestorref01_Same.l0 k l l i) true := by
  intro d
  induction d with
  | zero =>
    intro i hi
    refine Ev.succ (F := fun _ => some true) (fun k => ?_) (Ev.all fun _ => rfl)
    rw [attestorref01_Same.l0, if_neg (by omega)]
  | succ d ih =>
    intro i hi
    refine Ev.succ (fun k => ?_) (ih (i + 1) (by omega))
    rw [attestorref01_Same.l0, if_pos (by omega), if_pos (by omega), if_pos (by omega), if_pos rfl, w64_succ (by omega)]
theorem r_Same {l : List Int} (hl : l.length ≤ 1000000) : Ev (fun k => attestorref01_Same.f k l l) true := by
  refine Ev.congr (fun k => ?_) (same_l0 hl l.length 0 (by omega))
  rw [attestorref01_Same.f, if_pos rfl]
  rfl

section any
variable {f : Int} {p : Nat} (h : FO f p)
include h
theorem rnormal_l {l : List Int} (hl : l.length ≤ 1000000) (hu : UL l) : ∀ (d i : Nat), i + d = l.length → Ev (fun k => attestorref03_Normal.l0 k f l ((l.take i).map (· % (p : Int))) i) (nrm p l) := by
  intro d
  induction d with
  | zero =>
    intro i hi
    have e : (l.take i).map (· % (p : Int)) = l.map (· % (p : Int)) := by rw [List.take_of_length_le (by omega)]
    rw [e]
    refine Ev.succ (fun k => ?_) (rtrim_l (l := l.map (· % (p : Int))) (by simpa using hl) (l.map (· % (p : Int))).length (Nat.le_refl _) (fun _ hh => co_over hh))
    rw [attestorref03_Normal.l0, if_neg (by omega)]
  | succ d ih =>
    intro i hi
    refine Ev.succ (fun k => ?_) (ih (i + 1) (by omega))
    rw [attestorref03_Normal.l0, if_pos (by omega), if_pos (by omega), rd_nat, ro_Reduce h (U.co hu i).1, Option.bind_some, if_pos (by simp; omega), w64_succ (by omega)]
    congr 1
    rw [List.take_succ_eq_append_getElem (by omega), List.map_append, co_lt (by omega)]
    rfl
theorem r_Normal {l : List Int} (hl : l.length ≤ 1000000) (hu : UL l) : Ev (fun k => attestorref03_Normal.f k f l) (nrm p l) := by
  rcases h.ok with g | ⟨g, rfl⟩
  · refine Ev.congr (fun k => ?_) (rnormal_l h hl hu l.length 0 (by omega))
    rw [attestorref03_Normal.f, r_Valid g, Option.bind_some, if_pos rfl]
    rfl
  · rw [nrm_one_nil]
    refine Ev.all fun k => ?_
    rw [attestorref03_Normal.f, br_Valid g, Option.bind_some, if_neg (by decide)]
theorem reval_l {l : List Int} (hl : l.length ≤ 1000000) (hu : UL l) {x : Int} (hx : 0 ≤ x) : ∀ (d i : Nat) (w : Int), i + d = l.length → 0 ≤ w → Cg p w (x ^ i) → Ev (fun k => attestorref03_Eval.l0 k f l x (ev (l.take i) x % p) w i) (ev l x % p) := by
  intro d
  induction d with
  | zero =>
    intro i w hi _ _
    refine Ev.succ (F := fun _ => some (ev l x % p)) (fun k => ?_) (Ev.all fun _ => rfl)
    rw [attestorref03_Eval.l0, if_neg (by omega), List.take_of_length_le (by omega)]
  | succ d ih =>
    intro i w hi hw hc
    refine Ev.succ (fun k => ?_) (ih (i + 1) (w * x % p) (by omega) (mod_nonneg h.pos _) (by rw [Int.pow_succ]; exact (Cg.mod _ _).trans (hc.mul (Cg.refl _ _))))
    have e1 : (ev (l.take i) x % p + co l i * w % p) % p = ev (l.take (i + 1)) x % p := by
      refine Cg.mod_eq ?_
      rw [ev_take_succ]
      exact (Cg.mod _ _).add ((Cg.mod _ _).trans ((Cg.refl _ _).mul hc))
    rw [attestorref03_Eval.l0, if_pos (by omega), if_pos (by omega), rd_nat, ro_Mul h (U.co hu i).1 hw, Option.bind_some, ro_Add h (mod_nonneg h.pos _) (mod_nonneg h.pos _), Option.bind_some, ro_Mul h hw hx, Option.bind_some, e1, w64_succ (by omega)]
theorem r_Eval {l : List Int} (hl : l.length ≤ 1000000) (hu : UL l) {x : Int} (hx : 0 ≤ x) : Ev (fun k => attestorref03_Eval.f k f l x) (ev l x % p) := by
  have key := reval_l h hl hu hx l.length 0 1 (by omega) (by omega) (Cg.of_eq (Int.pow_zero x).symm)
  rw [List.take_zero, show ev [] x % (p : Int) = 0 by simp [ev]] at key
  exact key
end any
section good
variable {f : Int} {p : Nat} (h : FP f p)
include h
end good
end Go.Proofs.YtdjjdlkglinlgaaDoor.Pure
