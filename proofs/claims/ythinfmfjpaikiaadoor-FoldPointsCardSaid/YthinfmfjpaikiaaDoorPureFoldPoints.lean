/- Rounds, Next and At answer as the reference does: for every input. -/
import Derived.Test.YthinfmfjpaikiaaDoorSpecs
import Derived.Test.YthinfmfjpaikiaaDoorQ2
import Derived.Test.YthinfmfjpaikiaaDoorQ4
import Derived.Test.YthinfmfjpaikiaaDoorQ6
namespace Go.Proofs.YthinfmfjpaikiaaDoor.Pure
open Go.RowKit Go.Proofs.YthinfmfjpaikiaaDoor.Q Go.Proofs.YthinfmfjpaikiaaDoor.Num Go.Proofs.YthinfmfjpaikiaaDoor.Pol Go.Proofs.YthinfmfjpaikiaaDoorW.PrintWords Go.Proofs.YthinfmfjpaikiaaDoorW.PrintLast Go.Proofs.YthinfmfjpaikiaaDoorW.PrintMore

theorem both_Next (f b s : Int) : ∃ r : Int × Int × Int × Int, Ev (fun K => fold_Next.f K f b s) r ∧ Ev (fun K => attestorref09_Next.f K f b s) r := by
  rcases V.dm_or f b s with ⟨p, k, rfl, z, hv⟩ | ⟨h1, h2⟩
  · by_cases c : (k : Int) < 3
    · refine ⟨(0, 0, 0, 2), Ev.all fun K => ?_, Ev.all fun K => ?_⟩
      · rw [fold_Next.f, z.valid, Option.bind_some, if_pos rfl, if_pos c]
      · rw [attestorref09_Next.f, hv, Option.bind_some, if_pos rfl, if_pos c]
    · have h0 := z.s0
      obtain ⟨K1, k1⟩ := Ev.get (s_Pow z.h (a := s) (by omega) 8 (by decide))
      obtain ⟨K2, k2⟩ := Ev.get (r_Pow z.h (a := s) (by omega) 8 8 (Nat.le_refl _) (by decide))
      refine ⟨(f, wrap64 ((k : Int) - 3), s ^ 8 % p, 0), Ev.mk K1 fun K hK => ?_, Ev.mk K2 fun K hK => ?_⟩
      · rw [fold_Next.f, z.valid, Option.bind_some, if_pos rfl, if_neg c, show field_Pow.f K f s 8 = some _ from k1 K hK, Option.bind_some]
      · rw [attestorref09_Next.f, hv, Option.bind_some, if_pos rfl, if_neg c, show attestorref01_Pow.f K f s 8 = some _ from k2 K hK, Option.bind_some]
  · refine ⟨(0, 0, 0, 1), Ev.all fun K => ?_, Ev.all fun K => ?_⟩
    · rw [fold_Next.f, h1, Option.bind_some, if_neg (by decide)]
    · rw [attestorref09_Next.f, h2, Option.bind_some, if_neg (by decide)]
theorem both_Rounds (a : Int) : ∃ r : Int, fold_Rounds.f a = some r ∧ attestorref09_Rounds.f a = some r := by
  by_cases c : a < 0
  · refine ⟨0, ?_, by rw [attestorref09_Rounds.f, if_pos c]⟩
    rw [fold_Rounds.f, show mx a 0 = 0 by unfold mx; (repeat' split) <;> omega]
    exact congrArg some (by decide +kernel)
  · refine ⟨wrap64 (a / 3), ?_, ?_⟩
    · rw [fold_Rounds.f, show mx a 0 = a by unfold mx; (repeat' split) <;> omega]
    · rw [attestorref09_Rounds.f, if_neg c, Int.tdiv_eq_ediv_of_nonneg (by omega)]
theorem FoldPoints (b0 b1 b2 x1 x2 x3 : Int) (x4 : List Int) (x5 : Int) (_ : (Lit.int .i64 b0).wf = true) (_ : (Lit.int .i64 b1).wf = true) (_ : (Lit.int .u64 b2).wf = true) (_ : (Lit.int .i64 x1).wf = true) (_ : (Lit.int .i64 x2).wf = true) (w3 : (Lit.int .u64 x3).wf = true) (l4 : x4.length = 8) (w4 : ∀ x ∈ x4, (Lit.int .u64 x).wf = true) (w5 : (Lit.int .u64 x5).wf = true) :
    ∃ k, attestorlaw09_FoldPoints.f k b0 b1 b2 x1 x2 x3 x4 x5 = some true := by
  obtain ⟨r, n1, n2⟩ := both_Next b0 b1 b2
  obtain ⟨q, r1, r2⟩ := both_Rounds x1
  obtain ⟨y, a1, a2⟩ := both_At (f := x2) (U.of_wf w3).1 (U.of_wf w5).1 l4 (UL.of_wf w4)
  obtain ⟨K1, k1⟩ := Ev.get n1
  obtain ⟨K2, k2⟩ := Ev.get n2
  obtain ⟨K3, k3⟩ := Ev.get a1
  obtain ⟨K4, k4⟩ := Ev.get a2
  obtain ⟨K5, k5⟩ := Ev.get s_works
  refine ⟨K1 + K2 + K3 + K4 + K5, ?_⟩
  rw [attestorlaw09_FoldPoints.f, k1 _ (by omega), Option.bind_some, k2 _ (by omega), Option.bind_some, r1, Option.bind_some, r2, Option.bind_some, if_pos rfl, if_pos (by simp), if_pos rfl, fold_At.f, pad8_self l4, k3 _ (by omega), Option.bind_some, k4 _ (by omega), Option.bind_some, if_pos rfl, k5 _ (by omega), Option.bind_some]
end Go.Proofs.YthinfmfjpaikiaaDoor.Pure
