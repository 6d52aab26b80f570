/- Split and Join return what the chapter specifies: the program's answers are the reference's, for every input. -/
import Derived.Test.YtmnahhacobfafaaDoorSpecJR
import Derived.Test.YtmnahhacobfafaaDoorSpecW
import Derived.Test.YtmnahhacobfafaaDoorQ14
namespace Go.Proofs.YtmnahhacobfafaaDoor.Pure
open Go.RowKit Go.Proofs.YtmnahhacobfafaaDoor.Q Go.Proofs.YtmnahhacobfafaaDoor.Num Go.Proofs.YtmnahhacobfafaaDoor.Pol Go.Proofs.YtmnahhacobfafaaDoorW.PrintWords Go.Proofs.YtmnahhacobfafaaDoorW.PrintLast Go.Proofs.YtmnahhacobfafaaDoorW.PrintMore

theorem any_fo (f : Int) : ∃ p, FO f p := by
  rcases fp_or f with ⟨p, h⟩ | h
  · exact ⟨p, h.o⟩
  · exact ⟨1, bad_o h⟩
theorem prt_length (m j : Nat) (l : List Int) : (prt m j l).length = l.length := by simp [prt]
theorem both_split (f : Int) {l : List Int} (hl : l.length ≤ 60) (hu : UL l) (m : Int) : ∃ S : List (List Int), S.length ≤ 64 ∧ (∀ r, (lc S r).length ≤ 60) ∧ Ev (fun k => poly_Split.f k f l m) S ∧ Ev (fun k => attestorref03_Split.f k f l m) S := by
  have none : Ev (fun k => poly_Split.f k f l m) [] → Ev (fun k => attestorref03_Split.f k f l m) [] → ∃ S : List (List Int), S.length ≤ 64 ∧ (∀ r, (lc S r).length ≤ 60) ∧ Ev (fun k => poly_Split.f k f l m) S ∧ Ev (fun k => attestorref03_Split.f k f l m) S :=
    fun a b => ⟨[], by simp, fun r => by rw [lc_over (by simp)]; simp, a, b⟩
  rcases fp_or f with ⟨p, h⟩ | h
  · by_cases hm : m < 1 ∨ 64 < m
    · exact none (s_Split_none hm) (r_Split_none (Or.inr hm))
    · obtain ⟨n, rfl⟩ : ∃ n : Nat, m = (n : Int) := ⟨m.toNat, by omega⟩
      refine ⟨_, ?_, fun r => ?_, s_Split h (l := l) (by omega) hu (by omega) (by omega), r_Split h (l := l) (by omega) hu (by omega) (by omega)⟩
      · rw [spl_length]; omega
      · rcases Nat.lt_or_ge r n with q | q
        · rw [lc_spl q]
          have := nrm_length_le p (prt n r l)
          rw [prt_length] at this
          omega
        · rw [lc_over (by rw [spl_length]; omega)]; simp
  · exact none (s_Split_bad h) (r_Split_none (Or.inl h))
theorem both_join (f : Int) {x : List (List Int)} (hl : ∀ r, (lc x r).length ≤ 20) (hu : ∀ r, UL (lc x r)) : ∃ S : List Int, S.length ≤ 2000 ∧ Ev (fun k => poly_Join.f k f x) S ∧ Ev (fun k => attestorref03_Join.f k f x) S := by
  obtain ⟨p, h⟩ := any_fo f
  by_cases hm : 64 < x.length
  · exact ⟨[], by simp, s_Join_none hm, r_Join_none hm⟩
  · have hx : Rows0 x := ⟨by omega, fun r => by have := hl r; omega, hu⟩
    obtain ⟨O, hO⟩ : ∃ O : List Int, O = (List.range (20 * x.length)).map (jc x.length x) := ⟨_, rfl⟩
    have lO : O.length = 20 * x.length := by rw [hO]; simp
    have cO : ∀ t, co O t = jc x.length x t := fun t => by
      rcases Nat.lt_or_ge t (20 * x.length) with q | q
      · rw [co_lt (by omega)]; simp [hO]
      · rw [co_over (by omega)]
        rcases Nat.eq_zero_or_pos x.length with e | e
        · rw [jc_nil e]
        · have : 20 ≤ t / x.length := (Nat.le_div_iff_mul_le e).2 q
          rw [jc, co_over (by have := hl (t % x.length); omega)]
    have := nrm_length_le p O
    exact ⟨_, by omega, s_Join h hx cO, r_Join h hx cO⟩
theorem parts_l0 {f : Int} {a : List Int} {m : Int} (ha : a.length ≤ 60) (ua : UL a) {l2 : List (List Int)} (h2 : ∀ r, (lc l2 r).length * 8 ≤ 140737488351232 ∧ UL (lc l2 r)) :
    ∀ (d i : Nat) (x : List (List Int)), i + d = 66 → x.length ≤ i → (∀ r, (lc x r).length ≤ 20) → (∀ r, UL (lc x r)) → Ev (fun k => attestorlaw03_PolyParts.l0 k f a l2 m x i) true := by
  have fin : ∀ x : List (List Int), (∀ r, (lc x r).length ≤ 20) → (∀ r, UL (lc x r)) → Ev (fun k => attestorlaw03_PolyParts.j1 k f a m x) true := by
    intro x hl hu
    obtain ⟨S, n1, n2, s1, s2⟩ := both_split f ha ua m
    obtain ⟨J, n3, j1, j2⟩ := both_join f hl hu
    obtain ⟨K1, k1⟩ := Ev.get s1
    obtain ⟨K2, k2⟩ := Ev.get s2
    obtain ⟨K3, k3⟩ := Ev.get (r_SameLists (x := S) (fun r => by have := n2 r; omega) (by omega))
    obtain ⟨K4, k4⟩ := Ev.get j1
    obtain ⟨K5, k5⟩ := Ev.get j2
    obtain ⟨K6, k6⟩ := Ev.get (r_Same (l := J) (by omega))
    obtain ⟨K7, k7⟩ := Ev.get s_works
    refine Ev.mks (K1 + K2 + K3 + K4 + K5 + K6 + K7) fun k hk => ?_
    rw [attestorlaw03_PolyParts.j1, k1 k (by omega), Option.bind_some, k2 k (by omega), Option.bind_some, k3 k (by omega), Option.bind_some, if_pos rfl, k4 k (by omega), Option.bind_some, k5 k (by omega), Option.bind_some, k6 k (by omega), Option.bind_some, if_pos rfl, k7 k (by omega), Option.bind_some]
  intro d
  induction d with
  | zero =>
    intro i x hi hx hl hu
    refine Ev.succ (fun k => ?_) (fin x hl hu)
    rw [attestorlaw03_PolyParts.l0]
    split
    · rw [if_neg (by omega)]
    · rfl
  | succ d ih =>
    intro i x hi hx hl hu
    by_cases g : i < l2.length
    · have o := s_own (h2 i).1 20
      have lt : ((lc l2 i).take 20).length ≤ 20 := by rw [List.length_take]; omega
      have key := ih (i + 1) (x ++ [(lc l2 i).take 20]) (by omega) (by simp; omega) (fun r => by
        rw [lc_append]
        split
        · exact hl r
        · by_cases e : r - x.length = 0
          · rw [e]; exact lt
          · rw [lc_over (by simp; omega)]; simp) (fun r => by
        rw [lc_append]
        split
        · exact hu r
        · by_cases e : r - x.length = 0
          · rw [e]; exact (h2 i).2.take 20
          · rw [lc_over (by simp; omega)]; exact UL.nil)
      refine Ev.succ (fun k => ?_) key
      rw [attestorlaw03_PolyParts.l0, if_pos (Int.ofNat_lt.2 g), if_pos (by omega), if_pos (Int.natCast_nonneg _), rd_L1_nat, show (20 : Int) = ((20 : Nat) : Int) from rfl, o, Option.bind_some, if_pos (by omega), w64_succ (by omega)]
    · refine Ev.succ (fun k => ?_) (fin x hl hu)
      rw [attestorlaw03_PolyParts.l0, if_neg (by omega)]
theorem PolyParts (f : Int) (l1 : List Int) (l2 : List (List Int)) (m : Int) (hy1 : l1.length * 8 ≤ 140737488351232) (hw1 : ∀ x ∈ l1, (Lit.int .u64 x).wf = true) (h2 : ∀ r ∈ l2, r.length * 8 ≤ 140737488351232 ∧ ∀ x ∈ r, (Lit.int .u64 x).wf = true) :
    ∃ k, attestorlaw03_PolyParts.f k f l1 l2 m = some true := by
  have o1 := s_own hy1 60
  have na : (l1.take 60).length ≤ 60 := by rw [List.length_take]; omega
  have h3 : ∀ r, (lc l2 r).length * 8 ≤ 140737488351232 ∧ UL (lc l2 r) := fun r => by
    rcases Nat.lt_or_ge r l2.length with q | q
    · have := h2 _ (lc_mem q)
      exact ⟨this.1, UL.of_wf this.2⟩
    · rw [lc_over q]; exact ⟨by simp, UL.nil⟩
  have key := parts_l0 (f := f) (m := m) na ((UL.of_wf hw1).take 60) h3 66 0 [] (by omega) (by simp) (fun r => by rw [lc_over (by simp)]; simp) (fun r => by rw [lc_over (by simp)]; exact UL.nil)
  refine Ev.ex (F := fun k => attestorlaw03_PolyParts.f k f l1 l2 m) (Ev.congr (fun k => ?_) key)
  rw [attestorlaw03_PolyParts.f, show (60 : Int) = ((60 : Nat) : Int) from rfl, o1, Option.bind_some]
  rfl
end Go.Proofs.YtmnahhacobfafaaDoor.Pure
