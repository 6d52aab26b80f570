/- Coefficients and Widen return what the chapter specifies: for every input. -/
import Derived.Test.YtdjjdlkglinlgaaDoorSpecVR
import Derived.Test.YtdjjdlkglinlgaaDoorSpecW
import Derived.Test.YtdjjdlkglinlgaaDoorQ7
namespace Go.Proofs.YtdjjdlkglinlgaaDoor.Pure
open Go.RowKit Go.Proofs.YtdjjdlkglinlgaaDoor.Q Go.Proofs.YtdjjdlkglinlgaaDoor.Num Go.Proofs.YtdjjdlkglinlgaaDoor.Pol Go.Proofs.YtdjjdlkglinlgaaDoorW.PrintWords Go.Proofs.YtdjjdlkglinlgaaDoorW.PrintLast Go.Proofs.YtdjjdlkglinlgaaDoorW.PrintMore

theorem both_Coefs {f s : Int} (hs : 0 ≤ s) {v : List Int} (hl : v.length ≤ 1024) (hu : UL v) : ∃ r : List Int × Int, Ev (fun K => transform_Coefficients.f K f s v) r ∧ Ev (fun K => attestorref04_Coefficients.f K f s v) r ∧ r.1.length ≤ 1024 := by
  rcases fp_or f with ⟨p, h⟩ | h
  · by_cases h0 : s % p = 0
    · exact ⟨_, Coefs_zero h hs h0 v, rCoefs_zero h hs h0 v, by simp⟩
    · rcases p2_or hl with ⟨k, hk, hv⟩ | ⟨hn, hz⟩
      · by_cases hg : (k : Int) ≤ gr f
        · exact ⟨_, s_Coefs h hk hg hs h0 hv hu, r_Coefs h hk hg hs h0 hv hu, by rw [cofs_length]; exact pow10 hk⟩
        · have e := s_exp f hk hv
          rw [decide_eq_false hg] at e
          exact ⟨_, Coefs_range h hs h0 e, rCoefs_range h hs h0 (r_Bits hk hv) (Or.inr (by omega)), by simp⟩
      · exact ⟨_, Coefs_range h hs h0 (s_exp_no f hz), rCoefs_range h hs h0 (r_Bits_no hl hn) (Or.inl (by omega)), by simp⟩
  · exact ⟨_, b_Coefs h s v, br_Coefs h s v, by simp⟩
theorem both_Widen {f b : Int} {v : List Int} (hl : v.length ≤ 1024) (hu : UL v) (hb : ∀ k : Nat, v.length = 2 ^ k → 0 ≤ b → (k : Int) + b ≤ gr f → (k : Int) + b ≤ 10) : ∃ r : List Int × Int, Ev (fun K => transform_Widen.f K f v b) r ∧ Ev (fun K => attestorref04_Widen.f K f v b) r ∧ r.1.length ≤ 1024 := by
  rcases fp_or f with ⟨p, h⟩ | h
  · rcases p2_or hl with ⟨k, hk, hv⟩ | ⟨hn, hz⟩
    · by_cases hg : 0 ≤ b ∧ (k : Int) + b ≤ gr f
      · obtain ⟨c, rfl⟩ : ∃ c : Nat, b = c := ⟨b.toNat, by omega⟩
        have hkc := hb k hv hg.1 hg.2
        exact ⟨_, s_Widen h (k := k) (b := c) (by omega) (by omega) hv hu, r_Widen h (k := k) (b := c) (by omega) (by omega) hv hu, by rw [vals_length]; exact pow10 (by omega)⟩
      · have e := s_exp f hk hv
        have hg3 : (k : Int) > gr f ∨ b < 0 ∨ b > gr f - k := by omega
        by_cases hg2 : (k : Int) ≤ gr f
        · exact ⟨_, Widen_range h e (by omega) (Or.inr (by omega)), rWiden_range h (r_Bits hk hv) (by omega) (Or.inr (by omega)), by simp⟩
        · exact ⟨_, Widen_range h e (by omega) (Or.inl (decide_eq_false hg2)), rWiden_range h (r_Bits hk hv) (by omega) (by omega), by simp⟩
    · exact ⟨_, Widen_range h (s_exp_no f hz) (by omega) (Or.inl rfl), rWiden_range h (r_Bits_no hl hn) (by omega) (Or.inl (by omega)), by simp⟩
  · exact ⟨_, b_Widen h v b, br_Widen h v b, by simp⟩
theorem shl_len_tab : ((List.range 65).all fun n => (List.range 19).all fun b => shl .i64 (n : Int) (IntKind.u64.wrap (b : Int)) == ((n * 2 ^ b : Nat) : Int)) = true := by decide +kernel
theorem TransformBack : attestorlaw04_TransformBack.Pure := by
  intro f b s l hf hb hs _ hy hw
  have hs := (U.of_wf hs).1
  obtain ⟨a, ha⟩ : ∃ a, a = l.take 64 := ⟨_, rfl⟩
  have ua : UL a := ha ▸ (UL.of_wf hw).take 64
  have na : a.length ≤ 64 := by rw [ha, List.length_take]; omega
  have o1 := s_own hy 64
  have o2 := s_own (l := a) (by omega) 64
  rw [← ha] at o1
  rw [List.take_of_length_le na] at o2
  have hgr := gr_le f
  obtain ⟨L1, l1⟩ := Ev.get (r_Same (l := a) (by omega))
  obtain ⟨L2, l2⟩ := Ev.get s_works
  obtain ⟨r, e1, e2, e3⟩ := both_Coefs (f := f) hs (v := a) (by omega) ua
  obtain ⟨K1, k1⟩ := Ev.get e1
  obtain ⟨K2, k2⟩ := Ev.get e2
  obtain ⟨K3, k3⟩ := Ev.get (r_Same (l := r.1) (by omega))
  have J : ∀ b : Int, (∀ k : Nat, a.length = 2 ^ k → 0 ≤ b → (k : Int) + b ≤ gr f → (k : Int) + b ≤ 10) → Ev (fun K => attestorlaw04_TransformBack.j0 K f b s a a) true ∧ Ev (fun K => attestorlaw04_TransformBack.j1 K f b s a a) true ∧ Ev (fun K => attestorlaw04_TransformBack.j2 K f b s a a) true := fun b hb => by
    obtain ⟨t, d1, d2, d3⟩ := both_Widen (f := f) (b := b) (v := a) (by omega) ua hb
    obtain ⟨M1, m1⟩ := Ev.get d1
    obtain ⟨M2, m2⟩ := Ev.get d2
    obtain ⟨M3, m3⟩ := Ev.get (r_Same (l := t.1) (by omega))
    refine ⟨Ev.mks (K1 + K2 + K3 + M1 + M2 + M3 + L1 + L2) fun K hK => ?_, Ev.mks (K1 + K2 + K3 + M1 + M2 + M3 + L1 + L2) fun K hK => ?_, Ev.mks (K1 + K2 + K3 + M1 + M2 + M3 + L1 + L2) fun K hK => ?_⟩
    · rw [attestorlaw04_TransformBack.j0, k1 K (by omega), Option.bind_some, k2 K (by omega), Option.bind_some, m1 K (by omega), Option.bind_some, m2 K (by omega), Option.bind_some, if_pos rfl, k3 K (by omega), Option.bind_some, if_pos rfl, if_pos rfl, m3 K (by omega), Option.bind_some, if_pos rfl, l1 K (by omega), Option.bind_some, if_pos rfl, l2 K (by omega), Option.bind_some]
    · rw [attestorlaw04_TransformBack.j1, k1 K (by omega), Option.bind_some, k2 K (by omega), Option.bind_some, m1 K (by omega), Option.bind_some, m2 K (by omega), Option.bind_some, if_pos rfl, k3 K (by omega), Option.bind_some, if_pos rfl, if_pos rfl, m3 K (by omega), Option.bind_some, if_pos rfl, l1 K (by omega), Option.bind_some, if_pos rfl, l2 K (by omega), Option.bind_some]
    · rw [attestorlaw04_TransformBack.j2, k1 K (by omega), Option.bind_some, k2 K (by omega), Option.bind_some, m1 K (by omega), Option.bind_some, m2 K (by omega), Option.bind_some, if_pos rfl, k3 K (by omega), Option.bind_some, if_pos rfl, if_pos rfl, m3 K (by omega), Option.bind_some, if_pos rfl, l1 K (by omega), Option.bind_some, if_pos rfl, l2 K (by omega), Option.bind_some]
  have h6 : ∀ k : Nat, a.length = 2 ^ k → k ≤ 6 := fun k hk => by
    rcases Nat.lt_or_ge 6 k with q | q
    · have := Nat.pow_le_pow_right (n := 2) (by omega) (show 7 ≤ k from q)
      omega
    · exact q
  by_cases q : b > 1
  · by_cases q2 : b ≤ gr f
    · obtain ⟨c, rfl⟩ : ∃ c : Nat, b = c := ⟨b.toNat, by omega⟩
      have e := List.all_eq_true.1 (List.all_eq_true.1 shl_len_tab a.length (List.mem_range.2 (by omega))) c (List.mem_range.2 (by omega))
      have e := beq_iff_eq.1 e
      by_cases q3 : shl .i64 (a.length : Int) (IntKind.u64.wrap (c : Int)) > 128
      · obtain ⟨K, e⟩ := Ev.ex (J (Int.tmod c 2) (fun k hk _ _ => by have := h6 k hk; rw [tmod_nn (by omega)]; omega)).1
        exact ⟨K, by rw [attestorlaw04_TransformBack.f, show (64 : Int) = ((64 : Nat) : Int) from rfl, o1, Option.bind_some, o2, Option.bind_some, if_pos q, r_gr, Option.bind_some, if_pos q2, if_pos (by rw [wu64 (by omega) (by omega)]; omega), if_pos q3, e]⟩
      · obtain ⟨K, e⟩ := Ev.ex (J c (fun k hk _ _ => by
          rw [e] at q3
          rw [hk, ← Nat.pow_add] at q3
          rcases Nat.lt_or_ge 7 (k + c) with w | w
          · have := Nat.pow_le_pow_right (n := 2) (by omega) (show 8 ≤ k + c from w)
            omega
          · omega)).1
        exact ⟨K, by rw [attestorlaw04_TransformBack.f, show (64 : Int) = ((64 : Nat) : Int) from rfl, o1, Option.bind_some, o2, Option.bind_some, if_pos q, r_gr, Option.bind_some, if_pos q2, if_pos (by rw [wu64 (by omega) (by omega)]; omega), if_neg q3, e]⟩
    · obtain ⟨K, e⟩ := Ev.ex (J b (fun k _ _ _ => by omega)).2.1
      exact ⟨K, by rw [attestorlaw04_TransformBack.f, show (64 : Int) = ((64 : Nat) : Int) from rfl, o1, Option.bind_some, o2, Option.bind_some, if_pos q, r_gr, Option.bind_some, if_neg q2, e]⟩
  · obtain ⟨K, e⟩ := Ev.ex (J b (fun k hk _ _ => by have := h6 k hk; omega)).2.2
    exact ⟨K, by rw [attestorlaw04_TransformBack.f, show (64 : Int) = ((64 : Nat) : Int) from rfl, o1, Option.bind_some, o2, Option.bind_some, if_neg q, e]⟩
end Go.Proofs.YtdjjdlkglinlgaaDoor.Pure
