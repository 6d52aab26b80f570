/- Valid, Size, Point, Points and Wide return what the chapter specifies: for every input. -/
import Derived.Test.YtedapdagagkajaaDoorSpecs
import Derived.Test.YtedapdagagkajaaDoorQ2
import Derived.Test.YtedapdagagkajaaDoorQ9
namespace Go.Proofs.YtedapdagagkajaaDoor.Pure
open Go.RowKit Go.Proofs.YtedapdagagkajaaDoor.Q Go.Proofs.YtedapdagagkajaaDoor.Num Go.Proofs.YtedapdagagkajaaDoor.Pol Go.Proofs.YtedapdagagkajaaDoorW.PrintWords Go.Proofs.YtedapdagagkajaaDoorW.PrintLast Go.Proofs.YtedapdagagkajaaDoorW.PrintMore

theorem rP_any (f : Int) : attestorref01_P.f f = some (pOf f) := by
  unfold attestorref01_P.f pOf
  repeat' split
  all_goals rfl
theorem sP_any (f : Int) : field_P.f f = some (pOf f) := by simp [field_P.f]
/-- A valid domain, or none to both. -/
theorem dm_or (f b s : Int) : (∃ p k : Nat, b = (k : Int) ∧ Dm f p k s ∧ attestorref05_Valid.f f b s = some true) ∨ (code_Valid.f f b s = some false ∧ attestorref05_Valid.f f b s = some false) := by
  rcases fp_or f with ⟨p, h⟩ | h
  · have e1 := s_Valid h
    have e2 := r_Valid h
    have e3 := h.eq
    rw [code_Valid.f, attestorref05_Valid.f, e1, e2, Option.bind_some, Option.bind_some, if_pos rfl, if_pos rfl, s_cgr, r_gr, Option.bind_some, Option.bind_some, sP_any, rP_any, Option.bind_some, e3]
    by_cases c1 : b ≥ 0
    · rw [if_pos c1]
      by_cases c2 : b ≤ gr f
      · rw [if_pos c2]
        by_cases c3 : s > 0
        · rw [if_pos c3]
          by_cases c4 : s < p
          · rw [decide_eq_true c4]
            exact Or.inl ⟨p, b.toNat, by omega, ⟨h, by omega, c3, c4⟩, rfl⟩
          · rw [decide_eq_false c4]; exact Or.inr ⟨rfl, rfl⟩
        · rw [if_neg c3]; exact Or.inr ⟨rfl, rfl⟩
      · rw [if_neg c2]; exact Or.inr ⟨rfl, rfl⟩
    · rw [if_neg c1]; exact Or.inr ⟨rfl, rfl⟩
  · right
    rw [code_Valid.f, attestorref05_Valid.f, b_Valid h, br_Valid h, Option.bind_some, Option.bind_some, if_neg (by decide), if_neg (by decide)]
    exact ⟨rfl, rfl⟩
theorem s_Root_any (f b : Int) : ∃ r : Int, Ev (fun K => field_Root.f K f b) r := by
  by_cases c0 : pOf f = 0
  · exact ⟨0, Ev.all fun K => by rw [field_Root.f, if_pos c0]⟩
  · by_cases c1 : b < 0
    · exact ⟨0, Ev.all fun K => by rw [field_Root.f, if_neg c0, if_pos c1]⟩
    · by_cases c2 : b > tOf f
      · exact ⟨0, Ev.all fun K => by rw [field_Root.f, if_neg c0, if_neg c1, if_pos c2]⟩
      · rcases fp_or f with ⟨p, h⟩ | h
        · obtain ⟨k, rfl⟩ : ∃ k : Nat, b = k := ⟨b.toNat, by omega⟩
          exact ⟨_, s_Root h (k := k) (by omega)⟩
        · exact absurd (pOf_bad h) c0
section none
variable {f b s : Int} (h1 : code_Valid.f f b s = some false) (h2 : attestorref05_Valid.f f b s = some false)
include h1 h2
theorem n_Size : code_Size.f f b s = some 0 ∧ attestorref05_Size.f f b s = some 0 := by
  rw [code_Size.f, attestorref05_Size.f, h1, h2, Option.bind_some, Option.bind_some, if_neg (by decide), if_neg (by decide)]
  exact ⟨rfl, rfl⟩
theorem n_Point (i : Int) : Ev (fun K => code_Point.f K f b s i) 0 ∧ Ev (fun K => attestorref05_Point.f K f b s i) 0 := by
  obtain ⟨z1, z2⟩ := n_Size h1 h2
  refine ⟨Ev.mks 0 fun K _ => ?_, Ev.all fun K => ?_⟩
  · by_cases c : i < 0
    · rw [code_Point.f, if_pos c, code_Point.j0, if_pos rfl]
    · rw [code_Point.f, if_neg c, z1, Option.bind_some, decide_eq_true (by omega), code_Point.j0, if_pos rfl]
  · by_cases c : i < 0
    · rw [attestorref05_Point.f, if_pos c]
    · rw [attestorref05_Point.f, if_neg c, z2, Option.bind_some, if_pos (by omega)]
theorem n_Points : Ev (fun K => code_Points.f K f b s) [] ∧ Ev (fun K => attestorref05_Points.f K f b s) [] := by
  obtain ⟨z1, z2⟩ := n_Size h1 h2
  obtain ⟨r, hr⟩ := s_Root_any f b
  obtain ⟨K1, k1⟩ := Ev.get hr
  refine ⟨Ev.mks K1 fun K hK => ?_, Ev.mks 0 fun K _ => ?_⟩
  · rw [code_Points.f, z1, Option.bind_some, if_pos (Int.le_refl _), if_pos (by decide), Option.bind_some, k1 _ (by omega), Option.bind_some, code_Points.l0, if_neg (by decide)]
    rfl
  · rw [attestorref05_Points.f, attestorref05_Points.l0, z2, Option.bind_some, if_neg (by omega)]
end none
section dom
variable {f : Int} {p k : Nat} {s : Int} (z : Dm f p k s) (hv : attestorref05_Valid.f f (k : Int) s = some true)
include z hv
theorem d_rSize : attestorref05_Size.f f k s = some ((2 ^ k : Nat) : Int) := by
  have h18 := z.k18
  have e := beq_iff_eq.1 (List.all_eq_true.1 rshl_tab k (List.mem_range.2 (by omega)))
  rw [attestorref05_Size.f, hv, Option.bind_some, if_pos rfl, e, if_pos (by rw [wu64 (by omega) (by omega)]; omega)]
theorem d_rPoint {i : Nat} (hi : i < 2 ^ k) : Ev (fun K => attestorref05_Point.f K f k s i) (pnt f p k s i) := by
  have h18 := z.p18
  have hg := z.hg
  have hb := gr_le f
  have h0 := z.s0
  obtain ⟨K1, k1⟩ := Ev.get (r_Point z.h (k := k) (by omega) (s := s) (by omega) (i := i) (by omega))
  refine Ev.mk K1 fun K hK => ?_
  have nge : ¬ ((i : Int) ≥ ((2 ^ k : Nat) : Int)) := fun c => by have := Int.ofNat_le.1 c; omega
  rw [attestorref05_Point.f, if_neg (by omega), d_rSize z hv, Option.bind_some, if_neg nge, k1 K hK, Option.bind_some]
  rfl
theorem d_Point (i : Int) : ∃ r : Int, Ev (fun K => code_Point.f K f k s i) r ∧ Ev (fun K => attestorref05_Point.f K f k s i) r := by
  by_cases c : i < 0
  · exact ⟨0, Ev.mks 0 fun K _ => by rw [code_Point.f, if_pos c, code_Point.j0, if_pos rfl], Ev.all fun K => by rw [attestorref05_Point.f, if_pos c]⟩
  · by_cases c2 : i ≥ ((2 ^ k : Nat) : Int)
    · refine ⟨0, Ev.mks 0 fun K _ => ?_, Ev.all fun K => ?_⟩
      · rw [code_Point.f, if_neg c, z.size, Option.bind_some, decide_eq_true c2, code_Point.j0, if_pos rfl]
      · rw [attestorref05_Point.f, if_neg c, d_rSize z hv, Option.bind_some, if_pos c2]
    · obtain ⟨j, rfl⟩ : ∃ j : Nat, i = j := ⟨i.toNat, by omega⟩
      have hj : j < 2 ^ k := by
        rcases Nat.lt_or_ge j (2 ^ k) with q | q
        · exact q
        · exact absurd (Int.ofNat_le.2 q) c2
      exact ⟨_, z.Point hj, d_rPoint z hv hj⟩
theorem d_rPoints : Ev (fun K => attestorref05_Points.f K f k s) (pts f p k s) := by
  have h18 := z.p18
  have key : ∀ (d i : Nat), i + d = 2 ^ k → Ev (fun K => attestorref05_Points.l0 K ((pts f p k s).take i) i f k s) (pts f p k s) := by
    intro d
    induction d with
    | zero =>
      intro i hi
      refine Ev.mks 0 fun K _ => ?_
      have nl : ¬ (i : Int) < ((2 ^ k : Nat) : Int) := fun c => by have := Int.ofNat_lt.1 c; omega
      rw [attestorref05_Points.l0, d_rSize z hv, Option.bind_some, if_neg nl, List.take_of_length_le (by rw [pts_length]; omega)]
    | succ d ih =>
      intro i hi
      have hii : i < 2 ^ k := by omega
      obtain ⟨K1, k1⟩ := Ev.get (d_rPoint z hv hii)
      obtain ⟨K2, k2⟩ := Ev.get (ih (i + 1) (by omega))
      refine Ev.mks (K1 + K2) fun K hK => ?_
      rw [attestorref05_Points.l0, d_rSize z hv, Option.bind_some, if_pos (Int.ofNat_lt.2 hii), k1 K (by omega), Option.bind_some, if_pos (by rw [List.length_take, pts_length]; omega), w64_succ (by omega), ← co_pts hii, take_co (by rw [pts_length]; exact hii)]
      exact k2 K (by omega)
  exact key (2 ^ k) 0 (by omega)
end dom
theorem both_Wide (f k b : Int) : ∃ r : Int × Int × Int × Int, code_Wide.f f k b = some r ∧ Ev (fun K => attestorref05_Wide.f K f k b) r := by
  have hb := gr_le f
  rcases fp_or f with ⟨p, h⟩ | h
  · by_cases c1 : k < 0
    · exact ⟨_, by rw [code_Wide.f, s_cgr, Option.bind_some, s_Valid h, Option.bind_some, if_pos rfl, if_pos c1], Ev.all fun K => by rw [attestorref05_Wide.f, r_Valid h, Option.bind_some, if_pos rfl, r_gr, Option.bind_some, if_pos c1]⟩
    · by_cases c2 : b < 0
      · exact ⟨_, by rw [code_Wide.f, s_cgr, Option.bind_some, s_Valid h, Option.bind_some, if_pos rfl, if_neg c1, if_pos c2], Ev.all fun K => by rw [attestorref05_Wide.f, r_Valid h, Option.bind_some, if_pos rfl, r_gr, Option.bind_some, if_neg c1, if_pos c2]⟩
      · by_cases c3 : k > gr f
        · exact ⟨_, by rw [code_Wide.f, s_cgr, Option.bind_some, s_Valid h, Option.bind_some, if_pos rfl, if_neg c1, if_neg c2, if_pos c3], Ev.all fun K => by rw [attestorref05_Wide.f, r_Valid h, Option.bind_some, if_pos rfl, r_gr, Option.bind_some, if_neg c1, if_neg c2, if_pos c3]⟩
        · have e1 : wrap64 (gr f - k) = gr f - k := w64 (by omega) (by omega)
          by_cases c4 : b > gr f - k
          · refine ⟨_, by rw [code_Wide.f, s_cgr, Option.bind_some, s_Valid h, Option.bind_some, if_pos rfl, if_neg c1, if_neg c2, if_neg c3, e1, if_pos c4], Ev.all fun K => ?_⟩
            rw [attestorref05_Wide.f, r_Valid h, Option.bind_some, if_pos rfl, r_gr, Option.bind_some, if_neg c1, if_neg c2, if_neg c3]
            by_cases c5 : b > gr f
            · rw [if_pos c5]
            · rw [if_neg c5, if_pos (by rw [w64 (by omega) (by omega)]; omega)]
          · obtain ⟨K1, k1⟩ := Ev.get (r_Gen h)
            refine ⟨_, by rw [code_Wide.f, s_cgr, Option.bind_some, s_Valid h, Option.bind_some, if_pos rfl, if_neg c1, if_neg c2, if_neg c3, e1, if_neg c4, show field_Generator.f f = some (gOf f) from rfl, Option.bind_some], Ev.mk K1 fun K hK => ?_⟩
            rw [attestorref05_Wide.f, r_Valid h, Option.bind_some, if_pos rfl, r_gr, Option.bind_some, if_neg c1, if_neg c2, if_neg c3, if_neg (by omega), if_neg (by rw [w64 (by omega) (by omega)]; omega), k1 K hK, Option.bind_some]
  · exact ⟨_, by rw [code_Wide.f, s_cgr, Option.bind_some, b_Valid h, Option.bind_some, if_neg (by decide)], Ev.all fun K => by rw [attestorref05_Wide.f, br_Valid h, Option.bind_some, if_neg (by decide)]⟩
/-- The points of the domain made small. -/
theorem both_small (f b s : Int) (n : Nat) (hn : n ≤ 9) : ∃ t : Int × Int × Int, attestorlaw05_small.f f b s n = some t ∧ ((∃ p k : Nat, t = (f, (k : Int), s) ∧ k ≤ n ∧ Dm f p k s ∧ attestorref05_Valid.f f (k : Int) s = some true) ∨ (t = (f, b, s) ∧ code_Valid.f f b s = some false ∧ attestorref05_Valid.f f b s = some false)) := by
  rcases dm_or f b s with ⟨p, k, rfl, z, hv⟩ | ⟨h1, h2⟩
  · have h18 := z.k18
    have hg := z.hg
    by_cases c : (k : Int) > n
    · have hm : k % (n + 1) ≤ k := Nat.mod_le _ _
      have hl : k % (n + 1) < n + 1 := Nat.mod_lt _ (by omega)
      have zz : Dm f p (k % (n + 1)) s := ⟨z.h, by omega, z.s0, z.sp⟩
      refine ⟨(f, ((k % (n + 1) : Nat) : Int), s), ?_, Or.inl ⟨p, k % (n + 1), rfl, by omega, zz, ?_⟩⟩
      · rw [attestorlaw05_small.f, hv, Option.bind_some, if_pos rfl, if_pos c, w64_succ (by omega), if_neg (by omega), tmod_nn (by omega)]
        rfl
      · rcases dm_or f ((k % (n + 1) : Nat) : Int) s with ⟨_, _, _, _, hv2⟩ | ⟨h1, _⟩
        · exact hv2
        · rw [zz.valid] at h1; simp at h1
    · exact ⟨(f, (k : Int), s), by rw [attestorlaw05_small.f, hv, Option.bind_some, if_pos rfl, if_neg c], Or.inl ⟨p, k, rfl, by omega, z, hv⟩⟩
  · exact ⟨(f, b, s), by rw [attestorlaw05_small.f, h2, Option.bind_some, if_neg (by decide)], Or.inr ⟨rfl, h1, h2⟩⟩
theorem CodeDomains (f b s i a2 a3 a4 : Int) : ∃ k, attestorlaw05_CodeDomains.f k f b s i a2 a3 a4 = some true := by
  obtain ⟨v, v1, v2⟩ : ∃ v : Bool, code_Valid.f f b s = some v ∧ attestorref05_Valid.f f b s = some v := by
    rcases dm_or f b s with ⟨p, k, rfl, z, hv⟩ | ⟨h1, h2⟩
    · exact ⟨true, z.valid, hv⟩
    · exact ⟨false, h1, h2⟩
  obtain ⟨u, u1, u2⟩ : ∃ u : Int, code_Size.f f b s = some u ∧ attestorref05_Size.f f b s = some u := by
    rcases dm_or f b s with ⟨p, k, rfl, z, hv⟩ | ⟨h1, h2⟩
    · exact ⟨_, z.size, d_rSize z hv⟩
    · exact ⟨_, n_Size h1 h2⟩
  obtain ⟨r, r1, r2⟩ : ∃ r : Int, Ev (fun K => code_Point.f K f b s i) r ∧ Ev (fun K => attestorref05_Point.f K f b s i) r := by
    rcases dm_or f b s with ⟨p, k, rfl, z, hv⟩ | ⟨h1, h2⟩
    · exact d_Point z hv i
    · exact ⟨_, n_Point h1 h2 i⟩
  obtain ⟨t, t1, t2⟩ := both_small f b s 7 (by omega)
  obtain ⟨q, q1, q2, q3⟩ : ∃ q : List Int, Ev (fun K => code_Points.f K t.1 t.2.1 t.2.2) q ∧ Ev (fun K => attestorref05_Points.f K t.1 t.2.1 t.2.2) q ∧ q.length ≤ 128 := by
    rcases t2 with ⟨p, k, rfl, hk, z, hv⟩ | ⟨rfl, h1, h2⟩
    · exact ⟨_, z.Points, d_rPoints z hv, by rw [pts_length]; exact Nat.pow_le_pow_right (n := 2) (by omega) hk⟩
    · have := n_Points h1 h2
      exact ⟨_, this.1, this.2, by simp⟩
  obtain ⟨y, y1, y2⟩ := both_Wide a2 a3 a4
  obtain ⟨K1, k1⟩ := Ev.get r1
  obtain ⟨K2, k2⟩ := Ev.get r2
  obtain ⟨K3, k3⟩ := Ev.get q1
  obtain ⟨K4, k4⟩ := Ev.get q2
  obtain ⟨K5, k5⟩ := Ev.get y2
  obtain ⟨K6, k6⟩ := Ev.get (r_Same (l := q) (by omega))
  obtain ⟨K7, k7⟩ := Ev.get s_works
  refine Ev.ex (F := fun K => attestorlaw05_CodeDomains.f K f b s i a2 a3 a4) (Ev.mks (K1 + K2 + K3 + K4 + K5 + K6 + K7) fun K hK => ?_)
  have nv : ¬ (v != v) = true := by simp
  rw [attestorlaw05_CodeDomains.f, v1, v2, Option.bind_some, Option.bind_some, if_neg nv, u1, u2, Option.bind_some, Option.bind_some, if_pos rfl, k1 _ (by omega), Option.bind_some, k2 _ (by omega), Option.bind_some, if_pos rfl, attestorlaw05_CodeDomains.j0, y1, Option.bind_some, k5 K (by omega), Option.bind_some, show (7 : Int) = ((7 : Nat) : Int) from rfl, t1, Option.bind_some, if_pos (by simp), if_pos rfl, k3 K (by omega), Option.bind_some, k4 K (by omega), Option.bind_some, k6 K (by omega), Option.bind_some, if_pos rfl, k7 K (by omega), Option.bind_some]
end Go.Proofs.YtedapdagagkajaaDoor.Pure
