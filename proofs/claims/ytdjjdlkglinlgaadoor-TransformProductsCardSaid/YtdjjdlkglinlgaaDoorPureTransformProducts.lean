/- The product of polynomials has the products of the values; Values respects sums and multiples: for every input. -/
import Derived.Test.YtdjjdlkglinlgaaDoorSpecMu
import Derived.Test.YtdjjdlkglinlgaaDoorSpecM
import Derived.Test.YtdjjdlkglinlgaaDoorSpecW
import Derived.Test.YtdjjdlkglinlgaaDoorQ13
namespace Go.Proofs.YtdjjdlkglinlgaaDoor.Pure
open Go.RowKit Go.Proofs.YtdjjdlkglinlgaaDoor.Q Go.Proofs.YtdjjdlkglinlgaaDoor.Num Go.Proofs.YtdjjdlkglinlgaaDoor.Pol Go.Proofs.YtdjjdlkglinlgaaDoorW.PrintWords Go.Proofs.YtdjjdlkglinlgaaDoorW.PrintLast Go.Proofs.YtdjjdlkglinlgaaDoorW.PrintMore

theorem gr_five {f : Int} {p : Nat} (h : FP f p) : 5 ≤ gr f := by
  have h0 := h.lo
  have h1 := h.hi
  have : f = 0 ∨ f = 1 ∨ f = 2 ∨ f = 3 := by omega
  rcases this with e | e | e | e <;> rw [e] <;> decide
section good
variable {f : Int} {p : Nat} (h : FP f p)
include h
theorem products_l0 {a b : List Int} {s m w : Int} (hm : 0 ≤ m) {u v x y : List Int} (hu : u = vals p w (shf s a) 32) (hv : v = vals p w (shf s b) 32) (hx : x = vals p w (shf s (nrm p (pmul a b))) 32) (hy : y = vals p w (shf s (nrm p (padd (nrm p (psc m a)) b))) 32) : ∀ (d i : Nat), i + d = 32 →
    Ev (fun K => attestorlaw04_TransformProducts.l0 K m f u v x y i) true := by
  have lu : u.length = 32 := by rw [hu, vals_length]
  have lv : v.length = 32 := by rw [hv, vals_length]
  have lx : x.length = 32 := by rw [hx, vals_length]
  have ly : y.length = 32 := by rw [hy, vals_length]
  have uu : UL u := hu ▸ vals_UL h _ _ _
  have uv : UL v := hv ▸ vals_UL h _ _ _
  intro d
  induction d with
  | zero =>
    intro i hi
    obtain ⟨K1, k1⟩ := Ev.get s_works
    refine Ev.mks K1 fun K hK => ?_
    rw [attestorlaw04_TransformProducts.l0, if_neg (by omega), k1 K hK, Option.bind_some]
  | succ d ih =>
    intro i hi
    have hii : i < 32 := by omega
    have e1 : co x i = co u i * co v i % p := by
      rw [hx, hu, hv, co_vals hii, co_vals hii, co_vals hii, ev_shf, ev_shf, ev_shf]
      refine Cg.mod_eq (((nrm_eqp p _).ev _).trans ?_)
      rw [ev_pmul]
      exact (Cg.mod _ _).symm.mul (Cg.mod _ _).symm
    have e2 : co y i = (co u i * m % p + co v i) % p := by
      rw [hy, hu, hv, co_vals hii, co_vals hii, co_vals hii, ev_shf, ev_shf, ev_shf]
      refine Cg.mod_eq (((nrm_eqp p _).ev _).trans ?_)
      rw [ev_padd]
      refine (((nrm_eqp p _).ev _).trans ?_).add (Cg.mod _ _).symm
      rw [ev_psc, Int.mul_comm]
      exact ((Cg.mod _ _).symm.mul (Cg.refl _ _)).trans (Cg.mod _ _).symm
    obtain ⟨K1, k1⟩ := Ev.get (ih (i + 1) (by omega))
    refine Ev.mk (K1 + 2) fun K hK => ?_
    obtain ⟨K, rfl⟩ : ∃ K', K = K' + 1 + 1 := ⟨K - 2, by omega⟩
    rw [attestorlaw04_TransformProducts.l0, if_pos (by omega), attestorlaw04_TransformProducts.j4, if_pos (Int.natCast_nonneg _), if_pos (by omega), if_pos (by omega), if_pos (by omega), rd_nat, rd_nat, rd_nat, rd_nat, s_Mul h (U.co uu i).1 (U.co uv i).1, Option.bind_some, if_pos e1, if_pos (by omega), s_Mul h (U.co uu i).1 hm, Option.bind_some, s_Add h (h.mod _).1 (U.co uv i).1, Option.bind_some, if_pos e2, w64_succ (by omega)]
    exact k1 K (by omega)
theorem products_j0 {a b : List Int} (na : a.length ≤ 14) (nb : b.length ≤ 14) (ua : UL a) (ub : UL b) {m s : Int} (hm : 0 ≤ m) (hs : 0 ≤ s) (h0 : s % p ≠ 0) : Ev (fun K => attestorlaw04_TransformProducts.j0 K a b m s f) true := by
  have h5 := gr_five h
  have n1 := nrm_length_le p a
  have n2 := nrm_length_le p b
  have n3 := nrm_deg h.pos (Deg.pmul (n := b.length) ((Deg.len p b).mono (by omega)) (Deg.len p a))
  have n4 := nrm_length_le p (psc m a)
  have n5 := nrm_length_le p (padd (nrm p (psc m a)) b)
  have n6 : (psc m a).length = a.length := by simp [psc]
  rw [padd_length] at n5
  have hMul : Ev (fun K => transform_Multiply.f K f a b) (nrm p (pmul a b), 0) := by
    by_cases hz : (nrm p a).length = 0 ∨ (nrm p b).length = 0
    · have e : nrm p (pmul a b) = [] := by
        rw [← nrm_pmul_nrm]
        refine nrm_eq_nil.2 ?_
        rcases hz with q | q
        · rw [List.length_eq_zero_iff.1 q]; exact fun i => by simp [pmul]; exact Cg.refl _ _
        · rw [List.length_eq_zero_iff.1 q]; exact pmul_nil_right _ _ (fun i => Cg.refl _ _)
      rw [e]
      exact Multiply_none h (by omega) (by omega) ua ub hz
    · obtain ⟨i, hi⟩ : ∃ m, (nrm p a).length = m + 1 := ⟨(nrm p a).length - 1, by omega⟩
      obtain ⟨j, hj⟩ : ∃ n, (nrm p b).length = n + 1 := ⟨(nrm p b).length - 1, by omega⟩
      have := Multiply_some h (by omega) (by omega) ua ub hi hj
      have h32 := Nat.pow_le_pow_right (n := 2) (by omega) (show 5 ≤ (gr f).toNat by omega)
      rwa [if_neg (by omega)] at this
  obtain ⟨P, hP⟩ : ∃ P, P = nrm p (pmul a b) := ⟨_, rfl⟩
  rw [← hP] at n3 hMul
  have uP : UL P := hP ▸ nrm_UL h.o _
  have lP := nrm_length_le p P
  have V : ∀ {l : List Int}, l.length ≤ 32 → UL l → Ev (fun K => transform_Values.f K f 5 s l) (vals p (wr f p 5) (shf s l) 32, 0) := fun {l} hl hu => by
    have := nrm_length_le p l
    exact s_Values h (k := 5) (by omega) (by omega) hs h0 (by omega) hu (show (nrm p l).length ≤ 32 by omega)
  obtain ⟨Q, hQ⟩ : ∃ Q, Q = nrm p (padd (nrm p (psc m a)) b) := ⟨_, rfl⟩
  rw [← hQ] at n5
  have uQ : UL Q := hQ ▸ nrm_UL h.o _
  obtain ⟨K1, k1⟩ := Ev.get hMul
  obtain ⟨K2, k2⟩ := Ev.get (s_MulP h (a := a) (b := b) (by omega) (by omega) ua ub (by omega))
  rw [← hP] at k2
  obtain ⟨K3, k3⟩ := Ev.get (s_same (l := P) (by omega))
  obtain ⟨K4, k4⟩ := Ev.get (V (l := a) (by omega) ua)
  obtain ⟨K5, k5⟩ := Ev.get (V (l := b) (by omega) ub)
  obtain ⟨K6, k6⟩ := Ev.get (V (l := P) (by omega) uP)
  obtain ⟨K7, k7⟩ := Ev.get (V (l := Q) (by omega) uQ)
  obtain ⟨K8, k8⟩ := Ev.get (s_Scale h.o (l := a) (by omega) ua hm)
  obtain ⟨K9, k9⟩ := Ev.get (s_AddP h.o (a := nrm p (psc m a)) (b := b) (by omega) (by omega) (nrm_UL h.o _) ub)
  rw [← hQ] at k9
  obtain ⟨L1, l1⟩ := Ev.get (products_l0 h hm (a := a) (b := b) (s := s) (w := wr f p 5) rfl rfl (x := vals p (wr f p 5) (shf s P) 32) (by rw [hP]) (y := vals p (wr f p 5) (shf s Q) 32) (by rw [hQ]) 32 0 rfl)
  refine Ev.mk (K1 + K2 + K3 + K4 + K5 + K6 + K7 + K8 + K9 + L1 + 3) fun K hK => ?_
  obtain ⟨K, rfl⟩ : ∃ K', K = K' + 1 + 1 + 1 := ⟨K - 3, by omega⟩
  rw [attestorlaw04_TransformProducts.j0, k1 _ (by omega), Option.bind_some, k2 _ (by omega), Option.bind_some, if_pos rfl, if_pos rfl, k3 _ (by omega), Option.bind_some, if_pos rfl, attestorlaw04_TransformProducts.j1, k4 _ (by omega), Option.bind_some, k5 _ (by omega), Option.bind_some, k6 _ (by omega), Option.bind_some, k8 _ (by omega), Option.bind_some, k9 _ (by omega), Option.bind_some, k7 _ (by omega), Option.bind_some, if_pos rfl, if_pos rfl, if_pos rfl, if_pos rfl]
  dsimp only
  have e32 : ((32 : Nat) : Int) = 32 := rfl
  rw [vals_length, vals_length, vals_length, vals_length, if_pos e32, if_pos e32, if_pos e32, if_pos e32, attestorlaw04_TransformProducts.j2]
  exact l1 K (by omega)
end good
theorem TransformProducts : attestorlaw04_TransformProducts.Pure := by
  intro c l1 l2 m s hc _ hy1 hw1 _ hy2 hw2 hm hs
  have hf4 := field4 hc
  obtain ⟨f, hf⟩ : ∃ f, f = wrap64 (Int.tmod c 4) := ⟨_, rfl⟩
  rw [← hf] at hf4
  obtain ⟨p, h⟩ := fp_of hf4.1 hf4.2
  have hm := (U.of_wf hm).1
  have hs := (U.of_wf hs).1
  obtain ⟨a, ha⟩ : ∃ a, a = l1.take 14 := ⟨_, rfl⟩
  obtain ⟨b, hb⟩ : ∃ b, b = l2.take 14 := ⟨_, rfl⟩
  have ua : UL a := ha ▸ (UL.of_wf hw1).take 14
  have ub : UL b := hb ▸ (UL.of_wf hw2).take 14
  have na : a.length ≤ 14 := by rw [ha, List.length_take]; omega
  have nb : b.length ≤ 14 := by rw [hb, List.length_take]; omega
  have o1 := s_own hy1 14
  have o2 := s_own hy2 14
  rw [← ha] at o1
  rw [← hb] at o2
  by_cases q : s % p = 0
  · obtain ⟨K, k⟩ := Ev.ex (products_j0 h na nb ua ub hm (s := 1) (by omega) (one_unit h))
    exact ⟨K, by rw [attestorlaw04_TransformProducts.f, show (14 : Int) = ((14 : Nat) : Int) from rfl, o1, Option.bind_some, o2, Option.bind_some, ← hf, s_Reduce h hs, Option.bind_some, if_pos q]; exact k⟩
  · obtain ⟨K, k⟩ := Ev.ex (products_j0 h na nb ua ub hm (s := s) hs q)
    exact ⟨K, by rw [attestorlaw04_TransformProducts.f, show (14 : Int) = ((14 : Nat) : Int) from rfl, o1, Option.bind_some, o2, Option.bind_some, ← hf, s_Reduce h hs, Option.bind_some, if_neg q]; exact k⟩
end Go.Proofs.YtdjjdlkglinlgaaDoor.Pure
