/- Values respect sums, products, Shift and Split; Join of Split is the polynomial: for every input. -/
import Derived.Test.YtmnahhacobfafaaDoorSpecM
import Derived.Test.YtmnahhacobfafaaDoorSpecU
import Derived.Test.YtmnahhacobfafaaDoorSpecJ
import Derived.Test.YtmnahhacobfafaaDoorSpecS
import Derived.Test.YtmnahhacobfafaaDoorSpecPw
import Derived.Test.YtmnahhacobfafaaDoorSpecW
import Derived.Test.YtmnahhacobfafaaDoorQ17
namespace Go.Proofs.YtmnahhacobfafaaDoor.Pure
open Go.RowKit Go.Proofs.YtmnahhacobfafaaDoor.Q Go.Proofs.YtmnahhacobfafaaDoor.Num Go.Proofs.YtmnahhacobfafaaDoor.Pol Go.Proofs.YtmnahhacobfafaaDoorW.PrintWords Go.Proofs.YtmnahhacobfafaaDoorW.PrintLast Go.Proofs.YtmnahhacobfafaaDoorW.PrintMore

/-- The sum of the first n values. -/
def sm (g : Nat → Int) : Nat → Int
  | 0 => 0
  | n + 1 => sm g n + g n
theorem sm_congr {g g' : Nat → Int} : ∀ {n : Nat}, (∀ i, i < n → g i = g' i) → sm g n = sm g' n
  | 0, _ => rfl
  | n + 1, h => by rw [sm, sm, sm_congr (n := n) fun i hi => h i (by omega), h n (by omega)]
theorem sm_add (g g' : Nat → Int) : ∀ n : Nat, sm (fun i => g i + g' i) n = sm g n + sm g' n
  | 0 => rfl
  | n + 1 => by rw [sm, sm, sm, sm_add g g' n]; omega
theorem sm_split (g : Nat → Int) (a : Nat) : ∀ b : Nat, sm g (a + b) = sm g a + sm (fun i => g (a + i)) b
  | 0 => by simp [sm]
  | b + 1 => by rw [← Nat.add_assoc, sm, sm, sm_split g a b]; omega
theorem ev_sm (x : Int) (l : List Int) : ∀ n : Nat, ev (l.take n) x = sm (fun t => co l t * x ^ t) n
  | 0 => by simp [sm, ev]
  | n + 1 => by rw [ev_take_succ, ev_sm x l n, sm]
theorem ev_eq_sm (x : Int) (l : List Int) {n : Nat} (h : l.length ≤ n) : ev l x = sm (fun t => co l t * x ^ t) n := by
  rw [← ev_sm, List.take_of_length_le h]
theorem sm_rows (x : Int) (l : List Int) (m : Nat) : ∀ M : Nat, sm (fun j => x ^ j * sm (fun i => co l (j + i * m) * (x ^ m) ^ i) M) m = sm (fun t => co l t * x ^ t) (M * m)
  | 0 => by
    rw [Nat.zero_mul]
    have : ∀ n, sm (fun j => x ^ j * sm (fun i => co l (j + i * m) * (x ^ m) ^ i) 0) n = 0 := fun n => by
      induction n with
      | zero => rfl
      | succ n ih => rw [sm, ih]; simp [sm]
    rw [this]; rfl
  | M + 1 => by
    rw [Nat.add_mul, Nat.one_mul, sm_split, ← sm_rows x l m M, ← sm_add]
    refine sm_congr fun j _ => ?_
    rw [sm, Int.mul_add]
    congr 1
    rw [Int.pow_add, ← Int.pow_mul, Nat.mul_comm m M, Nat.add_comm j]
    generalize co l (M * m + j) = u
    generalize x ^ j = v
    generalize x ^ (M * m) = w
    grind
theorem ev_parts (x : Int) (l : List Int) {m : Nat} (hm : 0 < m) : sm (fun j => x ^ j * ev (prt m j l) (x ^ m)) m = ev l x := by
  have h1 : l.length ≤ l.length * m := Nat.le_mul_of_pos_right _ hm
  rw [ev_eq_sm x l h1, ← sm_rows x l m l.length]
  refine sm_congr fun j _ => ?_
  rw [ev_eq_sm (x ^ m) (prt m j l) (n := l.length) (by simp [prt])]
  congr 1
  exact sm_congr fun i _ => by rw [co_prt hm]
theorem ev_nrm_mod (p : Int) (l : List Int) (x : Int) : ev (nrm p l) x % p = ev l x % p := ((nrm_eqp p l).ev x).mod_eq
section good
variable {f : Int} {p : Nat} (h : FP f p)
include h
theorem values_l0 {l : List Int} (hl : l.length ≤ 40) {x : Int} (hx : 0 ≤ x) {m : Nat} (h1 : 0 < m) (hm : m ≤ 64) : ∀ (d j : Nat) (s : Int), j + d = m → s = sm (fun j => x ^ j * ev (prt m j l) (x ^ m)) j % p → Ev (fun k => attestorlaw03_PolyValues.l0 k x f (m : Int) (ev l x % p) (spl p m l) s (x ^ m % p) j) true := by
  intro d
  induction d with
  | zero =>
    intro j s hj hs
    obtain rfl : j = m := by omega
    rw [ev_parts x l h1] at hs
    obtain ⟨K1, k1⟩ := Ev.get s_works
    refine Ev.mks K1 fun k hk => ?_
    rw [attestorlaw03_PolyValues.l0, if_neg (by omega), if_pos hs, k1 k hk, Option.bind_some]
  | succ d ih =>
    intro j s hj hs
    have gj : j < m := by omega
    have lp : (nrm p (prt m j l)).length ≤ 40 := by
      have := nrm_length_le p (prt m j l)
      have e : (prt m j l).length = l.length := by simp [prt]
      omega
    obtain ⟨K1, k1⟩ := Ev.get (s_Pow h hx j (by omega))
    obtain ⟨K2, k2⟩ := Ev.get (s_Eval h.o (l := nrm p (prt m j l)) (by omega) (nrm_UL h.o _) (x := x ^ m % p) (h.mod _).1)
    obtain ⟨K3, k3⟩ := Ev.get (ih (j + 1) ((s + (x ^ j % p * (ev (nrm p (prt m j l)) (x ^ m % p) % p)) % p) % p) (by omega) (by
      rw [hs, sm]
      refine Cg.mod_eq ((Cg.mod _ _).add ((Cg.mod _ _).trans ((Cg.mod _ _).mul ((Cg.mod _ _).trans ?_))))
      exact ((nrm_eqp p _).ev _).trans (ev_arg (Cg.mod _ _) _)))
    have s0 : 0 ≤ s := by rw [hs]; exact (h.mod _).1
    refine Ev.mks (K1 + K2 + K3 + 1) fun k hk => ?_
    obtain ⟨k, rfl⟩ : ∃ k', k = k' + 1 := ⟨k - 1, by omega⟩
    rw [attestorlaw03_PolyValues.l0, if_pos (Int.ofNat_lt.2 gj), attestorlaw03_PolyValues.j4, wu64 (by omega) (by omega), k1 k (by omega), Option.bind_some, if_pos (Int.natCast_nonneg _), spl_length, if_pos (Int.ofNat_lt.2 gj), rd_L1_nat, lc_spl gj, k2 k (by omega), Option.bind_some, s_Mul h (h.mod _).1 (h.mod _).1, Option.bind_some, s_Add h s0 (h.mod _).1, Option.bind_some, w64_succ (by omega)]
    exact k3 k (by omega)
theorem join_split {l : List Int} (hl : l.length ≤ 40) {m : Nat} (h1 : 0 < m) (hm : m ≤ 64) : Ev (fun k => poly_Join.f k f (spl p m l)) (nrm p l) := by
  have hx : Rows0 (spl p m l) := by
    refine ⟨by rw [spl_length]; omega, fun r => ?_, fun r => ?_⟩
    · rcases Nat.lt_or_ge r m with q | q
      · rw [lc_spl q]
        have := nrm_length_le p (prt m r l)
        have e : (prt m r l).length = l.length := by simp [prt]
        omega
      · rw [lc_over (by rw [spl_length]; exact q)]; simp
    · rcases Nat.lt_or_ge r m with q | q
      · rw [lc_spl q]; exact nrm_UL h.o _
      · rw [lc_over (by rw [spl_length]; exact q)]; exact UL.nil
  have key := s_Join h.o hx (O := l.map (· % (p : Int))) (fun t => by
    rw [co_map_mod, spl_length, jc, lc_spl (Nat.mod_lt t h1), nrm_co, co_prt h1, Nat.add_comm, idx_of])
  rw [nrm_map_mod] at key
  exact key
end good

set_option maxHeartbeats 1000000 in
theorem PolyValues : attestorlaw03_PolyValues.Pure := by
  intro c n l1 l2 s x hc hn _ hy1 hw1 _ hy2 hw2 hs hx
  obtain ⟨f, hf⟩ : ∃ f, f = wrap64 (Int.tmod c 4) := ⟨_, rfl⟩
  have hf4 := field4 hc
  rw [← hf] at hf4
  obtain ⟨p, h⟩ := fp_of hf4.1 hf4.2
  obtain ⟨m, hm, h1, h64⟩ : ∃ m : Nat, wrap64 (1 + wrap64 (Int.tmod n 64)) = (m : Int) ∧ 0 < m ∧ m ≤ 64 := by
    simp [Lit.wf, IntKind.min, IntKind.max, IntKind.bits, IntKind.signed] at hn
    rw [tmod_nn (by omega), w64 (n := n % 64) (by omega) (by omega), w64 (by omega) (by omega)]
    exact ⟨(1 + n % 64).toNat, by omega, by omega, by omega⟩
  have hs := (U.of_wf hs).1
  have hx := (U.of_wf hx).1
  obtain ⟨a, ha⟩ : ∃ a, a = l1.take 40 := ⟨_, rfl⟩
  obtain ⟨b, hb⟩ : ∃ b, b = l2.take 40 := ⟨_, rfl⟩
  have ua : UL a := ha ▸ (UL.of_wf hw1).take 40
  have ub : UL b := hb ▸ (UL.of_wf hw2).take 40
  have na : a.length ≤ 40 := by rw [ha, List.length_take]; omega
  have nb : b.length ≤ 40 := by rw [hb, List.length_take]; omega
  have o1 := s_own hy1 40
  have o2 := s_own hy2 40
  rw [← ha] at o1
  rw [← hb] at o2
  have n1 := nrm_length_le p a
  have n6 := nrm_length_le p b
  have n2 := nrm_length_le p (padd a b)
  have n3 := nrm_length_le p (psub a b)
  have n4 := nrm_length_le p (psc s a)
  have n5 := nrm_length_le p (shf s a)
  have n7 := nrm_deg h.pos (Deg.pmul (n := b.length) ((Deg.len p b).mono (by omega)) (Deg.len p a))
  rw [padd_length] at n2
  rw [psub, padd_length, psc, List.length_map, ← psc, ← psub] at n3
  rw [psc, List.length_map, ← psc] at n4
  rw [shf_length] at n5
  obtain ⟨K1, k1⟩ := Ev.get (s_MulP h (a := a) (b := b) (by omega) (by omega) ua ub (by omega))
  obtain ⟨K2, k2⟩ := Ev.get (s_Eval h.o (l := a) (by omega) ua hx)
  obtain ⟨K3, k3⟩ := Ev.get (s_Eval h.o (l := b) (by omega) ub hx)
  obtain ⟨K4, k4⟩ := Ev.get (s_Eval h.o (l := nrm p (pmul a b)) (by omega) (nrm_UL h.o _) hx)
  obtain ⟨K5, k5⟩ := Ev.get (s_AddP h.o (a := a) (b := b) (by omega) (by omega) ua ub)
  obtain ⟨K6, k6⟩ := Ev.get (s_Eval h.o (l := nrm p (padd a b)) (by omega) (nrm_UL h.o _) hx)
  obtain ⟨K7, k7⟩ := Ev.get (s_SubP h.o (a := a) (b := b) (by omega) (by omega) ua ub)
  obtain ⟨K8, k8⟩ := Ev.get (s_Eval h.o (l := nrm p (psub a b)) (by omega) (nrm_UL h.o _) hx)
  obtain ⟨K9, k9⟩ := Ev.get (s_Scale h.o (l := a) (by omega) ua hs)
  obtain ⟨L1, j1⟩ := Ev.get (s_Eval h.o (l := nrm p (psc s a)) (by omega) (nrm_UL h.o _) hx)
  obtain ⟨L2, j2⟩ := Ev.get (s_Shift h.o (l := a) (by omega) ua hs)
  obtain ⟨L3, j3⟩ := Ev.get (s_Eval h.o (l := nrm p (shf s a)) (by omega) (nrm_UL h.o _) hx)
  obtain ⟨L4, j4⟩ := Ev.get (s_Eval h.o (l := a) (by omega) ua (x := s * x % p) (h.mod _).1)
  obtain ⟨L5, j5⟩ := Ev.get (s_Split h (l := a) (by omega) ua h1 h64)
  obtain ⟨L6, j6⟩ := Ev.get (join_split h na h1 h64)
  obtain ⟨L7, j7⟩ := Ev.get (s_Normal h.o (l := a) (by omega) ua)
  obtain ⟨L8, j8⟩ := Ev.get (s_same (l := nrm p a) (by omega))
  obtain ⟨L9, j9⟩ := Ev.get (s_Pow h hx m (by omega))
  obtain ⟨M1, i1⟩ := Ev.get (values_l0 h na hx h1 h64 m 0 0 (by omega) rfl)
  have e1 : ev (nrm p (pmul a b)) x % p = (ev a x % p * (ev b x % p)) % p := by
    rw [ev_nrm_mod, ev_pmul]; exact Cg.mod_eq ((Cg.mod _ _).symm.mul (Cg.mod _ _).symm)
  have e2 : ev (nrm p (padd a b)) x % p = (ev a x % p + ev b x % p) % p := by
    rw [ev_nrm_mod, ev_padd]; exact Cg.mod_eq ((Cg.mod _ _).symm.add (Cg.mod _ _).symm)
  have e3 : ev (nrm p (psub a b)) x % p = (ev a x % p - ev b x % p) % p := by
    rw [ev_nrm_mod, ev_psub]; exact Cg.mod_eq ((Cg.mod _ _).symm.sub (Cg.mod _ _).symm)
  have e4 : ev (nrm p (psc s a)) x % p = (ev a x % p * s) % p := by
    rw [ev_nrm_mod, ev_psc, Int.mul_comm s]; exact Cg.mod_eq ((Cg.mod _ _).symm.mul (Cg.refl _ _))
  have e5 : ev (nrm p (shf s a)) x % p = ev a (s * x % p) % p := by
    rw [ev_nrm_mod, ev_shf]; exact Cg.mod_eq (ev_arg (Cg.mod _ _).symm a)
  have J2 : Ev (fun k => attestorlaw03_PolyValues.j2 k x f (m : Int) (ev a x % p) (spl p m a)) true := by
    refine Ev.mks (L9 + M1) fun k hk => ?_
    rw [attestorlaw03_PolyValues.j2, wu64 (by omega) (by omega), j9 k (by omega), Option.bind_some]
    exact i1 k (by omega)
  obtain ⟨M2, i2⟩ := Ev.get J2
  have J1 : Ev (fun k => attestorlaw03_PolyValues.j1 k a x f (m : Int) (ev a x % p)) true := by
    refine Ev.mks (L5 + L6 + L7 + L8 + M2) fun k hk => ?_
    rw [attestorlaw03_PolyValues.j1, j5 k (by omega), Option.bind_some, spl_length, if_pos rfl, j6 k (by omega), Option.bind_some, j7 k (by omega), Option.bind_some, j8 k (by omega), Option.bind_some, if_pos rfl]
    exact i2 k (by omega)
  obtain ⟨M3, i3⟩ := Ev.get J1
  have J0 : Ev (fun k => attestorlaw03_PolyValues.j0 k a s x f (m : Int) (ev a x % p)) true := by
    refine Ev.mks (L2 + L3 + L4 + M3) fun k hk => ?_
    rw [attestorlaw03_PolyValues.j0, j2 k (by omega), Option.bind_some, j3 k (by omega), Option.bind_some, s_Mul h hs hx, Option.bind_some, j4 k (by omega), Option.bind_some, if_pos e5]
    exact i3 k (by omega)
  obtain ⟨M4, i4⟩ := Ev.get J0
  refine Ev.ex (F := fun k => attestorlaw03_PolyValues.f k c n l1 l2 s x) (Ev.mk (K1 + K2 + K3 + K4 + K5 + K6 + K7 + K8 + K9 + L1 + M4) fun k hk => ?_)
  have ma := (h.mod (ev a x)).1
  have mb := (h.mod (ev b x)).1
  rw [attestorlaw03_PolyValues.f, show (40 : Int) = ((40 : Nat) : Int) from rfl, o1, Option.bind_some, o2, Option.bind_some, ← hf, hm, k1 k (by omega), Option.bind_some, k2 k (by omega), Option.bind_some, k3 k (by omega), Option.bind_some, if_pos rfl, k4 k (by omega), Option.bind_some, s_Mul h ma mb, Option.bind_some, if_pos e1,
    k5 k (by omega), Option.bind_some, k6 k (by omega), Option.bind_some, s_Add h ma mb, Option.bind_some, if_pos e2, k7 k (by omega), Option.bind_some, k8 k (by omega), Option.bind_some, s_Sub h ma mb, Option.bind_some, if_pos e3, k9 k (by omega), Option.bind_some, j1 k (by omega), Option.bind_some, s_Mul h ma hs, Option.bind_some, if_pos e4]
  exact i4 k (by omega)
end Go.Proofs.YtmnahhacobfafaaDoor.Pure
