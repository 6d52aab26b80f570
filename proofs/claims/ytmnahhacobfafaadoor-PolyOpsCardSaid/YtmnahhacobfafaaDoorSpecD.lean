/- What the program's Divide answers. -/
import Derived.Test.YtmnahhacobfafaaDoorSpecM
import Derived.Test.YtmnahhacobfafaaDoorSpecS
import Derived.Test.YtmnahhacobfafaaDoorQ3
namespace Go.Proofs.YtmnahhacobfafaaDoor.Pure
open Go.RowKit Go.Proofs.YtmnahhacobfafaaDoor.Q Go.Proofs.YtmnahhacobfafaaDoor.Num Go.Proofs.YtmnahhacobfafaaDoor.Pol Go.Proofs.YtmnahhacobfafaaDoorW.PrintWords Go.Proofs.YtmnahhacobfafaaDoorW.PrintLast Go.Proofs.YtmnahhacobfafaaDoorW.PrintMore

section good
variable {f : Int} {p : Nat} (h : FP f p)
include h
/-- The inner loop: the multiple of the divisor is taken off. -/
theorem div_in {b q' x : List Int} {iv c lq : Int} {d i : Nat} (hbl : b.length ≤ 1000000) (rb : Rg p b) (hxl : x.length ≤ 1000000) (hdx : d + b.length ≤ x.length) (mc : 0 ≤ c) :
    ∀ (e j : Nat) (y : List Int), j + e = b.length → y.length = x.length → Rg p y → (∀ t, Cg p (co x t - co (sh d (psc c b)) t) (co y t - co (sh (d + j) (psc c (b.drop j))) t)) →
    ∃ y' : List Int, y'.length = x.length ∧ Rg p y' ∧ (∀ t, Cg p (co y' t) (co x t - co (sh d (psc c b)) t)) ∧ ∀ v, Ev (fun k => poly_Divide.l0 k f b q' y' iv lq (wrap64 ((i : Int) + 1))) v → Ev (fun k => poly_Divide.l1 k f b q' y iv (d : Int) c lq (i : Int) b (b.length : Int) (j : Int)) v := by
  intro e
  induction e with
  | zero =>
    intro j y hj hy ry hc2
    refine ⟨y, hy, ry, fun t => ?_, fun v hv => Ev.succ (fun k => ?_) hv⟩
    · have := hc2 t
      rw [List.drop_of_length_le (l := b) (i := j) (Nat.le_of_eq hj.symm)] at this
      have e0 : co (sh (d + j) (psc c [])) t = 0 := by rw [co_sh]; split <;> simp [psc]
      rw [e0, Int.sub_zero] at this
      exact this.symm
    · have g : ¬ (j : Int) < (b.length : Int) := by clear hc2; omega
      rw [poly_Divide.l1, if_neg g]
  | succ e ihe =>
    intro j y hj hy ry hc2
    have g1 : j < b.length := by clear hc2 ihe; omega
    have g2 : d + j < y.length := by clear hc2 ihe; omega
    have ewj : wrap64 ((d : Int) + (j : Int)) = ((d + j : Nat) : Int) := by clear hc2 ihe; rw [w64 (by omega) (by omega)]; omega
    have ewn : wrap64 ((j : Int) + 1) = ((j + 1 : Nat) : Int) := by clear hc2 ihe; rw [w64 (by omega) (by omega)]; omega
    have hn : ∀ t, Cg p (co x t - co (sh d (psc c b)) t) (co (y.set (d + j) ((co y (d + j) - (c * co b j) % p) % p)) t - co (sh (d + (j + 1)) (psc c (b.drop (j + 1)))) t) := fun t => by
      refine (hc2 t).trans ?_
      rw [co_sh_term (d + j) c b j g1 t, co_set g2, ← Nat.add_assoc]
      by_cases et : t = d + j
      · subst et
        rw [if_pos rfl, if_pos rfl]
        have c1 : Cg p ((co y (d + j) - c * co b j % p) % p) (co y (d + j) - c * co b j) := (Cg.mod _ _).trans ((Cg.refl _ _).sub (Cg.mod _ _))
        exact (Cg.of_eq (by generalize co (sh (d + j + 1) _) _ = u; generalize c * co b j = v; generalize co y (d + j) = z; clear c1 hc2 ihe; grind)).trans (c1.symm.sub (Cg.refl _ _))
      · rw [if_neg et, if_neg et, Int.zero_add]; exact Cg.refl _ _
    obtain ⟨y', h1, h2, h3, h4⟩ := ihe (j + 1) _ (by clear hc2 hn; omega) (by rw [List.length_set]; exact hy) (ry.set (h.mod _)) hn
    refine ⟨y', h1, h2, h3, fun v hv => Ev.succ (fun k => ?_) (h4 v hv)⟩
    rw [poly_Divide.l1, if_pos (Int.ofNat_lt.2 g1), if_pos (Int.natCast_nonneg _), if_pos (Int.ofNat_lt.2 g1), ewj, if_pos (Int.natCast_nonneg _), if_pos (Int.ofNat_lt.2 g2), rd_nat, rd_nat, s_Mul h mc (rb j).1, Option.bind_some, s_Sub h (ry _).1 (mod_nonneg h.pos _), Option.bind_some, ewn, Int.toNat_natCast]

theorem div_l {a b : List Int} {n : Nat} (hb : b.length = n + 1) (hbl : b.length ≤ 1000000) (rb : Rg p b) (hlead : ¬ Cg p (co b n) 0) {iv : Int} (hiv : iv = inv p (co b n)) :
    ∀ (d i : Nat) (q x : List Int), i + d = q.length → x.length = q.length + n → x.length ≤ 1000000 → Rg p q → Rg p x → (∀ j, j + i < q.length → co q j = 0) → Deg p x (n + d) → EqP p (padd (pmul q b) x) a →
    ∃ Q R, Ev (fun k => poly_Divide.l0 k f b q x iv (q.length : Int) i) (nrm p Q, nrm p R, 0) ∧ Quot p a b Q R n ∧ Q.length = q.length := by
  intro d
  induction d with
  | zero =>
    intro i q x hi hx hxl rq rx hz hd he
    refine ⟨q, x, ?_, ⟨he, by simpa using hd⟩, rfl⟩
    have s1 := s_trim (l := q) (by omega)
    have s2 := s_trim (l := x) (by omega)
    rw [trm_rg rq] at s1
    rw [trm_rg rx] at s2
    have key : Ev (fun k => (poly_trim.f k q).bind fun t314 => ((poly_trim.f k x).bind fun t317 => (some (t314, t317, (0 : Int))))) (nrm p q, nrm p x, 0) := s1.bind (s2.bind (G := fun _ t317 => some (nrm p q, t317, (0 : Int))) (Ev.all fun _ => rfl))
    have g : ¬ (i : Int) < (q.length : Int) := by clear he hd hz; omega
    refine Ev.succ (fun k => ?_) key
    rw [poly_Divide.l0, if_neg g]
  | succ d ih =>
    intro i q x hi hx hxl rq rx hz hd he
    have hat : wrap64 (wrap64 ((q.length : Int) - 1) - (i : Int)) = (d : Int) := by
      clear hz hd he ih hlead hiv; rw [w64 (n := (q.length : Int) - 1) (by omega) (by omega), w64 (by omega) (by omega)]; omega
    have htop : wrap64 (wrap64 ((d : Int) + (b.length : Int)) - 1) = ((d + n : Nat) : Int) := by
      clear hz hd he ih hlead hiv; rw [w64 (n := (d : Int) + (b.length : Int)) (by omega) (by omega), w64 (by omega) (by omega)]; omega
    have hwi : wrap64 ((i : Int) + 1) = ((i + 1 : Nat) : Int) := by
      clear hz hd he ih hlead hiv; rw [w64 (by omega) (by omega)]; omega
    have g1 : i < q.length := by clear hz hd he ih hlead hiv; omega
    have g2 : d + n < x.length := by clear hz hd he ih hlead hiv; omega
    have g3 : d < q.length := by clear hz hd he ih hlead hiv; omega
    have g4 : d + b.length ≤ x.length := by clear hz hd he ih hlead hiv; omega
    have g5 : i + 1 + d = q.length := by clear hz hd he ih hlead hiv; omega
    obtain ⟨c, hc⟩ : ∃ c, c = (co x (d + n) * iv) % p := ⟨_, rfl⟩
    have mc : 0 ≤ c ∧ c < p := by rw [hc]; exact h.mod _
    have hiv0 : 0 ≤ iv := by rw [hiv]; exact inv_nn h.pr _
    have hcl : Cg p (c * co b n) (co x (d + n)) := by
      have h1 : Cg p c (co x (d + n) * iv) := by rw [hc]; exact Cg.mod _ _
      have h2 := inv_spec h.pr hlead
      rw [← hiv] at h2
      have h3 := (Cg.refl p (co x (d + n))).mul h2
      refine (h1.mul (Cg.refl _ _)).trans ((Cg.of_eq ?_).trans (h3.trans (Cg.of_eq (Int.mul_one _))))
      rw [Int.mul_assoc, Int.mul_comm iv]
    have h0 : co q d = 0 := hz d (by clear hz hd he ih hlead hiv hcl; omega)
    obtain ⟨y, hy, ry, hy2, hrun⟩ := div_in h (q' := q.set d c) (iv := iv) (lq := (q.length : Int)) (i := i) hbl rb hxl g4 mc.1 b.length 0 x (Nat.zero_add _) rfl rx (fun t => by rw [Nat.add_zero, List.drop_zero]; exact Cg.refl _ _)
    have hd' : Deg p y (n + d) := fun t ht => by
      refine (hy2 t).trans ?_
      rw [co_sh, if_neg (by clear hz hd he ih hlead hiv hcl hy2 hrun; omega), co_psc]
      by_cases et : t = n + d
      · subst et
        rw [Nat.add_sub_cancel, Nat.add_comm n d]
        exact ((Cg.refl p (co x (d + n))).sub hcl).trans (Cg.of_eq (Int.sub_self _))
      · rw [co_over (l := b) (by clear hz hd he ih hlead hiv hcl hy2 hrun; omega), Int.mul_zero, Int.sub_zero]
        exact hd t (by clear hz hd he ih hlead hiv hcl hy2 hrun; omega)
    have he' := div_step he g3 h0 hy2
    obtain ⟨Q, R, h1, h2, h3⟩ := ih (i + 1) (q.set d c) y (by rw [List.length_set]; exact g5) (by rw [List.length_set, hy]; exact hx) (hy ▸ hxl) (rq.set mc) ry (fun j2 hj2 => by
      rw [List.length_set] at hj2
      rw [co_set_ne g3 _ (by clear hz hd he ih hlead hiv hcl hy2 hrun hd' he'; omega)]
      exact hz j2 (by clear hz hd he ih hlead hiv hcl hy2 hrun hd' he'; omega)) hd' he'
    rw [List.length_set] at h1 h3
    rw [← hwi] at h1
    refine ⟨Q, R, Ev.succ (fun k => ?_) (hrun _ h1), h2, h3⟩
    rw [poly_Divide.l0, if_pos (Int.ofNat_lt.2 g1), hat, htop, if_pos (Int.natCast_nonneg _), if_pos (Int.ofNat_lt.2 g2), rd_nat, s_Mul h (rx _).1 hiv0, Option.bind_some, if_pos (Int.natCast_nonneg _), if_pos (Int.ofNat_lt.2 g3), Int.toNat_natCast, ← hc]
    rfl
theorem s_Divide {a b : List Int} (ha : a.length ≤ 500000) (hb : b.length ≤ 500000) (ua : UL a) (ub : UL b) {n : Nat} (hn : (nrm p b).length = n + 1) :
    ∃ Q R, Ev (fun k => poly_Divide.f k f a b) (nrm p Q, nrm p R, 0) ∧ Quot p a b Q R n ∧ Q.length ≤ a.length := by
  have la := nrm_length_le p a
  have lb := nrm_length_le p b
  have hlead : ¬ Cg p (co (nrm p b) n) 0 := fun c => by
    have h1 := (nrm_nf h.pos b).lz n hn
    have h2 := nrm_rg h.pos b n
    exact h1 (c.uniq h2.1 h2.2 (Int.le_refl _) h.pos)
  have conv : ∀ Q R, Quot p (nrm p a) (nrm p b) Q R n → Quot p a b Q R n := fun Q R q => ⟨(((nrm_eqp p b).symm.pmul_right Q).padd (EqP.refl p R)).trans (q.eq.trans (nrm_eqp p a)), q.deg⟩
  have sN := s_Normal h.o (by omega) ub
  have sA := s_Normal h.o (by omega) ua
  by_cases hs : (nrm p a).length < n + 1
  · refine ⟨[], nrm p a, ?_, ?_, by simp⟩
    · rw [nrm_nrm, nrm_nil]
      have key := sN.bind (G := fun k t303 => (if (t303.length : Int) = 0 then (some (([] : List Int), ([] : List Int), (2 : Int))) else ((poly_Normal.f k f a).bind fun t306 => (if (t306.length : Int) < (t303.length : Int) then (some (([] : List Int), t306, 0)) else (if 0 ≤ (wrap64 ((t303.length : Int) - 1)) then (if (wrap64 ((t303.length : Int) - 1)) < (t303.length : Int) then ((field_Inv.f k f (rd t303 (wrap64 ((t303.length : Int) - 1)))).bind fun t310 => (if 0 ≤ (wrap64 ((wrap64 ((t306.length : Int) - (t303.length : Int))) + 1)) then (if (wrap64 ((wrap64 ((t306.length : Int) - (t303.length : Int))) + 1) : Int).toNat ≤ 35184372088832 then ((some (List.replicate (wrap64 ((wrap64 ((t306.length : Int) - (t303.length : Int))) + 1) : Int).toNat 0 : List Int)).bind fun y311 => (poly_Divide.l0 k f t303 y311 t306 t310 (y311.length : Int) 0)) else (none)) else (none))) else (none)) else (none))))))
        (b := ([], nrm p a, 0)) (Ev.congr (fun k => by rw [if_neg (by omega)]) (sA.bind (Ev.all fun k => by rw [if_pos (by omega)])))
      refine Ev.congr (fun k => ?_) key
      rw [poly_Divide.f, s_Valid h, Option.bind_some, if_pos rfl]
    · exact conv _ _ ⟨fun t => by rw [co_padd]; simp [pmul]; exact Cg.refl _ _, (Deg.len p _).mono (by omega)⟩
  · obtain ⟨d, hd⟩ : ∃ d, (nrm p a).length = n + d := ⟨(nrm p a).length - n, by omega⟩
    have ew1 : wrap64 (((nrm p b).length : Int) - 1) = (n : Int) := by rw [w64 (by omega) (by omega)]; omega
    have ew2 : wrap64 (wrap64 (((nrm p a).length : Int) - ((nrm p b).length : Int)) + 1) = (d : Int) := by
      rw [w64 (n := ((nrm p a).length : Int) - ((nrm p b).length : Int)) (by omega) (by omega), w64 (by omega) (by omega)]; omega
    obtain ⟨Q, R, h1, h2, h3⟩ := div_l h (a := nrm p a) hn (by omega) (nrm_rg h.pos b) hlead rfl d 0 (List.replicate d 0) (nrm p a) (by simp) (by simp; omega) (by omega) (Rg.zeros h.pos d) (nrm_rg h.pos a) (fun j _ => co_replicate _ _) ((Deg.len p _).mono (by omega)) (fun t => by
      rw [co_padd]
      have hz : EqP p (List.replicate d 0) [] := fun i => by rw [co_replicate, co_nil]; exact Cg.refl _ _
      have := (pmul_zero_left (b := nrm p b) hz t).add (Cg.refl p (co (nrm p a) t))
      simpa using this)
    refine ⟨Q, R, ?_, conv _ _ h2, by rw [h3, List.length_replicate]; omega⟩
    have sI := s_Inv h (a := co (nrm p b) n) (nrm_rg h.pos b n).1
    rw [List.length_replicate] at h1
    have key := sN.bind (G := fun k t303 => (if (t303.length : Int) = 0 then (some (([] : List Int), ([] : List Int), (2 : Int))) else ((poly_Normal.f k f a).bind fun t306 => (if (t306.length : Int) < (t303.length : Int) then (some (([] : List Int), t306, 0)) else (if 0 ≤ (wrap64 ((t303.length : Int) - 1)) then (if (wrap64 ((t303.length : Int) - 1)) < (t303.length : Int) then ((field_Inv.f k f (rd t303 (wrap64 ((t303.length : Int) - 1)))).bind fun t310 => (if 0 ≤ (wrap64 ((wrap64 ((t306.length : Int) - (t303.length : Int))) + 1)) then (if (wrap64 ((wrap64 ((t306.length : Int) - (t303.length : Int))) + 1) : Int).toNat ≤ 35184372088832 then ((some (List.replicate (wrap64 ((wrap64 ((t306.length : Int) - (t303.length : Int))) + 1) : Int).toNat 0 : List Int)).bind fun y311 => (poly_Divide.l0 k f t303 y311 t306 t310 (y311.length : Int) 0)) else (none)) else (none))) else (none)) else (none))))))
      (b := (nrm p Q, nrm p R, 0)) (Ev.congr (fun k => by rw [if_neg (by omega)]) (sA.bind (Ev.congr (fun k => by rw [if_neg (by omega), ew1, if_pos (by omega), if_pos (by omega), rd_nat]) (sI.bind (Ev.congr (fun k => by rw [ew2, if_pos (by omega), if_pos (by omega), Int.toNat_natCast, Option.bind_some, List.length_replicate]; rfl) h1)))))
    refine Ev.congr (fun k => ?_) key
    rw [poly_Divide.f, s_Valid h, Option.bind_some, if_pos rfl]
end good
end Go.Proofs.YtmnahhacobfafaaDoor.Pure
