/- What the reference's Degree, Sub, Shift and Divide answer. -/
import Derived.Test.YtmnahhacobfafaaDoorSpecR
import Derived.Test.YtmnahhacobfafaaDoorQ11
namespace Go.Proofs.YtmnahhacobfafaaDoor.Pure
open Go.RowKit Go.Proofs.YtmnahhacobfafaaDoor.Q Go.Proofs.YtmnahhacobfafaaDoor.Num Go.Proofs.YtmnahhacobfafaaDoor.Pol Go.Proofs.YtmnahhacobfafaaDoorW.PrintWords Go.Proofs.YtmnahhacobfafaaDoorW.PrintLast Go.Proofs.YtmnahhacobfafaaDoorW.PrintMore

section any
variable {f : Int} {p : Nat} (h : FO f p)
include h
theorem r_Degree {l : List Int} (hl : l.length ≤ 1000000) (hu : UL l) : Ev (fun k => attestorref03_Degree.f k f l) (((nrm p l).length : Int) - 1) := by
  have ln := nrm_length_le p l
  obtain ⟨K1, h1⟩ := Ev.get (r_Normal h hl hu)
  refine Ev.mk K1 fun k hk => ?_
  rw [attestorref03_Degree.f, h1 k hk, Option.bind_some, w64 (by omega) (by omega)]
theorem r_SubP {a b : List Int} (ha : a.length ≤ 500000) (hb : b.length ≤ 500000) (ua : UL a) (ub : UL b) : Ev (fun k => attestorref03_Sub.f k f a b) (nrm p (psub a b)) := by
  have s1 := r_Scale h (by omega) ub (h.mod (-1)).1
  have l1 := nrm_length_le p (psc ((-1) % p) b)
  have l2 : (psc ((-1) % p) b).length = b.length := by simp [psc]
  have s2 := r_AddP h (b := nrm p (psc ((-1) % p) b)) ha (by omega) ua (nrm_UL h _)
  have e : nrm p (padd a (nrm p (psc ((-1) % p) b))) = nrm p (psub a b) := nrm_congr ((EqP.refl _ a).padd ((nrm_eqp p _).trans (EqP.psc (Cg.mod _ _) (EqP.refl _ b))))
  rw [e] at s2
  obtain ⟨K1, h1⟩ := Ev.get (s1)
  obtain ⟨K2, h2⟩ := Ev.get (s2)
  refine Ev.mk (K1 + K2) fun k hk => ?_
  have := h1 k (by omega)
  have := h2 k (by omega)
  simp only [attestorref03_Sub.f, ro_Neg h (show (0 : Int) ≤ 1 by omega), Option.bind_some, *]
theorem rshift_l {l : List Int} (hl : l.length ≤ 1000000) (hu : UL l) {s : Int} (hs : 0 ≤ s) : ∀ (d i : Nat), i + d = l.length → Ev (fun k => attestorref03_Shift.l0 k f l s (((shf s l).take i).map (· % (p : Int))) i) (nrm p (shf s l)) := by
  intro d
  induction d with
  | zero =>
    intro i hi
    have e : (shf s l).take i = shf s l := List.take_of_length_le (by rw [shf_length]; omega)
    rw [e]
    have key := r_Normal h (l := (shf s l).map (· % (p : Int))) (by rw [List.length_map, shf_length]; exact hl) (fun c hc => by
      obtain ⟨t, _, rfl⟩ := List.mem_map.1 hc
      exact h.U _)
    rw [nrm_map_mod] at key
    have key2 := key.bind (G := fun _ t => some t) (Ev.all fun _ => rfl)
    refine Ev.succ (fun k => ?_) key2
    rw [attestorref03_Shift.l0, if_neg (by omega)]
  | succ d ih =>
    intro i hi
    have gi : i < l.length := by omega
    obtain ⟨K1, h1⟩ := Ev.get (ro_Pow h hs i (by omega))
    obtain ⟨K2, h2⟩ := Ev.get (ih (i + 1) (by omega))
    have ln : (((shf s l).take i).map (· % (p : Int))).length < 17592186044416 := by rw [List.length_map, List.length_take]; omega
    have e : (co l i * (s ^ i % p)) % p = co (shf s l) i % p := by rw [co_shf]; exact Cg.mod_eq ((Cg.refl _ _).mul (Cg.mod _ _))
    refine Ev.mks (K1 + K2) fun k hk => ?_
    rw [attestorref03_Shift.l0, if_pos (Int.ofNat_lt.2 gi), if_pos (Int.natCast_nonneg _), wu64 (by omega) (by omega), h1 k (by omega), Option.bind_some, rd_nat, ro_Mul h (U.co hu i).1 (h.mod _).1, Option.bind_some, if_pos ln, w64_succ (by omega), e, ← map_mod_take_succ (p : Int) (shf s l) i (by rw [shf_length]; omega)]
    exact h2 k (by omega)
theorem r_Shift {l : List Int} (hl : l.length ≤ 1000000) (hu : UL l) {s : Int} (hs : 0 ≤ s) : Ev (fun k => attestorref03_Shift.f k f l s) (nrm p (shf s l)) := rshift_l h hl hu hs l.length 0 (by omega)
end any
section good
variable {f : Int} {p : Nat} (h : FP f p)
include h
theorem rdiv_in {b q' x : List Int} {c : Int} {d : Nat} (hbl : b.length ≤ 1000000) (rb : Rg p b) (hxl : x.length ≤ 1000000) (hdx : d + b.length ≤ x.length) (mc : 0 ≤ c) :
    ∀ (e j : Nat) (y : List Int), j + e = b.length → y.length = x.length → Rg p y → (∀ t, Cg p (co x t - co (sh d (psc c b)) t) (co y t - co (sh (d + j) (psc c (b.drop j))) t)) →
    ∃ y' : List Int, y'.length = x.length ∧ Rg p y' ∧ (∀ t, Cg p (co y' t) (co x t - co (sh d (psc c b)) t)) ∧ ∀ v, Ev (fun k => attestorref03_Divide.l0 k f b (nrm p y') q') v → Ev (fun k => attestorref03_Divide.l1 k f b y q' (d : Int) c (j : Int)) v := by
  intro e
  induction e with
  | zero =>
    intro j y hj hy ry hc2
    have g : ¬ (j : Int) < (b.length : Int) := by clear hc2; omega
    refine ⟨y, hy, ry, fun t => ?_, fun v hv => Ev.succ (fun k => ?_) ((r_Normal h.o (by rw [hy]; exact hxl) (ry.U h.o)).bind (G := fun k t => attestorref03_Divide.l0 k f b t q') hv)⟩
    · have := hc2 t
      rw [List.drop_of_length_le (l := b) (i := j) (Nat.le_of_eq hj.symm)] at this
      have e0 : co (sh (d + j) (psc c [])) t = 0 := by rw [co_sh]; split <;> simp [psc]
      rw [e0, Int.sub_zero] at this
      exact this.symm
    · rw [attestorref03_Divide.l1, if_neg g]
  | succ e ihe =>
    intro j y hj hy ry hc2
    have g1 : j < b.length := by clear hc2 ihe; omega
    have g2 : d + j < y.length := by clear hc2 ihe; omega
    have ewj : wrap64 ((d : Int) + (j : Int)) = ((d + j : Nat) : Int) := by clear hc2 ihe; rw [w64 (by omega) (by omega)]; omega
    have ewn : wrap64 ((j : Int) + 1) = ((j + 1 : Nat) : Int) := by clear hc2 ihe; rw [w64 (by omega) (by omega)]; omega
    have hn : ∀ t, Cg p (co x t - co (sh d (psc c b)) t) (co (y.set (d + j) ((co y (d + j) - (c * co b j) % p) % p)) t - co (sh (d + (j + 1)) (psc c (b.drop (j + 1)))) t) := fun t => by
      refine (hc2 t).trans ?_
      rw [co_sh_term (d + j) c b j g1 t, co_set g2, ← Nat.add_assoc]
      by_cases et : t = d + j
      · subst et
        rw [if_pos rfl, if_pos rfl]
        have c1 : Cg p ((co y (d + j) - c * co b j % p) % p) (co y (d + j) - c * co b j) := (Cg.mod _ _).trans ((Cg.refl _ _).sub (Cg.mod _ _))
        exact (Cg.of_eq (by generalize co (sh (d + j + 1) _) _ = u; generalize c * co b j = v; generalize co y (d + j) = z; clear c1 hc2 ihe; grind)).trans (c1.symm.sub (Cg.refl _ _))
      · rw [if_neg et, if_neg et, Int.zero_add]; exact Cg.refl _ _
    obtain ⟨y', h1, h2, h3, h4⟩ := ihe (j + 1) _ (by clear hc2 hn; omega) (by rw [List.length_set]; exact hy) (ry.set (h.mod _)) hn
    refine ⟨y', h1, h2, h3, fun v hv => Ev.succ (fun k => ?_) (h4 v hv)⟩
    rw [attestorref03_Divide.l1, if_pos (Int.ofNat_lt.2 g1), ewj, if_pos (Int.natCast_nonneg _), if_pos (Int.ofNat_lt.2 g2), if_pos (Int.natCast_nonneg _), rd_nat, rd_nat, r_Mul h mc (rb j).1, Option.bind_some, r_Sub h (ry _).1 (mod_nonneg h.pos _), Option.bind_some, ewn, Int.toNat_natCast]
theorem rdiv_l {a b : List Int} {n : Nat} (hb : b.length = n + 1) (hbl : b.length ≤ 1000000) (rb : Rg p b) (hlead : ¬ Cg p (co b n) 0) :
    ∀ (m : Nat) (q x : List Int), x.length ≤ m → x.length ≤ q.length → q.length ≤ 1000000 → Rg p q → Rg p x → (∀ j, j + n < x.length → co q j = 0) → EqP p (padd (pmul q b) x) a → nrm p x = x →
    ∃ Q R, Ev (fun k => attestorref03_Divide.l0 k f b x q) (nrm p Q, nrm p R, 0) ∧ Quot p a b Q R n ∧ Q.length = q.length := by
  intro m
  induction m with
  | zero =>
    intro q x hm hxq hql rq rx hz he hnx
    have sN := r_Normal h.o hql (rq.U h.o)
    refine ⟨q, x, ?_, ⟨he, (Deg.len p x).mono (by omega)⟩, rfl⟩
    have key := sN.bind (G := fun _ t576 => (some (t576, x, (0 : Int)))) (Ev.all fun _ => rfl)
    rw [hnx]
    refine Ev.succ (fun k => ?_) key
    rw [attestorref03_Divide.l0, if_neg (by omega)]
  | succ m ih =>
    intro q x hm hxq hql rq rx hz he hnx
    by_cases hs : x.length < n + 1
    · have sN := r_Normal h.o hql (rq.U h.o)
      refine ⟨q, x, ?_, ⟨he, (Deg.len p x).mono (by omega)⟩, rfl⟩
      have key := sN.bind (G := fun _ t576 => (some (t576, x, (0 : Int)))) (Ev.all fun _ => rfl)
      rw [hnx]
      refine Ev.succ (fun k => ?_) key
      rw [attestorref03_Divide.l0, if_neg (by omega)]
    · obtain ⟨d, hd⟩ : ∃ d, x.length = d + (n + 1) := ⟨x.length - (n + 1), by omega⟩
      have gx : ((x.length : Int)) ≥ (b.length : Int) := by clear hz he; omega
      have ew1 : wrap64 ((x.length : Int) - 1) = ((d + n : Nat) : Int) := by clear hz he; rw [w64 (by omega) (by omega)]; omega
      have ew2 : wrap64 ((b.length : Int) - 1) = (n : Int) := by clear hz he; rw [w64 (by omega) (by omega)]; omega
      have ew3 : wrap64 ((x.length : Int) - (b.length : Int)) = (d : Int) := by clear hz he; rw [w64 (by omega) (by omega)]; omega
      have g1 : d + n < x.length := by clear hz he; omega
      have g2 : n < b.length := by clear hz he; omega
      have g3 : d < q.length := by clear hz he; omega
      have g4 : d + b.length ≤ x.length := by clear hz he; omega
      obtain ⟨c, hc⟩ : ∃ c, c = (co x (d + n) * inv p (co b n)) % p := ⟨_, rfl⟩
      have mc : 0 ≤ c ∧ c < p := by rw [hc]; exact h.mod _
      have hcl : Cg p (c * co b n) (co x (d + n)) := by
        have h1 : Cg p c (co x (d + n) * inv p (co b n)) := by rw [hc]; exact Cg.mod _ _
        have h2 := inv_spec h.pr hlead
        have h3 := (Cg.refl p (co x (d + n))).mul h2
        refine (h1.mul (Cg.refl _ _)).trans ((Cg.of_eq ?_).trans (h3.trans (Cg.of_eq (Int.mul_one _))))
        rw [Int.mul_assoc, Int.mul_comm (inv p (co b n))]
      have h0 : co q d = 0 := hz d (by clear hz he ih hlead hcl; omega)
      obtain ⟨y, hy, ry, hy2, hrun⟩ := rdiv_in h (q' := q.set d c) hbl rb (Nat.le_trans hxq hql) g4 mc.1 b.length 0 x (Nat.zero_add _) rfl rx (fun t => by rw [Nat.add_zero, List.drop_zero]; exact Cg.refl _ _)
      have hd' : Deg p y (d + n) := fun t ht => by
        refine (hy2 t).trans ?_
        rw [co_sh, if_neg (by clear hz he ih hlead hcl hy2 hrun; omega), co_psc]
        by_cases et : t = d + n
        · subst et
          rw [Nat.add_sub_cancel_left]
          exact ((Cg.refl p (co x (d + n))).sub hcl).trans (Cg.of_eq (Int.sub_self _))
        · rw [co_over (l := b) (by clear hz he ih hlead hcl hy2 hrun; omega), co_over (l := x) (by clear hz he ih hlead hcl hy2 hrun; omega), Int.mul_zero, Int.sub_zero]
          exact Cg.refl _ _
      have he' := div_step he g3 h0 hy2
      have lny := nrm_deg h.pos hd'
      obtain ⟨Q, R, h1, h2, h3⟩ := ih (q.set d c) (nrm p y) (by clear hz he ih hlead hcl hy2 hrun hd' he'; omega) (by rw [List.length_set]; clear hz he ih hlead hcl hy2 hrun hd' he'; omega) (by rw [List.length_set]; exact hql) (rq.set mc) (nrm_rg h.pos y) (fun j hj => by
        rw [co_set_ne g3 _ (by clear hz he ih hlead hcl hy2 hrun hd' he'; omega)]
        exact hz j (by clear hz he ih hlead hcl hy2 hrun hd' he'; omega)) (((EqP.refl p _).padd (nrm_eqp p y)).trans he') (nrm_nrm _ _)
      obtain ⟨K1, k1⟩ := Ev.get (hrun _ h1)
      obtain ⟨K2, k2⟩ := Ev.get (r_Div h (rx (d + n)).1 (rb n).1)
      rw [List.length_set] at h3
      refine ⟨Q, R, Ev.mks (K1 + K2) fun k hk => ?_, h2, h3⟩
      rw [attestorref03_Divide.l0, if_pos gx, ew1, if_pos (Int.natCast_nonneg _), if_pos (Int.ofNat_lt.2 g1), ew2, if_pos (Int.natCast_nonneg _), if_pos (Int.ofNat_lt.2 g2), rd_nat, rd_nat, k2 k (by omega), Option.bind_some, ew3, if_pos (Int.natCast_nonneg _), if_pos (Int.ofNat_lt.2 g3), Int.toNat_natCast, ← hc]
      exact k1 k (by omega)
theorem r_Divide {a b : List Int} (ha : a.length ≤ 500000) (hb : b.length ≤ 500000) (ua : UL a) (ub : UL b) {n : Nat} (hn : (nrm p b).length = n + 1) :
    ∃ Q R, Ev (fun k => attestorref03_Divide.f k f a b) (nrm p Q, nrm p R, 0) ∧ Quot p a b Q R n ∧ Q.length ≤ a.length := by
  have la := nrm_length_le p a
  have lb := nrm_length_le p b
  have hlead : ¬ Cg p (co (nrm p b) n) 0 := fun c => by
    have h1 := (nrm_nf h.pos b).lz n hn
    have h2 := nrm_rg h.pos b n
    exact h1 (c.uniq h2.1 h2.2 (Int.le_refl _) h.pos)
  have conv : ∀ Q R, Quot p (nrm p a) (nrm p b) Q R n → Quot p a b Q R n := fun Q R q => ⟨(((nrm_eqp p b).symm.pmul_right Q).padd (EqP.refl p R)).trans (q.eq.trans (nrm_eqp p a)), q.deg⟩
  obtain ⟨K1, k1⟩ := Ev.get (r_Normal h.o (by omega) ub)
  obtain ⟨K2, k2⟩ := Ev.get (r_Normal h.o (by omega) ua)
  obtain ⟨Q, R, h1, h2, h3⟩ := rdiv_l h (a := nrm p a) hn (by omega) (nrm_rg h.pos b) hlead (nrm p a).length (List.replicate (nrm p a).length 0) (nrm p a) (Nat.le_refl _) (by simp) (by rw [List.length_replicate]; omega) (Rg.zeros h.pos _) (nrm_rg h.pos a) (fun j _ => co_replicate _ _) (fun t => by
    rw [co_padd]
    have hz : EqP p (List.replicate (nrm p a).length 0) [] := fun i => by rw [co_replicate, co_nil]; exact Cg.refl _ _
    have := (pmul_zero_left (b := nrm p b) hz t).add (Cg.refl p (co (nrm p a) t))
    simpa using this) (nrm_nrm _ _)
  rw [List.length_replicate] at h3
  obtain ⟨K3, k3⟩ := Ev.get (h1)
  refine ⟨Q, R, Ev.mk (K1 + K2 + K3) fun k hk => ?_, conv _ _ h2, by omega⟩
  rw [attestorref03_Divide.f, r_Valid h, Option.bind_some, if_pos rfl, k1 k (by omega), Option.bind_some, if_neg (by omega), k2 k (by omega), Option.bind_some, if_pos (Int.natCast_nonneg _), if_pos (by omega), Int.toNat_natCast]
  exact k3 k (by omega)
end good
end Go.Proofs.YtmnahhacobfafaaDoor.Pure
