/- The fold of the word of a polynomial is the word of the sum of its parts: for every input. -/
import Derived.Test.YthinfmfjpaikiaaDoorSpecs
import Derived.Test.YthinfmfjpaikiaaDoorQ14
import Derived.Test.YthinfmfjpaikiaaDoorQ16
namespace Go.Proofs.YthinfmfjpaikiaaDoor.Pure
open Go.RowKit Go.Proofs.YthinfmfjpaikiaaDoor.Q Go.Proofs.YthinfmfjpaikiaaDoor.Num Go.Proofs.YthinfmfjpaikiaaDoor.Pol Go.Proofs.YthinfmfjpaikiaaDoorW.PrintWords Go.Proofs.YthinfmfjpaikiaaDoorW.PrintLast Go.Proofs.YthinfmfjpaikiaaDoorW.PrintMore

theorem take_co {l : List Int} {i : Nat} (h : i < l.length) : l.take i ++ [co l i] = l.take (i + 1) := by
  rw [co_lt h]; exact List.take_append_getElem h
/-- The points. -/
def pts (f : Int) (p k : Nat) (s : Int) : List Int := (List.range (2 ^ k)).map fun i => pnt f p k s i
theorem pts_length (f : Int) (p k : Nat) (s : Int) : (pts f p k s).length = 2 ^ k := by simp [pts]
theorem co_pts {f : Int} {p k : Nat} {s : Int} {i : Nat} (h : i < 2 ^ k) : co (pts f p k s) i = pnt f p k s i := by
  rw [co_lt (by rw [pts_length]; exact h)]; simp [pts]
section dom
variable {f : Int} {p k : Nat} {s : Int} (z : Dm f p k s)
include z
theorem wop_UL (P : List Int) : UL (wop f p k s P) := fun x hx => by
  obtain ⟨i, _, rfl⟩ := List.mem_map.1 hx
  exact z.h.U _
theorem points_l0 : ∀ (d i : Nat) (x : List Int) (y : Int), i + d = 2 ^ k → x.length = 2 ^ k → 0 ≤ y → (i < 2 ^ k → y = pnt f p k s i) → (∀ j, j < 2 ^ k → co (pts f p k s) j = if i ≤ j then pnt f p k s j else co x j) → Ev (fun K => code_Points.l0 K x y (wr f p k) ((2 ^ k : Nat) : Int) i f k s) (pts f p k s) := by
  have h18 := z.p18
  intro d
  induction d with
  | zero =>
    intro i x y hi hx _ _ hc
    have e : pts f p k s = x := ext_co (by rw [pts_length, hx]) fun j hj => by rw [pts_length] at hj; rw [hc j hj, if_neg (by omega)]
    refine Ev.mks 0 fun K _ => ?_
    rw [code_Points.l0, if_neg (by omega), e]
  | succ d ih =>
    intro i x y hi hx y0 hy hc
    have hii : i < 2 ^ k := by omega
    have hy := hy hii
    refine Ev.succ (fun K => ?_) (ih (i + 1) (x.set i y) (y * wr f p k % p) (by omega) (by simpa using hx) (z.h.mod _).1 (fun _ => ?_) (fun j hj => ?_))
    · rw [code_Points.l0, if_pos (Int.ofNat_lt.2 hii), if_pos (Int.natCast_nonneg _), hx, if_pos (Int.ofNat_lt.2 hii), s_Mul z.h y0 (wr_nn z.h k), Option.bind_some, w64_succ (by omega), Int.toNat_natCast]
    · rw [hy]
      refine Cg.mod_eq (((z.pnt_cg i).mul (Cg.refl _ _)).trans (Cg.trans (Cg.of_eq ?_) ((Cg.refl _ s).mul (Cg.mod _ _).symm)))
      rw [Int.pow_succ, Int.mul_assoc]
    · rw [hc j hj, co_set (by omega)]
      by_cases q : j = i
      · subst q; rw [if_pos (Nat.le_refl _), if_neg (by omega), if_pos rfl, hy]
      · rw [if_neg q]
        by_cases q2 : i ≤ j
        · rw [if_pos q2, if_pos (by omega)]
        · rw [if_neg q2, if_neg (by omega)]
theorem Dm.Points : Ev (fun K => code_Points.f K f k s) (pts f p k s) := by
  have h18 := z.p18
  have hg := z.hg
  have hb := gr_le f
  have h0 := z.s0
  have h1 := z.sp
  have e0 : s = pnt f p k s 0 := by
    unfold pnt
    rw [Int.pow_zero, Int.emod_eq_of_lt (by omega) z.h.one, Int.mul_one, Int.emod_eq_of_lt (by omega) h1]
  obtain ⟨K1, k1⟩ := Ev.get (s_Root z.h (k := k) (by omega))
  obtain ⟨K2, k2⟩ := Ev.get (points_l0 z (2 ^ k) 0 (List.replicate (2 ^ k) 0) s (by omega) (by simp) (by omega) (fun _ => e0) (fun j hj => by rw [co_pts hj, if_pos (Nat.zero_le _)]))
  refine Ev.mk (K1 + K2) fun K hK => ?_
  rw [code_Points.f, z.size, Option.bind_some, if_pos (Int.natCast_nonneg _), Int.toNat_natCast, if_pos (by omega), Option.bind_some, k1 K (by omega), Option.bind_some, List.length_replicate]
  exact k2 K (by omega)
theorem word_l {P : List Int} (hP : P.length ≤ 1000000) (uP : UL P) : ∀ (d i : Nat), i + d = 2 ^ k → Ev (fun K => attestorlaw09_word.l0 K P (pts f p k s) ((wop f p k s P).take i) i f k s) (wop f p k s P) := by
  have h18 := z.p18
  intro d
  induction d with
  | zero =>
    intro i hi
    refine Ev.mks 0 fun K _ => ?_
    rw [attestorlaw09_word.l0, pts_length, if_neg (by omega), List.take_of_length_le (by rw [wop_length]; omega)]
  | succ d ih =>
    intro i hi
    have hii : i < 2 ^ k := by omega
    obtain ⟨K1, k1⟩ := Ev.get (s_Eval z.h.o (l := P) hP uP (x := pnt f p k s i) (z.pnt_nn i))
    obtain ⟨K2, k2⟩ := Ev.get (ih (i + 1) (by omega))
    refine Ev.mks (K1 + K2) fun K hK => ?_
    rw [attestorlaw09_word.l0, pts_length, if_pos (Int.ofNat_lt.2 hii), if_pos (Int.natCast_nonneg _), rd_nat, co_pts hii, k1 K (by omega), Option.bind_some, if_pos (by rw [List.length_take, wop_length]; omega), w64_succ (by omega), ← co_wop hii, take_co (by rw [wop_length]; exact hii)]
    exact k2 K (by omega)
theorem Dm.word {P : List Int} (hP : P.length ≤ 1000000) (uP : UL P) : Ev (fun K => attestorlaw09_word.f K f k s P) (wop f p k s P) := by
  obtain ⟨K1, k1⟩ := Ev.get z.Points
  obtain ⟨K2, k2⟩ := Ev.get (word_l z hP uP (2 ^ k) 0 (by omega))
  refine Ev.mk (K1 + K2) fun K hK => ?_
  rw [attestorlaw09_word.f, k1 K (by omega), Option.bind_some]
  exact k2 K (by omega)
/-- The word of a short polynomial is a word. -/
theorem Dm.IsWord (hk : k ≤ 10) {q : List Int} {n : Nat} (hq : (nrm p q).length ≤ n) (hn : n ≤ 2 ^ k) : Ev (fun K => code_IsWord.f K f k s (wop f p k s q) (n : Int)) true := by
  have h10 := pow10 hk
  have hg := z.hg
  have hb := gr_le f
  obtain ⟨K1, k1⟩ := Ev.get (s_Coefs z.h hk z.hg (s := s) (by have := z.s0; omega) z.unit (wop_length f p k s q) (wop_UL z q))
  have ew : wop f p k s q = vals p (wr f p k) (shf s (nrm p q)) (2 ^ k) := ext_co (by rw [wop_length, vals_length]) fun i hi => by
    rw [wop_length] at hi
    rw [co_wop hi, co_vals hi, ev_shf]
    exact Cg.mod_eq (((nrm_eqp p q).symm.ev _).trans (ev_arg (z.pnt_cg i) _))
  obtain ⟨C, hC⟩ : ∃ C, C = cofs p (inv p (wr f p k)) (inv p ((2 ^ k : Nat) : Int)) (inv p s) (wop f p k s q) (2 ^ k) := ⟨_, rfl⟩
  have lC : C.length = 2 ^ k := by rw [hC, cofs_length]
  have uC : UL C := hC ▸ cofs_UL z.h _ _ _ _ _
  have eC : EqP p C q := fun j => by
    by_cases hj : j < 2 ^ k
    · rw [hC, ew, cofs_vals (wr_rt z.h (by omega)) (inv_spec z.h.pr (wr_unit z.h)) ((Cg.of_eq (Int.mul_comm _ _)).trans (inv_spec z.h.pr (two_unit z.h k))) (inv_spec z.h.pr (fun c => z.unit (mod_eq_zero.2 c))) (by omega) hj]
      exact (Cg.mod _ _).trans (nrm_eqp p q j)
    · rw [co_over (by omega)]
      have := nrm_eqp p q j
      rw [co_over (by omega)] at this
      exact this
  rw [← hC] at k1
  obtain ⟨K2, k2⟩ := Ev.get (s_Degree z.h.o (l := C) (by omega) uC)
  rw [nrm_congr eC] at k2
  refine Ev.mk (K1 + K2 + 1) fun K hK => ?_
  obtain ⟨K, rfl⟩ : ∃ K', K = K' + 1 := ⟨K - 1, by omega⟩
  have e8 : ((wop f p k s q).length : Int) == ((2 ^ k : Nat) : Int) := by rw [wop_length]; exact beq_self_eq_true _
  have ng : ¬ ((n : Int) > ((wop f p k s q).length : Int)) := by rw [wop_length]; omega
  rw [code_IsWord.f, z.isw, Option.bind_some, if_pos e8, if_neg (by omega), decide_eq_false ng, code_IsWord.j0, if_neg (by decide), k1 K (by omega), Option.bind_some, if_pos rfl, k2 K (by omega), Option.bind_some, decide_eq_true (by omega)]
end dom
/-- The sum of the first parts times powers. -/
def Qs (p : Int) (P : List Int) (c : Int) : Nat → List Int
  | 0 => []
  | t + 1 => nrm p (padd (Qs p P c t) (nrm p (psc (c ^ t % p) (nrm p (prt 8 t P)))))
theorem Qs_ev (p : Int) (P : List Int) (c x : Int) : ∀ t, Cg p (ev (Qs p P c t) x) (smn (fun j => c ^ j * ev (prt 8 j P) x) t)
  | 0 => Cg.refl _ _
  | t + 1 => by
    rw [Qs, smn]
    refine ((nrm_eqp p _).ev x).trans ?_
    rw [ev_padd]
    refine (Qs_ev p P c x t).add (((nrm_eqp p _).ev x).trans ?_)
    rw [ev_psc]
    exact (Cg.mod _ _).mul ((nrm_eqp p _).ev x)
theorem Qs_deg {p : Int} {P : List Int} {c : Int} {n : Nat} (hP : Deg p P n) : ∀ t, t ≤ 8 → Deg p (Qs p P c t) ((n + 7) / 8)
  | 0, _ => fun i _ => Cg.refl _ _
  | t + 1, ht => fun i hi => by
    rw [Qs]
    refine (nrm_eqp p _ i).trans ?_
    rw [co_padd]
    have h1 := Qs_deg (c := c) hP t (by omega) i hi
    have h2 : Cg p (co (nrm p (psc (c ^ t % p) (nrm p (prt 8 t P)))) i) 0 := by
      refine (nrm_eqp p _ i).trans ?_
      rw [co_psc]
      have h3 : Cg p (co (nrm p (prt 8 t P)) i) 0 := by
        refine (nrm_eqp p _ i).trans ?_
        rw [co_prt (by omega)]
        exact hP _ (by omega)
      have := (Cg.refl p (c ^ t % p)).mul h3
      rwa [Int.mul_zero] at this
    have := h1.add h2
    rwa [Int.add_zero] at this
theorem Qs_len {p : Int} {P : List Int} {c : Int} (hP : P.length ≤ 128) : ∀ t, (Qs p P c t).length ≤ 128
  | 0 => by simp [Qs]
  | t + 1 => by
    rw [Qs]
    have h1 := nrm_length_le p (padd (Qs p P c t) (nrm p (psc (c ^ t % p) (nrm p (prt 8 t P)))))
    have h2 := nrm_length_le p (psc (c ^ t % p) (nrm p (prt 8 t P)))
    have h3 := nrm_length_le p (prt 8 t P)
    have h4 : (psc (c ^ t % p) (nrm p (prt 8 t P))).length = (nrm p (prt 8 t P)).length := by simp [psc]
    have h5 : (prt 8 t P).length = P.length := by simp [prt]
    have h6 := Qs_len (p := p) (c := c) hP t
    rw [padd_length] at h1
    omega
section dom
variable {f : Int} {p k : Nat} {s : Int} (z : Dm f p k s)
include z
theorem Qs_UL (P : List Int) (c : Int) : ∀ t, UL (Qs p P c t)
  | 0 => UL.nil
  | _ + 1 => nrm_UL z.h.o _
/-- The fold of the word of a polynomial. -/
theorem wrd_wop (h3 : 3 ≤ k) (P : List Int) (c : Int) : wrd f p k s (wop f p k s P) c = wop f p (k - 3) (s ^ 8 % p) (Qs p P c 8) := by
  have e : 2 ^ k / 8 = 2 ^ (k - 3) := by
    obtain ⟨m, rfl⟩ : ∃ m, k = 3 + m := ⟨k - 3, by omega⟩
    rw [Nat.pow_add, show 3 + m - 3 = m by omega]; omega
  refine ext_co (by rw [wrd_length, wop_length, e]) fun i hi => ?_
  rw [wrd_length] at hi
  rw [co_wrd hi, co_wop (by omega)]
  refine Cg.mod_eq (((loc_wop z h3 P hi).ev c).trans ?_)
  rw [ev_prv]
  refine Cg.trans ?_ (Qs_ev p P c _ 8).symm
  exact smn_cg fun j _ => (Cg.refl _ _).mul (ev_arg (pnt_next z h3 i) _)
theorem polys_l0 (h3 : 3 ≤ k) (h7 : k ≤ 7) {P : List Int} (hP : P.length ≤ 2 ^ k) (uP : UL P) {c : Int} (hc : 0 ≤ c) : ∀ (d t : Nat), t + d = 8 →
    Ev (fun K => attestorlaw09_FoldPolys.l0 K P c (wop f p (k - 3) (s ^ 8 % p) (Qs p P c 8)) (spl p 8 P) (Qs p P c t) t f k s f ((k - 3 : Nat) : Int) (s ^ 8 % p)) true := by
  have h128 : 2 ^ k ≤ 2 ^ 7 := Nat.pow_le_pow_right (by omega) h7
  have e : 2 ^ k / 8 = 2 ^ (k - 3) := by
    obtain ⟨m, rfl⟩ : ∃ m, k = 3 + m := ⟨k - 3, by omega⟩
    rw [Nat.pow_add, show 3 + m - 3 = m by omega]; omega
  have e' : 2 ^ k = 8 * 2 ^ (k - 3) := by
    obtain ⟨m, rfl⟩ : ∃ m, k = 3 + m := ⟨k - 3, by omega⟩
    rw [Nat.pow_add, show 3 + m - 3 = m by omega]
  intro d
  induction d with
  | zero =>
    intro t ht
    obtain rfl : t = 8 := by omega
    have n1 := nrm_length_le p P
    have zn := z.next h3
    obtain ⟨K1, k1⟩ := Ev.get (s_Degree z.h.o (l := P) (by omega) uP)
    obtain ⟨K2, k2⟩ := Ev.get (zn.word (P := Qs p P c 8) (by have := Qs_len (p := p) (P := P) (c := c) (by omega) 8; omega) (Qs_UL z P c 8))
    obtain ⟨K3, k3⟩ := Ev.get (s_same (l := wop f p (k - 3) (s ^ 8 % p) (Qs p P c 8)) (by rw [wop_length]; omega))
    obtain ⟨K4, k4⟩ := Ev.get (zn.IsWord (by omega) (q := Qs p P c 8) (n := ((nrm p P).length + 7) / 8) (nrm_deg z.h.pos (Qs_deg Deg.of_nrm 8 (by omega))) (by omega))
    obtain ⟨K5, k5⟩ := Ev.get s_works
    have ew : wrap64 (Int.tdiv (wrap64 (wrap64 (((nrm p P).length : Int) - 1 + 1) + 7)) 8) = ((((nrm p P).length + 7) / 8 : Nat) : Int) := by
      rw [w64 (n := ((nrm p P).length : Int) - 1 + 1) (by omega) (by omega), w64 (n := ((nrm p P).length : Int) - 1 + 1 + 7) (by omega) (by omega), Int.tdiv_eq_ediv_of_nonneg (by omega), w64 (by omega) (by omega)]
      omega
    refine Ev.mks (K1 + K2 + K3 + K4 + K5) fun K hK => ?_
    rw [attestorlaw09_FoldPolys.l0, if_neg (by omega), k1 K (by omega), Option.bind_some, k2 K (by omega), Option.bind_some, k3 K (by omega), Option.bind_some, if_pos rfl, ew, k4 K (by omega), Option.bind_some, if_pos rfl, k5 K (by omega), Option.bind_some]
  | succ d ih =>
    intro t ht
    have ht8 : t < 8 := by omega
    have h5 : (prt 8 t P).length = P.length := by simp [prt]
    have h6 := nrm_length_le p (prt 8 t P)
    have h7 := nrm_length_le p (psc (c ^ t % p) (nrm p (prt 8 t P)))
    have h8 : (psc (c ^ t % p) (nrm p (prt 8 t P))).length = (nrm p (prt 8 t P)).length := by simp [psc]
    have h9 := Qs_len (p := p) (P := P) (c := c) (by omega) t
    obtain ⟨K1, k1⟩ := Ev.get (s_Pow z.h hc t (by omega))
    obtain ⟨K2, k2⟩ := Ev.get (s_Scale z.h.o (l := nrm p (prt 8 t P)) (by omega) (nrm_UL z.h.o _) (c := c ^ t % p) (z.h.mod _).1)
    obtain ⟨K3, k3⟩ := Ev.get (s_AddP z.h.o (a := Qs p P c t) (b := nrm p (psc (c ^ t % p) (nrm p (prt 8 t P)))) (by omega) (by omega) (Qs_UL z P c t) (nrm_UL z.h.o _))
    obtain ⟨K4, k4⟩ := Ev.get (ih (t + 1) (by omega))
    refine Ev.mks (K1 + K2 + K3 + K4) fun K hK => ?_
    rw [attestorlaw09_FoldPolys.l0, if_pos (by omega), if_pos (Int.natCast_nonneg _), spl_length, if_pos (by omega), wu64 (by omega) (by omega), k1 K (by omega), Option.bind_some, rd_L1_nat, lc_spl ht8, k2 K (by omega), Option.bind_some, k3 K (by omega), Option.bind_some, w64_succ (by omega)]
    exact k4 K (by omega)
end dom
theorem shl7_tab : ((List.range 8).all fun k => shl .i64 1 (IntKind.u64.wrap ((k : Nat) : Int)) == ((2 ^ k : Nat) : Int)) = true := by decide +kernel
theorem FoldPolys : attestorlaw09_FoldPolys.Pure := by
  intro a0 a1 a2 l3 c w0 w1 w2 _ hy wu wc
  obtain ⟨f, p, k, s, e, z, h3, h7⟩ := s_domain w0 w1 w2
  have h128 : 2 ^ k ≤ 2 ^ 7 := Nat.pow_le_pow_right (by omega) h7
  have e8 : 2 ^ k / 8 = 2 ^ (k - 3) := by
    obtain ⟨m, rfl⟩ : ∃ m, k = 3 + m := ⟨k - 3, by omega⟩
    rw [Nat.pow_add, show 3 + m - 3 = m by omega]; omega
  have es := beq_iff_eq.1 (List.all_eq_true.1 shl7_tab k (List.mem_range.2 (by omega)))
  obtain ⟨P, hP⟩ : ∃ P, P = l3.take (2 ^ k) := ⟨_, rfl⟩
  have uP : UL P := hP ▸ (UL.of_wf wu).take _
  have nP : P.length ≤ 2 ^ k := by rw [hP, List.length_take]; omega
  have o1 := s_own hy (2 ^ k)
  rw [← hP] at o1
  have hc := (U.of_wf wc).1
  obtain ⟨K1, k1⟩ := Ev.get (z.word (P := P) (by omega) uP)
  obtain ⟨K2, k2⟩ := Ev.get (z.Next h3)
  have kw := z.Word h3 (wop_length f p k s P) (wop_UL z P) hc
  rw [wrd_wop z h3] at kw
  obtain ⟨K3, k3⟩ := Ev.get kw
  obtain ⟨K4, k4⟩ := Ev.get (s_Split z.h (l := P) (by omega) uP (m := 8) (by omega) (by omega))
  obtain ⟨K5, k5⟩ := Ev.get (polys_l0 z h3 h7 nP uP hc 8 0 (by omega))
  have zn := z.next h3
  refine Ev.ex (F := fun K => attestorlaw09_FoldPolys.f K a0 a1 a2 l3 c) (Ev.mk (K1 + K2 + K3 + K4 + K5 + 1) fun K hK => ?_)
  obtain ⟨K, rfl⟩ : ∃ K', K = K' + 1 := ⟨K - 1, by omega⟩
  rw [attestorlaw09_FoldPolys.f, e, Option.bind_some]
  dsimp only
  have e9 : (((2 ^ (k - 3) : Nat) : Int)) = wrap64 (((wop f p k s P).length : Int) / 8) := by
    rw [wop_length, w64 (by omega) (by omega)]; omega
  rw [es, if_pos (by rw [wu64 (by omega) (by omega)]; omega), o1, Option.bind_some, k1 _ (by omega), Option.bind_some, k2 _ (by omega), Option.bind_some, k3 _ (by omega), Option.bind_some, show (8 : Int) = ((8 : Nat) : Int) from rfl, k4 _ (by omega), Option.bind_some]
  dsimp only
  rw [if_pos rfl, if_pos rfl, spl_length, if_pos rfl, zn.valid, Option.bind_some, if_pos rfl, zn.size, Option.bind_some, show ((8 : Nat) : Int) = 8 from rfl, if_pos e9, attestorlaw09_FoldPolys.j0]
  exact k5 K (by omega)
end Go.Proofs.YthinfmfjpaikiaaDoor.Pure
