/- Words is Word after Word; a folded value is At of the leaf at the point: for every input. -/
import Derived.Test.YthinfmfjpaikiaaDoorSpecs
import Derived.Test.YthinfmfjpaikiaaDoorQ13
import Derived.Test.YthinfmfjpaikiaaDoorQ7
namespace Go.Proofs.YthinfmfjpaikiaaDoor.Pure
open Go.RowKit Go.Proofs.YthinfmfjpaikiaaDoor.Q Go.Proofs.YthinfmfjpaikiaaDoor.Num Go.Proofs.YthinfmfjpaikiaaDoor.Pol Go.Proofs.YthinfmfjpaikiaaDoorW.PrintWords Go.Proofs.YthinfmfjpaikiaaDoorW.PrintLast Go.Proofs.YthinfmfjpaikiaaDoorW.PrintMore

theorem cpyAt_zl (n : Nat) (l : List Int) : (cpyAt (List.replicate n 0) 0 l).length = n := by rw [length_cpyAt _ _ _ (by simp)]; simp
theorem cpyAt_zu (n : Nat) {l : List Int} (h : UL l) : UL (cpyAt (List.replicate n 0) 0 l) := by
  intro c hc
  rw [cpyAt, splice] at hc
  rw [List.mem_append, List.mem_append] at hc
  rcases hc with hc | hc | hc
  · simp at hc
  · exact h c (List.mem_of_mem_take hc)
  · have := List.mem_of_mem_drop hc
    rw [(List.mem_replicate.1 this).2]; exact U.zero
theorem shl7_tab : ((List.range 8).all fun k => shl .i64 1 (IntKind.u64.wrap ((k : Nat) : Int)) == ((2 ^ k : Nat) : Int)) = true := by decide +kernel
section dom
variable {f : Int} {p k : Nat} {s : Int} (z : Dm f p k s)
include z
theorem steps_l2 (h3 : 3 ≤ k) {l zs : List Int} {L : List (List Int)} {t : Nat} {c : Int} (hl : l.length = 2 ^ k) (hr : Rg p l) (hc : 0 ≤ c) (hL : lc L t = l) (hz : co zs t = c) (tL : t < L.length) (tz : t < zs.length) (ht : t ≤ 1000) {f' k' s' : Int} {v : Bool} (hK : Ev (fun K => attestorlaw09_FoldSteps.l1 K zs L ((t + 1 : Nat) : Int) f' k' s') v) : ∀ (d i : Nat), i + d = 2 ^ k / 8 →
    Ev (fun K => attestorlaw09_FoldSteps.l2 K zs L (t : Int) (wrd f p k s l c) (i : Int) f k s f' k' s') v := by
  have h18 := z.p18
  intro d
  induction d with
  | zero =>
    intro i hi
    refine Ev.succ (fun K => ?_) hK
    rw [attestorlaw09_FoldSteps.l2, wrd_length, if_neg (by omega), w64_succ (by omega)]
  | succ d ih =>
    intro i hi
    have hii : i < 2 ^ k / 8 := by omega
    obtain ⟨K1, k1⟩ := Ev.get (z.Point (i := i) (by omega))
    obtain ⟨K2, k2⟩ := Ev.get (z.Leaf h3 hl hr hii)
    obtain ⟨K3, k3⟩ := Ev.get (z.At h3 (hr.U z.h.o) hc (i := i))
    obtain ⟨K4, k4⟩ := Ev.get (ih (i + 1) (by omega))
    refine Ev.mk (K1 + K2 + K3 + K4 + 2) fun K hK => ?_
    obtain ⟨K, rfl⟩ : ∃ K', K = K' + 1 + 1 := ⟨K - 2, by omega⟩
    rw [attestorlaw09_FoldSteps.l2, wrd_length, if_pos (Int.ofNat_lt.2 hii), attestorlaw09_FoldSteps.j6, if_pos (Int.natCast_nonneg _), wrd_length, if_pos (Int.ofNat_lt.2 hii), k1 K (by omega), Option.bind_some, if_pos (Int.natCast_nonneg _), if_pos (Int.ofNat_lt.2 tL), rd_L1_nat, hL, k2 K (by omega), Option.bind_some, if_pos (Int.ofNat_lt.2 tz), rd_nat, hz, fold_At.f, pad8_self (fib_length _ _ _), k3 K (by omega), Option.bind_some, rd_nat, co_wrd hii, if_pos rfl, w64_succ (by omega)]
    exact k4 K (by omega)
theorem steps_l0 {y zs : List Int} {L : List (List Int)} (hl : y.length = 2 ^ k) (uy : UL y) (hL : lc L 0 = y.map (· % (p : Int))) (L0 : 0 < L.length) {v : Bool} (hK : Ev (fun K => attestorlaw09_FoldSteps.l1 K zs L 0 f k s) v) : ∀ (d i : Nat), i + d = 2 ^ k →
    Ev (fun K => attestorlaw09_FoldSteps.l0 K zs ((2 ^ k : Nat) : Int) y L (i : Int) f k s) v := by
  have h18 := z.p18
  intro d
  induction d with
  | zero =>
    intro i hi
    refine Ev.succ (fun K => ?_) hK
    rw [attestorlaw09_FoldSteps.l0, if_neg (by omega)]
  | succ d ih =>
    intro i hi
    have hii : i < 2 ^ k := by omega
    refine Ev.succ (fun K => ?_) (ih (i + 1) (by omega))
    have e0 : rd_L1 L 0 = y.map (· % (p : Int)) := (rd_L1_nat L 0).trans hL
    rw [attestorlaw09_FoldSteps.l0, if_pos (Int.ofNat_lt.2 hii), if_pos (by omega), if_pos (Int.natCast_nonneg _), e0, List.length_map, hl, if_pos (Int.ofNat_lt.2 hii), if_pos (Int.ofNat_lt.2 hii), rd_nat, s_Reduce z.h (U.co uy i).1, Option.bind_some, rd_nat, co_map_mod, if_pos rfl, w64_succ (by omega)]
end dom
theorem steps_l1 {f : Int} {p : Nat} : ∀ (cs : List Int) (k : Nat) (s : Int) (_ : Dm f p k s) (pre : List (List Int)) (cur zs : List Int), UL cs → cur.length = 2 ^ k → Rg p cur → 3 * cs.length ≤ k → pre.length + cs.length ≤ 100 → zs.length = pre.length + cs.length → (∀ t, t < cs.length → co zs (pre.length + t) = co cs t) →
    Ev (fun K => attestorlaw09_FoldSteps.l1 K zs (pre ++ wds f p k s cur cs) (pre.length : Int) f k s) true := by
  intro cs
  induction cs with
  | nil =>
    intro k s z pre cur zs _ _ _ _ _ hz _
    obtain ⟨K1, k1⟩ := Ev.get s_works
    refine Ev.mks K1 fun K hK => ?_
    rw [attestorlaw09_FoldSteps.l1, if_neg (by rw [hz]; simp), k1 K hK, Option.bind_some]
  | cons c cs ihc =>
    intro k s z pre cur zs uc hc hr h3 hp hz hv
    have hk : 3 ≤ k := by simp at h3; omega
    have h18 := z.k18
    have c0 : 0 ≤ c := (uc c (by simp)).1
    have ez := hv 0 (by simp)
    rw [Nat.add_zero, co_cons_zero] at ez
    have hp' : pre.length + cs.length + 1 ≤ 100 := by simpa [Nat.add_assoc] using hp
    have hz' : zs.length = pre.length + cs.length + 1 := by rw [hz, List.length_cons]; omega
    obtain ⟨L, hL⟩ : ∃ L, L = pre ++ wds f p k s cur (c :: cs) := ⟨_, rfl⟩
    rw [← hL]
    have lt0 : lc L pre.length = cur := by rw [hL]; exact lc_wds f p k s cur (c :: cs) pre
    have lt1 : lc L (pre.length + 1) = wrd f p k s cur c := by rw [hL]; exact lc_wds1 f p k s cur c cs pre
    have hLL : L.length = pre.length + cs.length + 2 := by rw [hL, List.length_append, wds_length, List.length_cons]; omega
    have b1 : (pre.length : Int) < (zs.length : Int) := by omega
    have b2 : (pre.length : Int) < (L.length : Int) := by omega
    have b3 : ((pre.length + 1 : Nat) : Int) < (L.length : Int) := by omega
    have b4 : pre.length < 9223372036854775807 := by omega
    have eL : L = (pre ++ [cur]) ++ wds f p (k - 3) (s ^ 8 % p) (wrd f p k s cur c) cs := by rw [hL, List.append_assoc, List.singleton_append, wds]
    have ih := ihc (k - 3) (s ^ 8 % p) (z.next hk) (pre ++ [cur]) (wrd f p k s cur c) zs (fun x hx => uc x (List.mem_cons_of_mem _ hx)) (wrd_len3 z hk _ _) (wrd_rg z _ _) (by simp at h3; omega) (by rw [List.length_append, List.length_singleton]; omega) (by rw [List.length_append, List.length_singleton]; omega) (fun t ht => by
      have := hv (t + 1) (by simp; omega)
      rw [co_cons_succ] at this
      rw [← this, List.length_append, List.length_singleton]; congr 1; omega)
    rw [← eL, List.length_append, List.length_singleton] at ih
    have h2 := steps_l2 z hk hc hr c0 (L := L) (t := pre.length) (zs := zs) lt0 ez (by omega) (by omega) (by omega) ih (2 ^ k / 8) 0 (by omega)
    obtain ⟨K1, k1⟩ := Ev.get (z.Word hk hc (hr.U z.h.o) c0)
    obtain ⟨K2, k2⟩ := Ev.get (z.Next hk)
    obtain ⟨K3, k3⟩ := Ev.get (s_same (l := wrd f p k s cur c) (by have := z.p18; rw [wrd_length]; omega))
    obtain ⟨K4, k4⟩ := Ev.get h2
    have es := wrd_len3 z hk cur c
    have ez' := (z.next hk).size
    clear ih ihc h2 hv hz hz' hp hp' hLL eL h3 uc hr hc c0
    refine Ev.mk (K1 + K2 + K3 + K4 + 3) fun K hK => ?_
    obtain ⟨K, rfl⟩ : ∃ K', K = K' + 1 + 1 + 1 := ⟨K - 3, by omega⟩
    rw [attestorlaw09_FoldSteps.l1, if_pos b1, attestorlaw09_FoldSteps.j3, if_pos (Int.natCast_nonneg _), if_pos b2, if_pos b1, rd_L1_nat, lt0, rd_nat, ez, k1 _ (by omega), Option.bind_some, k2 _ (by omega), Option.bind_some, if_pos rfl, if_pos rfl, w64_succ b4, if_pos (Int.natCast_nonneg _), if_pos b3, rd_L1_nat, lt1, k3 _ (by omega), Option.bind_some, if_pos rfl, ez', Option.bind_some, if_pos (by rw [es]), attestorlaw09_FoldSteps.j4]
    exact k4 K (by omega)
theorem FoldSteps : attestorlaw09_FoldSteps.Pure := by
  intro a0 a1 a2 l3 l4 w0 w1 w2 _ _ wu3 _ h4 wu4
  obtain ⟨f, p, k, s, e, z, h3, h7⟩ := s_domain w0 w1 w2
  have h128 : 2 ^ k ≤ 2 ^ 7 := Nat.pow_le_pow_right (by omega) h7
  have es := beq_iff_eq.1 (List.all_eq_true.1 shl7_tab k (List.mem_range.2 (by omega)))
  obtain ⟨y, hy⟩ : ∃ y, y = cpyAt (List.replicate (2 ^ k) 0) 0 l3 := ⟨_, rfl⟩
  have ly : y.length = 2 ^ k := hy ▸ cpyAt_zl (2 ^ k) l3
  have uy : UL y := hy ▸ cpyAt_zu (2 ^ k) (UL.of_wf wu3)
  obtain ⟨zs, hz⟩ : ∃ zs, zs = l4.take (k / 3) := ⟨_, rfl⟩
  have lz : zs.length ≤ k / 3 := by rw [hz, List.length_take]; omega
  have uz : UL zs := fun x hx => UL.of_wf wu4 x (List.mem_of_mem_take (hz ▸ hx))
  have ln : (y.map (· % (p : Int))).length = 2 ^ k := by rw [List.length_map, ly]
  have rg : Rg p (y.map (· % (p : Int))) := fun j => by rw [co_map_mod]; exact z.h.mod _
  have h1 := steps_l1 zs k s z [] (y.map (· % (p : Int))) zs uz ln rg (by omega) (by simp; omega) (by simp) (fun t _ => by simp)
  rw [List.nil_append] at h1
  obtain ⟨L, hL⟩ : ∃ L, L = wds f p k s (y.map (· % (p : Int))) zs := ⟨_, rfl⟩
  have hLL : L.length = zs.length + 1 := by rw [hL]; exact wds_length f p zs k s _
  have l0 : lc L 0 = y.map (· % (p : Int)) := by rw [hL]; exact lc_wds f p k s _ zs []
  have hw := z.Words ly uy uz lz
  rw [← hL] at h1 hw
  obtain ⟨K1, k1⟩ := Ev.get hw
  obtain ⟨K2, k2⟩ := Ev.get (steps_l0 z ly uy l0 (by omega) h1 (2 ^ k) 0 (by omega))
  have eo : attestorlaw09_own.f l4 (wrap64 (Int.tdiv (k : Int) 3)) = some zs := by
    rw [Int.tdiv_eq_ediv_of_nonneg (Int.natCast_nonneg _), w64 (by omega) (by omega), show (k : Int) / 3 = ((k / 3 : Nat) : Int) by omega, s_own (by first | omega | (have := h4; omega)), hz]
  have e0 : rd_L1 L 0 = y.map (· % (p : Int)) := (rd_L1_nat _ 0).trans l0
  refine ⟨K1 + K2 + 1, ?_⟩
  rw [attestorlaw09_FoldSteps.f, e, Option.bind_some]
  dsimp only
  rw [es, if_pos (by rw [wu64 (by omega) (by omega)]; omega), if_pos (Int.natCast_nonneg _), Int.toNat_natCast, if_pos (by omega), Option.bind_some, ← hy, eo, Option.bind_some, k1 _ (by omega), Option.bind_some, if_pos rfl, hLL, if_pos (by rw [w64_succ (by omega)]), if_pos (by omega), e0, ln, if_pos rfl, attestorlaw09_FoldSteps.j0]
  exact k2 _ (by omega)
end Go.Proofs.YthinfmfjpaikiaaDoor.Pure
