/- Through of the values of a polynomial at different numbers is the polynomial; Through passes through its points: for every input. -/
import Derived.Test.YtmnahhacobfafaaDoorSpecT
import Derived.Test.YtmnahhacobfafaaDoorSpecW
import Derived.Test.YtmnahhacobfafaaDoorSpecS
import Derived.Test.YtmnahhacobfafaaDoorQ9
namespace Go.Proofs.YtmnahhacobfafaaDoor.Pure
open Go.RowKit Go.Proofs.YtmnahhacobfafaaDoor.Q Go.Proofs.YtmnahhacobfafaaDoor.Num Go.Proofs.YtmnahhacobfafaaDoor.Pol Go.Proofs.YtmnahhacobfafaaDoorW.PrintWords Go.Proofs.YtmnahhacobfafaaDoorW.PrintLast Go.Proofs.YtmnahhacobfafaaDoorW.PrintMore

section good
variable {f : Int} {p : Nat} (h : FP f p)
include h
theorem one_l2 {x y R : List Int} (ux : UL x) (uy : UL y) (hl : x.length = y.length) (hn : x.length ≤ 24) (ha : Apart p x) (hR : Interp p x y R) :
    ∀ (d i : Nat) (vs : List Int), i + d = x.length → vs = (x.take i).map (fun t => ev y t % p) → Ev (fun k => attestorlaw03_PolyOne.l2 k f x y vs (nrm p R) i) true := by
  have lR := nrm_deg h.pos hR.1
  intro d
  induction d with
  | zero =>
    intro i vs hi hv
    have hvl : vs.length = x.length := by rw [hv, List.length_map, List.length_take]; omega
    have hvc : ∀ j, j < x.length → co vs j = ev y (co x j) % p := fun j hj => by
      have e : vs = x.map (fun t => ev y t % p) := by rw [hv, List.take_of_length_le (by omega)]
      rw [e, co_lt (by rw [List.length_map]; exact hj), List.getElem_map, co_lt hj]
    have uv : UL vs := fun c hc => by
      rw [hv] at hc
      obtain ⟨t, _, rfl⟩ := List.mem_map.1 hc
      exact h.U _
    obtain ⟨R2, h1, h2⟩ := s_Through h ux uv hvl.symm (by omega) ha
    have e : nrm p R2 = nrm p y := interp_same h ha h2 ⟨hl ▸ Deg.len p y, fun j hj => by rw [hvc j hj]; exact (Cg.mod _ _).symm⟩
    rw [e] at h1
    have sN := s_Normal h.o (l := y) (by omega) uy
    have ly := nrm_length_le p y
    have w0 := s_works.bind (G := fun _ t521 => some t521) (Ev.all fun _ => rfl)
    have w1 := (s_same (l := nrm p y) (by omega)).bind (G := fun k t520 => (if t520 = true then ((attestorlaw03_works.f k).bind fun t521 => (some t521)) else (none))) (Ev.congr (fun k => if_pos rfl) w0)
    have w2 := sN.bind (G := fun k t517 => (attestorlaw03_same.f k (nrm p y) t517).bind fun t520 => (if t520 = true then ((attestorlaw03_works.f k).bind fun t521 => (some t521)) else (none))) w1
    have w3 := h1.bind (G := fun k bt513 => (if bt513.2 = 0 then ((poly_Normal.f k f y).bind fun t517 => ((attestorlaw03_same.f k bt513.1 t517).bind fun t520 => (if t520 = true then ((attestorlaw03_works.f k).bind fun t521 => (some t521)) else (none)))) else (none))) (Ev.congr (fun k => if_pos rfl) w2)
    have g : ¬ (i : Int) < (x.length : Int) := by omega
    refine Ev.succ (fun k => ?_) w3
    rw [attestorlaw03_PolyOne.l2, if_neg g]
  | succ d ih =>
    intro i vs hi hv
    have gi : i < x.length := by omega
    have gy : i < y.length := by omega
    have hvl : vs.length = i := by rw [hv, List.length_map, List.length_take]; omega
    have n1 := ih (i + 1) (vs ++ [ev y (co x i) % p]) (by omega) (by rw [hv, List.take_succ_eq_append_getElem gi, List.map_append, co_lt gi]; rfl)
    have sE := s_Eval h.o (l := nrm p R) (by omega) (nrm_UL h.o R) (U.co ux i).1
    have sE2 := s_Eval h.o (l := y) (by omega) uy (U.co ux i).1
    have eR : ev (nrm p R) (co x i) % p = co y i % p := (((nrm_eqp p R).ev (co x i)).trans (hR.2 i gi)).mod_eq
    rw [eR] at sE
    have w1 := sE2.bind (G := fun k t509 => (if vs.length < 17592186044416 then (attestorlaw03_PolyOne.l2 k f x y (vs ++ [t509]) (nrm p R) (wrap64 ((i : Int) + 1))) else (none))) (Ev.congr (fun k => by rw [if_pos (by omega), w64_succ (by omega)]) n1)
    have w2 := sE.bind (G := fun k t505 => (if (i : Int) < (y.length : Int) then ((field_Reduce.f f (rd y (i : Int))).bind fun t507 => (if t505 = t507 then ((poly_Eval.f k f y (co x i)).bind fun t509 => (if vs.length < 17592186044416 then (attestorlaw03_PolyOne.l2 k f x y (vs ++ [t509]) (nrm p R) (wrap64 ((i : Int) + 1))) else (none))) else (none))) else (none))) (Ev.congr (fun k => by rw [if_pos (Int.ofNat_lt.2 gy), rd_nat, s_Reduce h (U.co uy i).1, Option.bind_some, if_pos rfl]) w1)
    refine Ev.succ (fun k => ?_) (Ev.succ (G := fun k => attestorlaw03_PolyOne.j6 k f x y vs (nrm p R) (i : Int)) (fun k => ?_) w2)
    · rw [attestorlaw03_PolyOne.l2, if_pos (Int.ofNat_lt.2 gi)]
    · rw [attestorlaw03_PolyOne.j6, if_pos (Int.natCast_nonneg _), if_pos (Int.ofNat_lt.2 gi), rd_nat]
theorem one_j3 {x y : List Int} (ux : UL x) (uy : UL y) (hl : x.length = y.length) (hn : x.length ≤ 24) (ha : Apart p x) : Ev (fun k => attestorlaw03_PolyOne.j3 k f x y []) true := by
  obtain ⟨R, h1, h2⟩ := s_Through h ux uy hl (by omega) ha
  have lR := nrm_deg h.pos h2.1
  have w0 := one_l2 h ux uy hl hn ha h2 x.length 0 [] (by omega) rfl
  have gR : ¬ ((nrm p R).length : Int) > (x.length : Int) := by omega
  have w1 := h1.bind (G := fun k bt500 => (if bt500.2 = 0 then (if (bt500.1.length : Int) > (x.length : Int) then (none) else (attestorlaw03_PolyOne.j4 k f x y [] bt500.1)) else (none))) (b := true)
    (Ev.congr (fun k => by rw [if_pos rfl]; exact if_neg gR) (Ev.succ (G := fun k => attestorlaw03_PolyOne.j4 k f x y [] (nrm p R)) (fun k => by rw [attestorlaw03_PolyOne.j4]; rfl) w0))
  refine Ev.succ (fun k => ?_) w1
  rw [attestorlaw03_PolyOne.j3]
/-- The inner loop: is the number there already? -/
theorem one_l1 {l1 l2 x y : List Int} (u1 : UL l1) (ux : UL x) (hl : x.length = y.length) (hn : x.length < 24) {i : Nat} (gi : i < l1.length) (gm : i < 60)
    (hy : Ev (fun k => attestorlaw03_PolyOne.l0 k l1 l2 f x y ((i + 1 : Nat) : Int)) true)
    (hz : (∀ t, t < x.length → ¬ Cg p (co l1 i) (co x t)) → Ev (fun k => attestorlaw03_PolyOne.l0 k l1 l2 f (x ++ [co l1 i]) (y ++ [if i < l2.length then co l2 i else (i : Int)]) ((i + 1 : Nat) : Int)) true) :
    ∀ (d j : Nat) (b : Bool), j + d = x.length → (b = false → ∀ t, t < j → ¬ Cg p (co l1 i) (co x t)) → Ev (fun k => attestorlaw03_PolyOne.l1 k l1 l2 f x y i b j) true := by
  intro d
  induction d with
  | zero =>
    intro j b hj hb
    have g : ¬ (j : Int) < (x.length : Int) := by omega
    cases b with
    | true =>
      refine Ev.succ (fun k => ?_) hy
      rw [attestorlaw03_PolyOne.l1, if_neg g, if_pos rfl, w64_succ (by omega)]
    | false =>
      have hz := hz (fun t ht => hb rfl t (by omega))
      by_cases e : i < l2.length
      · rw [if_pos e] at hz
        refine Ev.succ (fun k => ?_) hz
        rw [attestorlaw03_PolyOne.l1, if_neg g, if_neg (by decide), if_pos (Int.natCast_nonneg _), if_pos (Int.ofNat_lt.2 gi), if_pos (by omega), Option.bind_some, if_pos (Int.ofNat_lt.2 e), if_pos (by omega), rd_nat, rd_nat, w64_succ (by omega)]
      · rw [if_neg e] at hz
        refine Ev.succ (fun k => ?_) hz
        rw [attestorlaw03_PolyOne.l1, if_neg g, if_neg (by decide), if_pos (Int.natCast_nonneg _), if_pos (Int.ofNat_lt.2 gi), if_pos (by omega), Option.bind_some, if_neg (by omega), if_pos (by omega), rd_nat, wu64 (by omega) (by omega), w64_succ (by omega)]
  | succ d ih =>
    intro j b hj hb
    have g : j < x.length := by omega
    cases b with
    | true =>
      refine Ev.succ (fun k => ?_) (ih (j + 1) true (by omega) (fun e => by simp at e))
      rw [attestorlaw03_PolyOne.l1, if_pos (Int.ofNat_lt.2 g), if_pos rfl, w64_succ (by omega)]
    | false =>
      have n1 := ih (j + 1) ((co x j - co l1 i) % p == 0) (by omega) (fun e t ht => by
        rcases Nat.lt_or_ge t j with q | q
        · exact hb rfl t q
        · have : t = j := by omega
          subst this
          intro c
          have : (co x t - co l1 i) % p = 0 := mod_eq_zero.2 c.symm.sub_zero
          rw [this] at e
          simp at e)
      refine Ev.succ (fun k => ?_) n1
      rw [attestorlaw03_PolyOne.l1, if_pos (Int.ofNat_lt.2 g), if_neg (by decide), if_pos (Int.natCast_nonneg _), if_pos (Int.natCast_nonneg _), if_pos (Int.ofNat_lt.2 gi), rd_nat, rd_nat, s_Sub h (U.co ux j).1 (U.co u1 i).1, Option.bind_some, w64_succ (by omega)]
theorem one_l0 {l1 l2 : List Int} (u1 : UL l1) (u2 : UL l2) : ∀ (d i : Nat) (x y : List Int), i + d = 60 → UL x → UL y → x.length = y.length → x.length ≤ 24 → IA p x → Ev (fun k => attestorlaw03_PolyOne.l0 k l1 l2 f x y i) true := by
  intro d
  induction d with
  | zero =>
    intro i x y hi ux uy hl hn ha
    have K := one_j3 h ux uy hl hn ((apart_iff x).2 ha)
    refine Ev.succ (fun k => ?_) K
    rw [attestorlaw03_PolyOne.l0]
    split
    · split
      · rw [if_neg (by omega)]
      · rfl
    · rfl
  | succ d ih =>
    intro i x y hi ux uy hl hn ha
    have K := one_j3 h ux uy hl hn ((apart_iff x).2 ha)
    by_cases gi : i < l1.length
    · by_cases gn : x.length < 24
      · have uz : U (if i < l2.length then co l2 i else (i : Int)) := by
          split
          · exact U.co u2 i
          · unfold U; omega
        have n1 := ih (i + 1) x y (by omega) ux uy hl hn ha
        have n2 := one_l1 h (l2 := l2) u1 ux hl gn gi (by omega) n1 (fun hz => ih (i + 1) _ _ (by omega) (ux.append (UL.cons (U.co u1 i) UL.nil)) (uy.append (UL.cons uz UL.nil)) (by simp [hl]) (by simp; omega) (fun a b hb hal => by
          rw [List.length_append, List.length_singleton] at hal
          rw [co_append, co_append]
          by_cases e : a < x.length
          · rw [if_pos e, if_pos (by omega)]; exact ha a b hb e
          · have : a = x.length := by omega
            subst this
            rw [if_neg e, if_pos hb, Nat.sub_self]
            exact hz b hb)) x.length 0 false (by omega) (fun _ t ht => by omega)
        refine Ev.succ (fun k => ?_) (Ev.succ (G := fun k => attestorlaw03_PolyOne.j1 k l1 l2 f x y (i : Int)) (fun k => ?_) n2)
        · rw [attestorlaw03_PolyOne.l0, if_pos (Int.ofNat_lt.2 gi), if_pos (by omega), if_pos (by omega)]
        · rw [attestorlaw03_PolyOne.j1]; rfl
      · refine Ev.succ (fun k => ?_) K
        rw [attestorlaw03_PolyOne.l0, if_pos (Int.ofNat_lt.2 gi), if_neg (by omega)]
    · refine Ev.succ (fun k => ?_) K
      rw [attestorlaw03_PolyOne.l0, if_neg (by omega)]
end good

theorem PolyOne : attestorlaw03_PolyOne.Pure := by
  intro x l1 l2 hx _ hy1 hw1 _ hy2 hw2
  obtain ⟨f, hf⟩ : ∃ f, f = wrap64 (Int.tmod x 4) := ⟨_, rfl⟩
  have hf4 := field4 hx
  rw [← hf] at hf4
  obtain ⟨p, h⟩ := fp_of hf4.1 hf4.2
  have n1 := one_l0 h (UL.of_wf hw1) (UL.of_wf hw2) 60 0 [] [] rfl UL.nil UL.nil rfl (by simp) (fun a b _ ha => by simp at ha)
  refine Ev.ex (F := fun k => attestorlaw03_PolyOne.f k x l1 l2) (Ev.congr (fun k => ?_) n1)
  rw [attestorlaw03_PolyOne.f, ← hf]
  rfl
end Go.Proofs.YtmnahhacobfafaaDoor.Pure
