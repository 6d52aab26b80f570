/- Interpolation: what the program's Through answers (Newton's way). -/
import Derived.Test.YtmnahhacobfafaaDoorSpecL
import Derived.Test.YtmnahhacobfafaaDoorQ2
namespace Go.Proofs.YtmnahhacobfafaaDoor.Pure
open Go.RowKit Go.Proofs.YtmnahhacobfafaaDoor.Q Go.Proofs.YtmnahhacobfafaaDoor.Num Go.Proofs.YtmnahhacobfafaaDoor.Pol Go.Proofs.YtmnahhacobfafaaDoorW.PrintWords Go.Proofs.YtmnahhacobfafaaDoorW.PrintLast Go.Proofs.YtmnahhacobfafaaDoorW.PrintMore

theorem uptoP_fst {xs ys : List Int} : (uptoP xs ys xs.length).map (·.1) = xs := by
  refine List.ext_getElem (by simp [uptoP]) fun i h1 h2 => ?_
  simp [uptoP, pairOf, at64, h2]
theorem uptoP_mem {xs ys : List Int} {z : Int × Int} {n : Nat} : z ∈ uptoP xs ys n ↔ ∃ i, i < n ∧ z = (co xs i, co ys i) := by
  simp only [uptoP, List.mem_map, List.mem_range, pairOf, at64]
  constructor
  · rintro ⟨i, hi, rfl⟩; exact ⟨i, hi, rfl⟩
  · rintro ⟨i, hi, rfl⟩; exact ⟨i, hi, rfl⟩
section good
variable {f : Int} {p : Nat} (h : FP f p)
include h
theorem thru_dup : ∀ (l S : List Int), UL l → (∀ s ∈ S, 0 ≤ s ∧ s < p) → ∃ d, poly_Through.l0 f l S = some d ∧ (d = false ↔ (Apart p l ∧ ∀ x ∈ l, ∀ s ∈ S, ¬ Cg p x s))
  | [], S, _, _ => ⟨false, rfl, by simp [Apart]⟩
  | x :: r, S, hu, hS => by
    have hx := hu x (List.mem_cons_self ..)
    have m := h.mod x
    have hl := h.lei
    have e : poly_Through.l0 f (x :: r) S = if x % p ∈ S then some true else poly_Through.l0 f r (x % p :: S) := by
      rw [poly_Through.l0, s_Reduce h hx.1, Option.bind_some, if_pos (by omega)]
    by_cases hin : x % p ∈ S
    · refine ⟨true, by rw [e, if_pos hin], ?_⟩
      constructor
      · intro c; cases c
      · rintro ⟨_, c⟩; exact absurd (Cg.mod p x).symm (c x (List.mem_cons_self ..) _ hin)
    · obtain ⟨d, h1, h2⟩ := thru_dup r (x % p :: S) (fun c hc => hu c (List.mem_cons_of_mem _ hc)) (fun s hs => (List.mem_cons.1 hs).elim (fun e => e ▸ m) (hS s))
      refine ⟨d, by rw [e, if_neg hin, h1], h2.trans ?_⟩
      constructor
      · rintro ⟨a, b⟩
        refine ⟨⟨fun y hy c => b y hy _ (List.mem_cons_self ..) (c.symm.trans (Cg.mod p x).symm), a⟩, fun y hy s hs c => ?_⟩
        rcases List.mem_cons.1 hy with rfl | hy
        · have : y % p = s := ((Cg.mod p y).trans c).uniq m.1 m.2 (hS s hs).1 (hS s hs).2
          exact hin (this ▸ hs)
        · exact b y hy s (List.mem_cons_of_mem _ hs) c
      · rintro ⟨⟨a, b⟩, c⟩
        refine ⟨b, fun y hy s hs g => ?_⟩
        rcases List.mem_cons.1 hs with rfl | hs
        · exact a y hy ((Cg.mod p x).symm.trans g.symm)
        · exact c y (List.mem_cons_of_mem _ hy) s hs g
theorem thru_l1 : ∀ (L D : List (Int × Int)) (P : List Int), (∀ z ∈ L, U z.1 ∧ U z.2) → D.length + L.length ≤ 1024 → Apart p ((D ++ L).map (·.1)) → Deg p P D.length → (∀ z ∈ D, Cg p (ev P z.1) z.2) →
    ∃ R, Ev (fun k => poly_Through.l1 k f L (nrm p P) (nrm p (van [1] (D.map (·.1))))) (nrm p R) ∧ Deg p R (D ++ L).length ∧ ∀ z ∈ D ++ L, Cg p (ev R z.1) z.2
  | [], D, P, _, _, _, hd, hv => ⟨P, Ev.all fun _ => rfl, by simpa using hd, by simpa using hv⟩
  | z :: r, D, P, hu, hlen, ha, hd, hv => by
    obtain ⟨V, hV⟩ : ∃ V, V = van [1] (D.map (·.1)) := ⟨_, rfl⟩
    have hz := hu z (List.mem_cons_self ..)
    have hm : Mon V D.length := by have := Mon.one.van (D.map (·.1)); rw [← hV] at this; simpa using this
    have hlV := hm.length h.one
    have hlP := nrm_deg h.pos hd
    simp only [List.length_cons] at hlen
    have hnz : ¬ Cg p (ev V z.1) 0 := by
      rw [hV]
      refine van_nonroot h.pr _ _ (fun y hy => ?_) (by simpa [ev] using one_not_zero h)
      rw [List.map_append, List.map_cons] at ha
      exact apart_mid ha y hy
    obtain ⟨c, hc⟩ : ∃ c, c = (z.2 - ev P z.1) * inv p (ev V z.1) := ⟨_, rfl⟩
    obtain ⟨P', hP'⟩ : ∃ P', P' = padd P (psc c V) := ⟨_, rfl⟩
    have hd' : Deg p P' (D ++ [z]).length := by
      rw [hP', List.length_append]
      exact (hd.mono (by simp)).padd ((hm.deg (p := p)).psc)
    have hev : ∀ x, ev P' x = ev P x + c * ev V x := fun x => by rw [hP', ev_padd, ev_psc]
    have hv' : ∀ w ∈ D ++ [z], Cg p (ev P' w.1) w.2 := fun w hw => by
      rw [hev]
      rcases List.mem_append.1 hw with hw | hw
      · have : ev V w.1 = 0 := by rw [hV]; exact van_root _ _ (List.mem_map_of_mem hw)
        rw [this]; simpa using hv w hw
      · obtain rfl : w = z := by simpa using hw
        have h1 := inv_spec h.pr hnz
        rw [hc]
        have h2 := (Cg.refl p (w.2 - ev P w.1)).mul h1
        have h3 := (Cg.refl p (ev P w.1)).add h2
        exact (Cg.of_eq (by grind)).trans (h3.trans (Cg.of_eq (by omega)))
    have eV : van [1] ((D ++ [z]).map (·.1)) = pmul [-z.1, 1] V := by rw [List.map_append, van_append, ← hV]; rfl
    obtain ⟨R, hR, hRd, hRv⟩ := thru_l1 r (D ++ [z]) P' (fun w hw => hu w (List.mem_cons_of_mem _ hw)) (by simp; omega) (by simpa using ha) hd' hv'
    rw [eV] at hR
    refine ⟨R, ?_, by simpa using hRd, by simpa using hRv⟩
    rw [← hV]
    obtain ⟨e1, he1⟩ : ∃ e1, e1 = ev (nrm p P) z.1 % p := ⟨_, rfl⟩
    obtain ⟨e2, he2⟩ : ∃ e2, e2 = ev (nrm p V) z.1 % p := ⟨_, rfl⟩
    have c1 : Cg p e1 (ev P z.1) := by rw [he1]; exact (Cg.mod _ _).trans ((nrm_eqp p P).ev _)
    have c2 : Cg p e2 (ev V z.1) := by rw [he2]; exact (Cg.mod _ _).trans ((nrm_eqp p V).ev _)
    have m1 : 0 ≤ e1 := by rw [he1]; exact mod_nonneg h.pos _
    have m2 : 0 ≤ e2 := by rw [he2]; exact mod_nonneg h.pos _
    obtain ⟨c', hc'⟩ : ∃ c', c' = ((z.2 - e1) % p * inv p e2) % p := ⟨_, rfl⟩
    have mc : 0 ≤ c' := by rw [hc']; exact mod_nonneg h.pos _
    have cc : Cg p c' c := by
      rw [hc', hc, inv_congr c2]
      exact (Cg.mod _ _).trans (((Cg.mod _ _).trans ((Cg.refl _ _).sub c1)).mul (Cg.refl _ _))
    have s1 := s_Eval h.o (l := nrm p P) (by omega) (nrm_UL h.o P) hz.1.1
    have s2 := s_Eval h.o (l := nrm p V) (by omega) (nrm_UL h.o V) hz.1.1
    have s3 := s_Div h (mod_nonneg h.pos (z.2 - e1)) m2
    have s4 := s_Scale h.o (l := nrm p V) (by omega) (nrm_UL h.o V) mc
    have l5 := nrm_length_le p (psc c' (nrm p V))
    have l5' : (psc c' (nrm p V)).length = (nrm p V).length := by simp [psc]
    have s5 := s_AddP h.o (a := nrm p P) (b := nrm p (psc c' (nrm p V))) (by omega) (by omega) (nrm_UL h.o P) (nrm_UL h.o _)
    have e5 : nrm p (padd (nrm p P) (nrm p (psc c' (nrm p V)))) = nrm p P' := by
      rw [hP']
      exact nrm_congr ((nrm_eqp p P).padd ((nrm_eqp p _).trans (EqP.psc cc (nrm_eqp p V))))
    rw [e5] at s5
    have s6 := s_times h hm (by omega) hz.1.1
    rw [← he1] at s1
    rw [← he2] at s2
    rw [← hc'] at s3
    have s7 := s6.bind (G := fun k v' => poly_Through.l1 k f r (nrm p P') v') hR
    have s8 := s5.bind (G := fun k p' => (poly_times.f k f (nrm p V) z.1).bind fun v' => poly_Through.l1 k f r p' v') s7
    have s9 := s4.bind (G := fun k sc => (poly_Add.f k f (nrm p P) sc).bind fun p' => (poly_times.f k f (nrm p V) z.1).bind fun v' => poly_Through.l1 k f r p' v') s8
    have s10 := s3.bind (G := fun k c => (poly_Scale.f k f (nrm p V) c).bind fun sc => (poly_Add.f k f (nrm p P) sc).bind fun p' => (poly_times.f k f (nrm p V) z.1).bind fun v' => poly_Through.l1 k f r p' v') s9
    have s11 := s2.bind (G := fun k e2 => (field_Div.f k f ((z.2 - e1) % p) e2).bind fun c => (poly_Scale.f k f (nrm p V) c).bind fun sc => (poly_Add.f k f (nrm p P) sc).bind fun p' => (poly_times.f k f (nrm p V) z.1).bind fun v' => poly_Through.l1 k f r p' v') s10
    have s12 := s1.bind (G := fun k e1 => (field_Sub.f f z.2 e1).bind fun s => (poly_Eval.f k f (nrm p V) z.1).bind fun e2 => (field_Div.f k f s e2).bind fun c => (poly_Scale.f k f (nrm p V) c).bind fun sc => (poly_Add.f k f (nrm p P) sc).bind fun p' => (poly_times.f k f (nrm p V) z.1).bind fun v' => poly_Through.l1 k f r p' v')
      (Ev.congr (fun k => by rw [s_Sub h hz.2.1 m1, Option.bind_some]) s11)
    exact Ev.congr (fun k => rfl) s12

theorem s_Through {xs ys : List Int} (ux : UL xs) (uy : UL ys) (hl : xs.length = ys.length) (hm : xs.length ≤ 1024) (ha : Apart p xs) : ∃ R, Ev (fun k => poly_Through.f k f xs ys) (nrm p R, 0) ∧ Interp p xs ys R := by
  obtain ⟨R, h1, h2, h3⟩ := thru_l1 h (uptoP xs ys xs.length) [] [] (fun z hz => by obtain ⟨i, hi, rfl⟩ := uptoP_mem.1 hz; exact ⟨U.co ux i, U.co uy i⟩) (by simpa [uptoP] using hm) (by simpa [uptoP_fst] using ha) (fun i _ => by simpa using Cg.refl p 0) (by simp)
  refine ⟨R, ?_, by simpa [uptoP] using h2, fun i hi => ?_⟩
  · obtain ⟨d, e1, e2⟩ := thru_dup h xs [] ux (by simp)
    have : d = false := e2.2 ⟨ha, by simp⟩
    subst this
    have key := h1.bind (G := fun _ q => some (q, (0 : Int))) (Ev.all fun _ => rfl)
    refine Ev.congr (fun k => ?_) key
    rw [poly_Through.f, s_Valid h, Option.bind_some, if_pos ⟨rfl, hl⟩, if_pos hm, e1, Option.bind_some, if_neg (by simp), nrm_nil, List.map_nil]
    show _ = (poly_Through.l1 k f _ [] (nrm p [1])).bind _
    rw [nrm_one h]
  · exact h3 (co xs i, co ys i) (by rw [List.nil_append]; exact uptoP_mem.2 ⟨i, hi, rfl⟩)
theorem s_Through_dup {xs ys : List Int} (ux : UL xs) (hl : xs.length = ys.length) (hm : xs.length ≤ 1024) (ha : ¬ Apart p xs) : Ev (fun k => poly_Through.f k f xs ys) ([], 6) := by
  obtain ⟨d, e1, e2⟩ := thru_dup h xs [] ux (by simp)
  have : d = true := by
    cases d with
    | true => rfl
    | false => exact absurd (e2.1 rfl).1 ha
  subst this
  refine Ev.all fun k => ?_
  rw [poly_Through.f, s_Valid h, Option.bind_some, if_pos ⟨rfl, hl⟩, if_pos hm, e1, Option.bind_some, if_pos rfl]

/-! ### The reference's -/
end good
end Go.Proofs.YtmnahhacobfafaaDoor.Pure
