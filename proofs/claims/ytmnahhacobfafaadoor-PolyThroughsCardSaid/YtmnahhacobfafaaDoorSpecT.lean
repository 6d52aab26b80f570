/- Interpolation: what Through answers, the program's (Newton's way) and the reference's (Lagrange's way). -/
import Derived.Test.YtmnahhacobfafaaDoorSpecR
namespace Go.Proofs.YtmnahhacobfafaaDoor.Pure
open Go.RowKit Go.Proofs.YtmnahhacobfafaaDoor.Q Go.Proofs.YtmnahhacobfafaaDoor.Num Go.Proofs.YtmnahhacobfafaaDoor.Pol Go.Proofs.YtmnahhacobfafaaDoorW.PrintWords Go.Proofs.YtmnahhacobfafaaDoorW.PrintLast Go.Proofs.YtmnahhacobfafaaDoorW.PrintMore

/-- All different, told by places. -/
def IA (p : Int) (xs : List Int) : Prop := ∀ a b, b < a → a < xs.length → ¬ Cg p (co xs a) (co xs b)
theorem apart_iff {p : Int} : ∀ xs : List Int, Apart p xs ↔ IA p xs
  | [] => ⟨fun _ a b _ h => by simp at h, fun _ => trivial⟩
  | x :: l => by
    have ih := apart_iff (p := p) l
    constructor
    · intro h a b hb ha
      obtain ⟨a, rfl⟩ : ∃ a', a = a' + 1 := ⟨a - 1, by omega⟩
      have ha' : a < l.length := by simpa using ha
      cases b with
      | zero => rw [co_cons_succ, co_cons_zero]; exact fun c => h.1 _ (co_mem ha') c.symm
      | succ b => rw [co_cons_succ, co_cons_succ]; exact ih.1 h.2 a b (by omega) ha'
    · intro h
      refine ⟨fun y hy c => ?_, ih.2 fun a b hb ha => ?_⟩
      · obtain ⟨i, hi, rfl⟩ := List.getElem_of_mem hy
        have := h (i + 1) 0 (by omega) (by simpa using hi)
        rw [co_cons_succ, co_cons_zero, co_lt hi] at this
        exact this c.symm
      · have := h (a + 1) (b + 1) (by omega) (by simpa using ha)
        simpa using this
theorem apart_mid {p : Int} {x : Int} : ∀ {A B : List Int}, Apart p (A ++ x :: B) → ∀ y ∈ A, ¬ Cg p x y
  | [], _, _, y, hy => by simp at hy
  | a :: A, B, h, y, hy => by
    rcases List.mem_cons.1 hy with e | e
    · subst e; exact fun c => h.1 x (by simp) c.symm
    · exact apart_mid h.2 y e

theorem uptoP_fst {xs ys : List Int} : (uptoP xs ys xs.length).map (·.1) = xs := by
  refine List.ext_getElem (by simp [uptoP]) fun i h1 h2 => ?_
  simp [uptoP, pairOf, at64, h2]
theorem uptoP_mem {xs ys : List Int} {z : Int × Int} {n : Nat} : z ∈ uptoP xs ys n ↔ ∃ i, i < n ∧ z = (co xs i, co ys i) := by
  simp only [uptoP, List.mem_map, List.mem_range, pairOf, at64]
  constructor
  · rintro ⟨i, hi, rfl⟩; exact ⟨i, hi, rfl⟩
  · rintro ⟨i, hi, rfl⟩; exact ⟨i, hi, rfl⟩
/-- The numbers before place j, that at place i left out. -/
def oth (xs : List Int) (i j : Nat) : List Int := ((List.range j).filter (· ≠ i)).map (co xs)
theorem oth_succ (xs : List Int) (i j : Nat) : oth xs i (j + 1) = if j = i then oth xs i j else oth xs i j ++ [co xs j] := by
  unfold oth
  rw [List.range_succ, List.filter_append, List.map_append]
  by_cases e : j = i <;> simp [e]
theorem oth_length (xs : List Int) {i n : Nat} (hi : i < n) : (oth xs i n).length < n := by
  unfold oth
  rw [List.length_map]
  have := List.length_filter_lt_length_iff_exists (p := fun x : Nat => decide (x ≠ i)) (l := List.range n)
  rw [List.length_range] at this
  exact this.2 ⟨i, List.mem_range.2 hi, by simp⟩
theorem oth_mem {xs : List Int} {i n : Nat} {x : Int} : x ∈ oth xs i n ↔ ∃ j, j < n ∧ j ≠ i ∧ x = co xs j := by
  unfold oth
  simp only [List.mem_map, List.mem_filter, List.mem_range, decide_eq_true_eq]
  constructor
  · rintro ⟨j, ⟨h1, h2⟩, rfl⟩; exact ⟨j, h1, h2, rfl⟩
  · rintro ⟨j, h1, h2, rfl⟩; exact ⟨j, ⟨h1, h2⟩, rfl⟩
/-- The polynomial that both find. -/
def Interp (p : Nat) (xs ys R : List Int) : Prop := Deg p R xs.length ∧ ∀ i, i < xs.length → Cg p (ev R (co xs i)) (co ys i)

theorem rthru_l3 {f : Int} {xs ys : List Int} (hm : xs.length ≤ 1024) (i : Nat) (acc : List Int) {v : List Int × Int} (hK : Ev (fun k => (attestorref03_Vanish.f k f (oth xs i xs.length)).bind fun bt276 => (if 0 ≤ (i : Int) then (if (i : Int) < (ys.length : Int) then (if (i : Int) < (xs.length : Int) then ((attestorref03_Eval.f k f bt276.1 (rd xs i)).bind fun t282 => ((attestorref01_Div.f k f (rd ys i) t282).bind fun t283 => ((attestorref03_Scale.f k f bt276.1 t283).bind fun t284 => ((attestorref03_Add.f k f acc t284).bind fun t287 => (attestorref03_Through.l2 k f xs ys t287 (wrap64 ((i : Int) + 1))))))) else (none)) else (none)) else (none))) v) :
    ∀ (d j : Nat), j + d = xs.length → Ev (fun k => attestorref03_Through.l3 k f xs ys acc i (oth xs i j) j) v := by
  intro d
  induction d with
  | zero =>
    intro j hj
    obtain rfl : j = xs.length := by omega
    refine Ev.succ (fun k => ?_) hK
    rw [attestorref03_Through.l3, if_neg (by omega)]
  | succ d ih =>
    intro j hj
    refine Ev.succ (fun k => ?_) (ih (j + 1) (by omega))
    rw [attestorref03_Through.l3, if_pos (by omega), oth_succ]
    by_cases e : j = i
    · rw [if_pos (by omega), if_pos e, w64_succ (by omega)]
    · rw [if_neg (by omega), if_neg e, if_pos (by omega), if_pos (by rw [oth, List.length_map]; have := List.length_filter_le (fun x : Nat => decide (x ≠ i)) (List.range j); rw [List.length_range] at this; omega), w64_succ (by omega), rd_nat]

section good
variable {f : Int} {p : Nat} (h : FP f p)
include h
theorem one_not_zero : ¬ Cg p (1 : Int) 0 := fun c => by
  have := c.mod_eq
  rw [Int.emod_eq_of_lt (by omega) h.one] at this
  simp at this
/-! ### The program's -/
theorem thru_dup : ∀ (l S : List Int), UL l → (∀ s ∈ S, 0 ≤ s ∧ s < p) → ∃ d, poly_Through.l0 f l S = some d ∧ (d = false ↔ (Apart p l ∧ ∀ x ∈ l, ∀ s ∈ S, ¬ Cg p x s))
  | [], S, _, _ => ⟨false, rfl, by simp [Apart]⟩
  | x :: r, S, hu, hS => by
    have hx := hu x (List.mem_cons_self ..)
    have m := h.mod x
    have hl := h.lei
    have e : poly_Through.l0 f (x :: r) S = if x % p ∈ S then some true else poly_Through.l0 f r (x % p :: S) := by
      rw [poly_Through.l0, s_Reduce h hx.1, Option.bind_some, if_pos (by omega)]
    by_cases hin : x % p ∈ S
    · refine ⟨true, by rw [e, if_pos hin], ?_⟩
      constructor
      · intro c; cases c
      · rintro ⟨_, c⟩; exact absurd (Cg.mod p x).symm (c x (List.mem_cons_self ..) _ hin)
    · obtain ⟨d, h1, h2⟩ := thru_dup r (x % p :: S) (fun c hc => hu c (List.mem_cons_of_mem _ hc)) (fun s hs => (List.mem_cons.1 hs).elim (fun e => e ▸ m) (hS s))
      refine ⟨d, by rw [e, if_neg hin, h1], h2.trans ?_⟩
      constructor
      · rintro ⟨a, b⟩
        refine ⟨⟨fun y hy c => b y hy _ (List.mem_cons_self ..) (c.symm.trans (Cg.mod p x).symm), a⟩, fun y hy s hs c => ?_⟩
        rcases List.mem_cons.1 hy with rfl | hy
        · have : y % p = s := ((Cg.mod p y).trans c).uniq m.1 m.2 (hS s hs).1 (hS s hs).2
          exact hin (this ▸ hs)
        · exact b y hy s (List.mem_cons_of_mem _ hs) c
      · rintro ⟨⟨a, b⟩, c⟩
        refine ⟨b, fun y hy s hs g => ?_⟩
        rcases List.mem_cons.1 hs with rfl | hs
        · exact a y hy ((Cg.mod p x).symm.trans g.symm)
        · exact c y (List.mem_cons_of_mem _ hy) s hs g
theorem thru_l1 : ∀ (L D : List (Int × Int)) (P : List Int), (∀ z ∈ L, U z.1 ∧ U z.2) → D.length + L.length ≤ 1024 → Apart p ((D ++ L).map (·.1)) → Deg p P D.length → (∀ z ∈ D, Cg p (ev P z.1) z.2) →
    ∃ R, Ev (fun k => poly_Through.l1 k f L (nrm p P) (nrm p (van [1] (D.map (·.1))))) (nrm p R) ∧ Deg p R (D ++ L).length ∧ ∀ z ∈ D ++ L, Cg p (ev R z.1) z.2
  | [], D, P, _, _, _, hd, hv => ⟨P, Ev.all fun _ => rfl, by simpa using hd, by simpa using hv⟩
  | z :: r, D, P, hu, hlen, ha, hd, hv => by
    obtain ⟨V, hV⟩ : ∃ V, V = van [1] (D.map (·.1)) := ⟨_, rfl⟩
    have hz := hu z (List.mem_cons_self ..)
    have hm : Mon V D.length := by have := Mon.one.van (D.map (·.1)); rw [← hV] at this; simpa using this
    have hlV := hm.length h.one
    have hlP := nrm_deg h.pos hd
    simp only [List.length_cons] at hlen
    have hnz : ¬ Cg p (ev V z.1) 0 := by
      rw [hV]
      refine van_nonroot h.pr _ _ (fun y hy => ?_) (by simpa [ev] using one_not_zero h)
      rw [List.map_append, List.map_cons] at ha
      exact apart_mid ha y hy
    obtain ⟨c, hc⟩ : ∃ c, c = (z.2 - ev P z.1) * inv p (ev V z.1) := ⟨_, rfl⟩
    obtain ⟨P', hP'⟩ : ∃ P', P' = padd P (psc c V) := ⟨_, rfl⟩
    have hd' : Deg p P' (D ++ [z]).length := by
      rw [hP', List.length_append]
      exact (hd.mono (by simp)).padd ((hm.deg (p := p)).psc)
    have hev : ∀ x, ev P' x = ev P x + c * ev V x := fun x => by rw [hP', ev_padd, ev_psc]
    have hv' : ∀ w ∈ D ++ [z], Cg p (ev P' w.1) w.2 := fun w hw => by
      rw [hev]
      rcases List.mem_append.1 hw with hw | hw
      · have : ev V w.1 = 0 := by rw [hV]; exact van_root _ _ (List.mem_map_of_mem hw)
        rw [this]; simpa using hv w hw
      · obtain rfl : w = z := by simpa using hw
        have h1 := inv_spec h.pr hnz
        rw [hc]
        have h2 := (Cg.refl p (w.2 - ev P w.1)).mul h1
        have h3 := (Cg.refl p (ev P w.1)).add h2
        exact (Cg.of_eq (by grind)).trans (h3.trans (Cg.of_eq (by omega)))
    have eV : van [1] ((D ++ [z]).map (·.1)) = pmul [-z.1, 1] V := by rw [List.map_append, van_append, ← hV]; rfl
    obtain ⟨R, hR, hRd, hRv⟩ := thru_l1 r (D ++ [z]) P' (fun w hw => hu w (List.mem_cons_of_mem _ hw)) (by simp; omega) (by simpa using ha) hd' hv'
    rw [eV] at hR
    refine ⟨R, ?_, by simpa using hRd, by simpa using hRv⟩
    rw [← hV]
    obtain ⟨e1, he1⟩ : ∃ e1, e1 = ev (nrm p P) z.1 % p := ⟨_, rfl⟩
    obtain ⟨e2, he2⟩ : ∃ e2, e2 = ev (nrm p V) z.1 % p := ⟨_, rfl⟩
    have c1 : Cg p e1 (ev P z.1) := by rw [he1]; exact (Cg.mod _ _).trans ((nrm_eqp p P).ev _)
    have c2 : Cg p e2 (ev V z.1) := by rw [he2]; exact (Cg.mod _ _).trans ((nrm_eqp p V).ev _)
    have m1 : 0 ≤ e1 := by rw [he1]; exact mod_nonneg h.pos _
    have m2 : 0 ≤ e2 := by rw [he2]; exact mod_nonneg h.pos _
    obtain ⟨c', hc'⟩ : ∃ c', c' = ((z.2 - e1) % p * inv p e2) % p := ⟨_, rfl⟩
    have mc : 0 ≤ c' := by rw [hc']; exact mod_nonneg h.pos _
    have cc : Cg p c' c := by
      rw [hc', hc, inv_congr c2]
      exact (Cg.mod _ _).trans (((Cg.mod _ _).trans ((Cg.refl _ _).sub c1)).mul (Cg.refl _ _))
    have s1 := s_Eval h (l := nrm p P) (by omega) (nrm_UL h P) hz.1.1
    have s2 := s_Eval h (l := nrm p V) (by omega) (nrm_UL h V) hz.1.1
    have s3 := s_Div h (mod_nonneg h.pos (z.2 - e1)) m2
    have s4 := s_Scale h (l := nrm p V) (by omega) (nrm_UL h V) mc
    have l5 := nrm_length_le p (psc c' (nrm p V))
    have l5' : (psc c' (nrm p V)).length = (nrm p V).length := by simp [psc]
    have s5 := s_AddP h (a := nrm p P) (b := nrm p (psc c' (nrm p V))) (by omega) (by omega) (nrm_UL h P) (nrm_UL h _)
    have e5 : nrm p (padd (nrm p P) (nrm p (psc c' (nrm p V)))) = nrm p P' := by
      rw [hP']
      exact nrm_congr ((nrm_eqp p P).padd ((nrm_eqp p _).trans (EqP.psc cc (nrm_eqp p V))))
    rw [e5] at s5
    have s6 := s_times h hm (by omega) hz.1.1
    rw [← he1] at s1
    rw [← he2] at s2
    rw [← hc'] at s3
    have s7 := s6.bind (G := fun k v' => poly_Through.l1 k f r (nrm p P') v') hR
    have s8 := s5.bind (G := fun k p' => (poly_times.f k f (nrm p V) z.1).bind fun v' => poly_Through.l1 k f r p' v') s7
    have s9 := s4.bind (G := fun k sc => (poly_Add.f k f (nrm p P) sc).bind fun p' => (poly_times.f k f (nrm p V) z.1).bind fun v' => poly_Through.l1 k f r p' v') s8
    have s10 := s3.bind (G := fun k c => (poly_Scale.f k f (nrm p V) c).bind fun sc => (poly_Add.f k f (nrm p P) sc).bind fun p' => (poly_times.f k f (nrm p V) z.1).bind fun v' => poly_Through.l1 k f r p' v') s9
    have s11 := s2.bind (G := fun k e2 => (field_Div.f k f ((z.2 - e1) % p) e2).bind fun c => (poly_Scale.f k f (nrm p V) c).bind fun sc => (poly_Add.f k f (nrm p P) sc).bind fun p' => (poly_times.f k f (nrm p V) z.1).bind fun v' => poly_Through.l1 k f r p' v') s10
    have s12 := s1.bind (G := fun k e1 => (field_Sub.f f z.2 e1).bind fun s => (poly_Eval.f k f (nrm p V) z.1).bind fun e2 => (field_Div.f k f s e2).bind fun c => (poly_Scale.f k f (nrm p V) c).bind fun sc => (poly_Add.f k f (nrm p P) sc).bind fun p' => (poly_times.f k f (nrm p V) z.1).bind fun v' => poly_Through.l1 k f r p' v')
      (Ev.congr (fun k => by rw [s_Sub h hz.2.1 m1, Option.bind_some]) s11)
    exact Ev.congr (fun k => rfl) s12

theorem s_Through {xs ys : List Int} (ux : UL xs) (uy : UL ys) (hl : xs.length = ys.length) (hm : xs.length ≤ 1024) (ha : Apart p xs) : ∃ R, Ev (fun k => poly_Through.f k f xs ys) (nrm p R, 0) ∧ Interp p xs ys R := by
  obtain ⟨R, h1, h2, h3⟩ := thru_l1 h (uptoP xs ys xs.length) [] [] (fun z hz => by obtain ⟨i, hi, rfl⟩ := uptoP_mem.1 hz; exact ⟨U.co ux i, U.co uy i⟩) (by simpa [uptoP] using hm) (by simpa [uptoP_fst] using ha) (fun i _ => by simpa using Cg.refl p 0) (by simp)
  refine ⟨R, ?_, by simpa [uptoP] using h2, fun i hi => ?_⟩
  · obtain ⟨d, e1, e2⟩ := thru_dup h xs [] ux (by simp)
    have : d = false := e2.2 ⟨ha, by simp⟩
    subst this
    have key := h1.bind (G := fun _ q => some (q, (0 : Int))) (Ev.all fun _ => rfl)
    refine Ev.congr (fun k => ?_) key
    rw [poly_Through.f, s_Valid h, Option.bind_some, if_pos ⟨rfl, hl⟩, if_pos hm, e1, Option.bind_some, if_neg (by simp), nrm_nil, List.map_nil]
    show _ = (poly_Through.l1 k f _ [] (nrm p [1])).bind _
    rw [nrm_one h]
  · exact h3 (co xs i, co ys i) (by rw [List.nil_append]; exact uptoP_mem.2 ⟨i, hi, rfl⟩)
theorem s_Through_dup {xs ys : List Int} (ux : UL xs) (hl : xs.length = ys.length) (hm : xs.length ≤ 1024) (ha : ¬ Apart p xs) : Ev (fun k => poly_Through.f k f xs ys) ([], 6) := by
  obtain ⟨d, e1, e2⟩ := thru_dup h xs [] ux (by simp)
  have : d = true := by
    cases d with
    | true => rfl
    | false => exact absurd (e2.1 rfl).1 ha
  subst this
  refine Ev.all fun k => ?_
  rw [poly_Through.f, s_Valid h, Option.bind_some, if_pos ⟨rfl, hl⟩, if_pos hm, e1, Option.bind_some, if_pos rfl]

/-! ### The reference's -/
theorem rthru_l2 {xs ys : List Int} (ux : UL xs) (uy : UL ys) (hl : xs.length = ys.length) (hm : xs.length ≤ 1024) (ha : IA p xs) :
    ∀ (d i : Nat) (P : List Int), i + d = xs.length → Deg p P xs.length → (∀ j, j < xs.length → Cg p (ev P (co xs j)) (if j < i then co ys j else 0)) → ∃ R, Ev (fun k => attestorref03_Through.l2 k f xs ys (nrm p P) i) (nrm p R, 0) ∧ Interp p xs ys R := by
  intro d
  induction d with
  | zero =>
    intro i P hi hd hv
    refine ⟨P, Ev.succ (F := fun _ => some (nrm p P, 0)) (fun k => ?_) (Ev.all fun _ => rfl), hd, fun j hj => ?_⟩
    · rw [attestorref03_Through.l2, if_neg (by omega)]
    · have := hv j hj
      rwa [if_pos (by omega)] at this
  | succ d ih =>
    intro i P hi hd hv
    have hin : i < xs.length := by omega
    have hxi := U.co ux i
    have hyi := U.co uy i
    have ho := oth_length xs hin
    have uo : UL (oth xs i xs.length) := fun c hc => by obtain ⟨j, _, _, rfl⟩ := oth_mem.1 hc; exact U.co ux j
    obtain ⟨V, hV⟩ : ∃ V, V = van [1] (oth xs i xs.length) := ⟨_, rfl⟩
    have hmo : Mon V (oth xs i xs.length).length := by have := Mon.one.van (oth xs i xs.length); rw [← hV] at this; simpa using this
    have hlV := hmo.length h.one
    have hlP := nrm_deg h.pos hd
    have hnz : ¬ Cg p (ev V (co xs i)) 0 := by
      rw [hV]
      refine van_nonroot h.pr _ _ (fun y hy => ?_) (by simpa [ev] using one_not_zero h)
      obtain ⟨j, hj, hji, rfl⟩ := oth_mem.1 hy
      rcases Nat.lt_or_gt_of_ne hji with e | e
      · exact ha i j e hin
      · exact fun c => ha j i e hj c.symm
    obtain ⟨c, hc⟩ : ∃ c, c = co ys i * inv p (ev V (co xs i)) := ⟨_, rfl⟩
    obtain ⟨P', hP'⟩ : ∃ P', P' = padd P (psc c V) := ⟨_, rfl⟩
    have hd' : Deg p P' xs.length := by rw [hP']; exact hd.padd (((hmo.deg (p := p)).mono (by omega)).psc)
    have hv' : ∀ j, j < xs.length → Cg p (ev P' (co xs j)) (if j < i + 1 then co ys j else 0) := fun j hj => by
      rw [hP', ev_padd, ev_psc]
      by_cases e : j = i
      · subst e
        have h0 := hv j hj
        rw [if_neg (by omega)] at h0
        rw [if_pos (by omega), hc]
        have h2 := (Cg.refl p (co ys j)).mul (inv_spec h.pr hnz)
        exact (h0.add ((Cg.of_eq (by grind)).trans h2)).trans (Cg.of_eq (by omega))
      · have : ev V (co xs j) = 0 := by rw [hV]; exact van_root _ _ (oth_mem.2 ⟨j, hj, e, rfl⟩)
        rw [this]
        have h0 := hv j hj
        by_cases e2 : j < i
        · rw [if_pos e2] at h0; rw [if_pos (by omega)]; simpa using h0
        · rw [if_neg e2] at h0; rw [if_neg (by omega)]; simpa using h0
    obtain ⟨R, hR, hI⟩ := ih (i + 1) P' (by omega) hd' hv'
    refine ⟨R, ?_, hI⟩
    obtain ⟨e2, he2⟩ : ∃ e2, e2 = ev (nrm p V) (co xs i) % p := ⟨_, rfl⟩
    have c2 : Cg p e2 (ev V (co xs i)) := by rw [he2]; exact (Cg.mod _ _).trans ((nrm_eqp p V).ev _)
    have m2 : 0 ≤ e2 := by rw [he2]; exact mod_nonneg h.pos _
    obtain ⟨c', hc'⟩ : ∃ c', c' = (co ys i * inv p e2) % p := ⟨_, rfl⟩
    have mc : 0 ≤ c' := by rw [hc']; exact mod_nonneg h.pos _
    have cc : Cg p c' c := by rw [hc', hc, inv_congr c2]; exact Cg.mod _ _
    have s1 := r_Vanish h (xs := oth xs i xs.length) (by omega) uo
    rw [← hV] at s1
    have s2 := r_Eval h (l := nrm p V) (by omega) (nrm_UL h V) hxi.1
    rw [← he2] at s2
    have s3 := r_Div h hyi.1 m2
    rw [← hc'] at s3
    have s4 := r_Scale h (l := nrm p V) (by omega) (nrm_UL h V) mc
    have l5 := nrm_length_le p (psc c' (nrm p V))
    have l5' : (psc c' (nrm p V)).length = (nrm p V).length := by simp [psc]
    have s5 := r_AddP h (a := nrm p P) (b := nrm p (psc c' (nrm p V))) (by omega) (by omega) (nrm_UL h P) (nrm_UL h _)
    have e5 : nrm p (padd (nrm p P) (nrm p (psc c' (nrm p V)))) = nrm p P' := by
      rw [hP']
      exact nrm_congr ((nrm_eqp p P).padd ((nrm_eqp p _).trans (EqP.psc cc (nrm_eqp p V))))
    rw [e5] at s5
    have s6 := s5.bind (G := fun k t287 => attestorref03_Through.l2 k f xs ys t287 ((i + 1 : Nat) : Int)) hR
    have s7 := s4.bind (G := fun k t284 => (attestorref03_Add.f k f (nrm p P) t284).bind fun t287 => attestorref03_Through.l2 k f xs ys t287 ((i + 1 : Nat) : Int)) s6
    have s8 := s3.bind (G := fun k t283 => (attestorref03_Scale.f k f (nrm p V) t283).bind fun t284 => (attestorref03_Add.f k f (nrm p P) t284).bind fun t287 => attestorref03_Through.l2 k f xs ys t287 ((i + 1 : Nat) : Int)) s7
    have s9 := s2.bind (G := fun k t282 => (attestorref01_Div.f k f (co ys i) t282).bind fun t283 => (attestorref03_Scale.f k f (nrm p V) t283).bind fun t284 => (attestorref03_Add.f k f (nrm p P) t284).bind fun t287 => attestorref03_Through.l2 k f xs ys t287 ((i + 1 : Nat) : Int)) s8
    have s10 := s1.bind (G := fun k bt276 => (if 0 ≤ (i : Int) then (if (i : Int) < (ys.length : Int) then (if (i : Int) < (xs.length : Int) then ((attestorref03_Eval.f k f bt276.1 (rd xs i)).bind fun t282 => ((attestorref01_Div.f k f (rd ys i) t282).bind fun t283 => ((attestorref03_Scale.f k f bt276.1 t283).bind fun t284 => ((attestorref03_Add.f k f (nrm p P) t284).bind fun t287 => (attestorref03_Through.l2 k f xs ys t287 (wrap64 ((i : Int) + 1))))))) else (none)) else (none)) else (none)))
      (Ev.congr (fun k => by rw [if_pos (by omega), if_pos (by omega), if_pos (by omega), rd_nat, rd_nat, w64_succ (by omega)]) s9)
    refine Ev.succ (fun k => ?_) (rthru_l3 hm i (nrm p P) s10 xs.length 0 (by omega))
    rw [attestorref03_Through.l2, if_pos (by omega)]
    rfl
theorem rthru_l0_ok {xs ys : List Int} (ux : UL xs) (hm : xs.length ≤ 1024) (ha : IA p xs) {v : List Int × Int} (hK : Ev (fun k => attestorref03_Through.l2 k f xs ys [] 0) v) : ∀ (d i : Nat), i + d = xs.length → Ev (fun k => attestorref03_Through.l0 k f xs ys i) v := by
  intro d
  induction d with
  | zero =>
    intro i hi
    refine Ev.succ (fun k => ?_) hK
    rw [attestorref03_Through.l0, if_neg (by omega)]
  | succ d ih =>
    intro i hi
    have inner : ∀ (e j : Nat), j + e = i → Ev (fun k => attestorref03_Through.l1 k f xs ys i j) v := by
      intro e
      induction e with
      | zero =>
        intro j hj
        refine Ev.succ (fun k => ?_) (ih (i + 1) (by omega))
        rw [attestorref03_Through.l1, if_neg (by omega), w64_succ (by omega)]
      | succ e ihe =>
        intro j hj
        refine Ev.succ (fun k => ?_) (ihe (j + 1) (by omega))
        have hne : ¬ (co xs i - co xs j) % p = 0 := fun c => ha i j (by omega) (by omega) (Cg.of_sub (mod_eq_zero.1 c))
        rw [attestorref03_Through.l1, if_pos (by omega), if_pos (by omega), if_pos (by omega), if_pos (by omega), if_pos (by omega), rd_nat, rd_nat, r_Sub h (U.co ux i).1 (U.co ux j).1, Option.bind_some, if_neg hne, w64_succ (by omega)]
    refine Ev.succ (fun k => ?_) (inner i 0 (by omega))
    rw [attestorref03_Through.l0, if_pos (by omega)]
    rfl
theorem rthru_l0_dup {xs ys : List Int} (ux : UL xs) (hm : xs.length ≤ 1024) : ∀ (d i : Nat), i + d = xs.length → (∃ a b, i ≤ a ∧ a < xs.length ∧ b < a ∧ Cg p (co xs a) (co xs b)) → Ev (fun k => attestorref03_Through.l0 k f xs ys i) ([], 6) := by
  intro d
  induction d with
  | zero => rintro i hi ⟨a, b, h1, h2, _⟩; omega
  | succ d ih =>
    rintro i hi ⟨a, b, h1, h2, h3, h4⟩
    have inner : ∀ (e j : Nat), j + e = i → (a = i → j ≤ b) → Ev (fun k => attestorref03_Through.l1 k f xs ys i j) ([], 6) := by
      intro e
      induction e with
      | zero =>
        intro j hj hb
        refine Ev.succ (fun k => ?_) (ih (i + 1) (by omega) ⟨a, b, by omega, h2, h3, h4⟩)
        rw [attestorref03_Through.l1, if_neg (by omega), w64_succ (by omega)]
      | succ e ihe =>
        intro j hj hb
        by_cases c : (co xs i - co xs j) % p = 0
        · refine Ev.succ (F := fun _ => some ([], 6)) (fun k => ?_) (Ev.all fun _ => rfl)
          rw [attestorref03_Through.l1, if_pos (by omega), if_pos (by omega), if_pos (by omega), if_pos (by omega), if_pos (by omega), rd_nat, rd_nat, r_Sub h (U.co ux i).1 (U.co ux j).1, Option.bind_some, if_pos c]
        · refine Ev.succ (fun k => ?_) (ihe (j + 1) (by omega) (fun e => ?_))
          · rw [attestorref03_Through.l1, if_pos (by omega), if_pos (by omega), if_pos (by omega), if_pos (by omega), if_pos (by omega), rd_nat, rd_nat, r_Sub h (U.co ux i).1 (U.co ux j).1, Option.bind_some, if_neg c, w64_succ (by omega)]
          · rcases Nat.eq_or_lt_of_le (hb e) with e2 | e2
            · subst e2; subst e; exact absurd (mod_eq_zero.2 h4.sub_zero) c
            · omega
    refine Ev.succ (fun k => ?_) (inner i 0 (by omega) (fun _ => Nat.zero_le _))
    rw [attestorref03_Through.l0, if_pos (by omega)]
    rfl
theorem r_Through {xs ys : List Int} (ux : UL xs) (uy : UL ys) (hl : xs.length = ys.length) (hm : xs.length ≤ 1024) (ha : Apart p xs) : ∃ R, Ev (fun k => attestorref03_Through.f k f xs ys) (nrm p R, 0) ∧ Interp p xs ys R := by
  have hia := (apart_iff xs).1 ha
  obtain ⟨R, h1, h2⟩ := rthru_l2 h ux uy hl hm hia xs.length 0 [] (by omega) (fun i _ => by simpa using Cg.refl p 0) (fun j _ => by simpa [ev] using Cg.refl p 0)
  refine ⟨R, ?_, h2⟩
  refine Ev.succ (fun k => ?_) (rthru_l0_ok h ux hm hia h1 xs.length 0 (by omega))
  have e : (((xs.length : Int) != (ys.length : Int))) = false := by rw [hl]; simp
  rw [attestorref03_Through.f, r_Valid h, Option.bind_some, if_pos rfl, e, attestorref03_Through.j0, if_neg (by simp), if_neg (by omega)]
  rfl
theorem r_Through_dup {xs ys : List Int} (ux : UL xs) (hl : xs.length = ys.length) (hm : xs.length ≤ 1024) (ha : ¬ Apart p xs) : Ev (fun k => attestorref03_Through.f k f xs ys) ([], 6) := by
  have hia : ∃ a b, 0 ≤ a ∧ a < xs.length ∧ b < a ∧ Cg p (co xs a) (co xs b) := by
    rw [apart_iff] at ha
    unfold IA at ha
    simp only [Classical.not_forall, Classical.not_not] at ha
    obtain ⟨a, b, h1, h2, h3⟩ := ha
    exact ⟨a, b, Nat.zero_le _, h2, h1, h3⟩
  refine Ev.succ (fun k => ?_) (rthru_l0_dup (ys := ys) h ux hm xs.length 0 (by omega) hia)
  have e : (((xs.length : Int) != (ys.length : Int))) = false := by rw [hl]; simp
  rw [attestorref03_Through.f, r_Valid h, Option.bind_some, if_pos rfl, e, attestorref03_Through.j0, if_neg (by simp), if_neg (by omega)]
  rfl
/-- Both are the same. -/
theorem interp_same {xs ys R R' : List Int} (ha : Apart p xs) (hr : Interp p xs ys R) (hr' : Interp p xs ys R') : nrm p R = nrm p R' := by
  refine nrm_congr (interp_uniq h.pr ha hr.1 hr'.1 fun x hx => ?_)
  obtain ⟨i, hi, rfl⟩ := List.getElem_of_mem hx
  rw [← co_lt hi]
  exact (hr.2 i hi).trans (hr'.2 i hi).symm
end good
end Go.Proofs.YtmnahhacobfafaaDoor.Pure
