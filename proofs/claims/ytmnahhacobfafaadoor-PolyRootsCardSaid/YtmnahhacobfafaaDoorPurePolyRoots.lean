/- A polynomial that is not 0 has at most as many roots as its degree, and Vanish of numbers has just these roots: for every input. -/
import Derived.Test.YtmnahhacobfafaaDoorSpecL
import Derived.Test.YtmnahhacobfafaaDoorSpecW
import Derived.Test.YtmnahhacobfafaaDoorSpecS
import Derived.Test.YtmnahhacobfafaaDoorQ10
namespace Go.Proofs.YtmnahhacobfafaaDoor.Pure
open Go.RowKit Go.Proofs.YtmnahhacobfafaaDoor.Q Go.Proofs.YtmnahhacobfafaaDoor.Num Go.Proofs.YtmnahhacobfafaaDoor.Pol Go.Proofs.YtmnahhacobfafaaDoorW.PrintWords Go.Proofs.YtmnahhacobfafaaDoorW.PrintLast Go.Proofs.YtmnahhacobfafaaDoorW.PrintMore

theorem bne_eq {a b : Bool} (h : a = b) : ¬ (a != b) = true := by subst h; simp
section good
variable {f : Int} {p : Nat} (h : FP f p)
include h
theorem van_root_iff (xs : List Int) (x : Int) : Cg p (ev (van [1] xs) x) 0 ↔ ∃ y, y ∈ xs ∧ Cg p x y := by
  constructor
  · intro c
    refine Classical.byContradiction fun hn => ?_
    refine van_nonroot h.pr xs [1] (fun y hy hc => hn ⟨y, hy, hc⟩) (fun c1 => one_not_zero h ?_) c
    simpa [ev] using c1
  · rintro ⟨y, hy, hc⟩
    exact (ev_arg hc _).trans (Cg.of_eq (van_root xs [1] hy))
theorem roots_end {P xs : List Int} (uP : UL P) (nP : P.length ≤ 12) (nx : xs.length ≤ 12) {rs : List Int} (hp : p ≤ 257) (ha : Apart p rs) (hr : ∀ r ∈ rs, Cg p (ev P r) 0) (hz : EqP p P [] → rs.length = p) (hle : rs.length ≤ p) {x : Int} (hx : ¬ x < (p : Int)) :
    Ev (fun k => attestorlaw03_PolyRoots.l0 k P xs f (nrm p (van [1] xs)) 0 (p : Int) (rs.length : Int) x) true := by
  have sD := s_Degree h.o (l := P) (by omega) uP
  have lv := (Mon.one.van xs).length (p := p) h.one
  rw [Nat.zero_add] at lv
  have tv : co (nrm p (van [1] xs)) xs.length = 1 := by
    have := (Mon.one.van xs).1
    rw [Nat.zero_add] at this
    rw [nrm_co, this]
    exact Int.emod_eq_of_lt (by omega) h.one
  have e1 : ((nrm p (van [1] xs)).length : Int) = wrap64 ((xs.length : Int) + 1) := by rw [w64_succ (by omega), lv]
  have e2 : wrap64 (((nrm p (van [1] xs)).length : Int) - 1) = (xs.length : Int) := by rw [lv, w64_pred (by omega)]
  have g2 : (xs.length : Int) < ((nrm p (van [1] xs)).length : Int) := by omega
  have key := sD.bind (G := fun k t532 => (if (0 : Int) = 0 then (if ((nrm p (van [1] xs)).length : Int) = (wrap64 ((xs.length : Int) + 1)) then (if 0 ≤ (wrap64 (((nrm p (van [1] xs)).length : Int) - 1)) then (if (wrap64 (((nrm p (van [1] xs)).length : Int) - 1)) < ((nrm p (van [1] xs)).length : Int) then (if (rd (nrm p (van [1] xs)) (wrap64 (((nrm p (van [1] xs)).length : Int) - 1))) = 1 then (if t532 < 0 then (if (rs.length : Int) = (wrap64 ((p : Int))) then ((attestorlaw03_works.f k).bind fun t534 => (some t534)) else (if t532 ≥ 0 then (if (rs.length : Int) ≤ t532 then ((attestorlaw03_works.f k).bind fun t535 => (some t535)) else (none)) else (none))) else (if t532 ≥ 0 then (if (rs.length : Int) ≤ t532 then ((attestorlaw03_works.f k).bind fun t536 => (some t536)) else (none)) else (none))) else (none)) else (none)) else (none)) else (none)) else (none))) (b := true) (by
    have w0 := s_works.bind (G := fun _ t => some t) (Ev.all fun _ => rfl)
    refine Ev.congr (fun k => ?_) w0
    rw [if_pos rfl, if_pos e1, e2, if_pos (Int.natCast_nonneg _), if_pos g2, rd_nat, if_pos tv]
    by_cases hn : (nrm p P).length = 0
    · have : EqP p P [] := nrm_eq_nil.1 (List.eq_nil_of_length_eq_zero hn)
      have := hz this
      rw [if_pos (by omega), if_pos (by rw [w64 (by omega) (by omega)]; omega)]
    · have hlt : rs.length < (nrm p P).length := by
        refine Classical.byContradiction fun hc => hn ?_
        have : EqP p P [] := roots h.pr rs P ha ((Deg.of_nrm (p := (p : Int)) (l := P)).mono (by omega)) hr
        rw [nrm_eq_nil.2 this]; rfl
      rw [if_neg (by omega), if_pos (by omega), if_pos (by omega)])
  refine Ev.succ (fun k => ?_) key
  rw [attestorlaw03_PolyRoots.l0, if_neg hx]
theorem roots_l1 {P xs : List Int} (ux : UL xs) (nx : xs.length ≤ 12) {c : Int} {x : Nat} (hx : (x : Int) < p) (hp : p ≤ 257)
    (hK : Ev (fun k => attestorlaw03_PolyRoots.l0 k P xs f (nrm p (van [1] xs)) 0 (p : Int) c ((x + 1 : Nat) : Int)) true) :
    ∀ (d i : Nat) (b : Bool), i + d = xs.length → (b = true ↔ ∃ t, t < i ∧ Cg p x (co xs t)) → Ev (fun k => attestorlaw03_PolyRoots.l1 k P xs f (nrm p (van [1] xs)) 0 (p : Int) c (x : Int) b i) true := by
  intro d
  induction d with
  | zero =>
    intro i b hi hb
    have sE := s_Eval h.o (l := nrm p (van [1] xs)) (by have := (Mon.one.van xs).length (p := p) h.one; omega) (nrm_UL h.o _) (x := (x : Int)) (by omega)
    have g : ¬ (i : Int) < (xs.length : Int) := by omega
    have e : b = (ev (nrm p (van [1] xs)) x % p == 0) := by
      have r1 := van_root_iff h xs x
      have r2 : ev (nrm p (van [1] xs)) x % p = 0 ↔ Cg p (ev (van [1] xs) x) 0 := by
        rw [mod_eq_zero]
        exact ⟨fun c => ((nrm_eqp p _).ev (x : Int)).symm.trans c, fun c => ((nrm_eqp p _).ev (x : Int)).trans c⟩
      rw [Bool.eq_iff_iff, beq_iff_eq, r2, r1, hb]
      constructor
      · rintro ⟨t, h1, h2⟩; exact ⟨_, co_mem (by omega), h2⟩
      · rintro ⟨y, h1, h2⟩
        obtain ⟨t, ht, rfl⟩ := List.getElem_of_mem h1
        exact ⟨t, by omega, by rw [co_lt ht]; exact h2⟩
    have w1 := sE.bind (G := fun k t539 => (if (b != (t539 == 0)) = true then (none) else (attestorlaw03_PolyRoots.l0 k P xs f (nrm p (van [1] xs)) 0 (p : Int) c (IntKind.u64.wrap ((x : Int) + 1))))) (b := true) (Ev.congr (fun k => by
      rw [if_neg (bne_eq e), wu64 (by omega) (by omega)]
      rfl) hK)
    refine Ev.succ (fun k => ?_) w1
    rw [attestorlaw03_PolyRoots.l1, if_neg g]
  | succ d ih =>
    intro i b hi hb
    have g : i < xs.length := by omega
    cases b with
    | true =>
      refine Ev.succ (fun k => ?_) (ih (i + 1) true (by omega) (by
        obtain ⟨t, h1, h2⟩ := hb.1 rfl
        exact ⟨fun _ => ⟨t, by omega, h2⟩, fun _ => rfl⟩))
      rw [attestorlaw03_PolyRoots.l1, if_pos (Int.ofNat_lt.2 g), if_pos rfl, w64_succ (by omega)]
    | false =>
      have n1 := ih (i + 1) (co xs i % p == (x : Int)) (by omega) (by
        rw [beq_iff_eq]
        constructor
        · intro e; exact ⟨i, by omega, e ▸ Cg.mod _ _⟩
        · rintro ⟨t, h1, h2⟩
          rcases Nat.lt_or_ge t i with q | q
          · have := hb.2 ⟨t, q, h2⟩; simp at this
          · have : t = i := by omega
            subst this
            exact (Cg.uniq (h2.trans (Cg.mod _ _).symm) (by omega) hx (h.mod _).1 (h.mod _).2).symm)
      refine Ev.succ (fun k => ?_) n1
      rw [attestorlaw03_PolyRoots.l1, if_pos (Int.ofNat_lt.2 g), if_neg (by decide), if_pos (Int.natCast_nonneg _), if_neg (by have := h.pos; omega), rd_nat, tmod_nn (U.co ux i).1, w64_succ (by omega)]
theorem roots_l0 {P xs : List Int} (uP : UL P) (nP : P.length ≤ 12) (ux : UL xs) (nx : xs.length ≤ 12) (hp : p ≤ 257) :
    ∀ (d x : Nat) (rs : List Int), x + d = p → Apart p rs → (∀ r ∈ rs, 0 ≤ r ∧ r < x ∧ Cg p (ev P r) 0) → (EqP p P [] → rs.length = x) → rs.length ≤ x →
    Ev (fun k => attestorlaw03_PolyRoots.l0 k P xs f (nrm p (van [1] xs)) 0 (p : Int) (rs.length : Int) x) true := by
  intro d
  induction d with
  | zero =>
    intro x rs hx ha hr hz hle
    exact roots_end h uP nP nx hp ha (fun r hm => (hr r hm).2.2) (fun e => by have := hz e; omega) (by omega) (by omega)
  | succ d ih =>
    intro x rs hx ha hr hz hle
    have gx : (x : Int) < p := by omega
    have sE := s_Eval h.o (l := P) (by omega) uP (x := (x : Int)) (by omega)
    have w1 := sE.bind (G := fun k t537 => (if t537 = 0 then (attestorlaw03_PolyRoots.j3 k P xs f (nrm p (van [1] xs)) 0 (p : Int) (wrap64 ((rs.length : Int) + 1)) (x : Int)) else (attestorlaw03_PolyRoots.j3 k P xs f (nrm p (van [1] xs)) 0 (p : Int) (rs.length : Int) (x : Int)))) (b := true) (by
      by_cases e : ev P x % p = 0
      · have n1 := ih (x + 1) ((x : Int) :: rs) (by omega) ⟨fun y hy c => by
            have := hr y hy
            have := Cg.uniq c (by omega) gx this.1 (by omega)
            omega, ha⟩ (fun r hm => by
            rcases List.mem_cons.1 hm with e1 | e1
            · subst e1; exact ⟨by omega, by omega, mod_eq_zero.1 e⟩
            · have := hr r e1; exact ⟨this.1, by omega, this.2.2⟩) (fun e1 => by rw [List.length_cons, hz e1]) (by rw [List.length_cons]; omega)
        have n2 := roots_l1 h ux nx gx hp n1 xs.length 0 false (by omega) ⟨fun e => by simp at e, fun ⟨t, h1, _⟩ => by omega⟩
        refine Ev.congr (fun k => if_pos e) (Ev.succ (fun k => ?_) n2)
        rw [attestorlaw03_PolyRoots.j3, w64_succ (by omega), List.length_cons]
        rfl
      · have n1 := ih (x + 1) rs (by omega) ha (fun r hm => by have := hr r hm; exact ⟨this.1, by omega, this.2.2⟩) (fun e1 => absurd (mod_eq_zero.2 ((EqP.ev (x : Int) e1).trans (Cg.of_eq rfl))) e) (by omega)
        have n2 := roots_l1 h ux nx gx hp n1 xs.length 0 false (by omega) ⟨fun e => by simp at e, fun ⟨t, h1, _⟩ => by omega⟩
        refine Ev.congr (fun k => if_neg e) (Ev.succ (fun k => ?_) n2)
        rw [attestorlaw03_PolyRoots.j3]
        rfl)
    refine Ev.succ (fun k => ?_) (Ev.succ (G := fun k => attestorlaw03_PolyRoots.j2 k P xs f (nrm p (van [1] xs)) 0 (p : Int) (rs.length : Int) (x : Int)) (fun k => ?_) w1)
    · rw [attestorlaw03_PolyRoots.l0, if_pos gx]
    · rw [attestorlaw03_PolyRoots.j2]
end good

theorem PolyRoots : attestorlaw03_PolyRoots.Pure := by
  intro x l1 l2 hx _ hy1 hw1 _ hy2 hw2
  obtain ⟨f, hf⟩ : ∃ f, f = wrap64 (Int.tmod x 2) := ⟨_, rfl⟩
  have hf2 : f = 0 ∨ f = 1 := by
    simp [Lit.wf, IntKind.min, IntKind.max, IntKind.bits, IntKind.signed] at hx
    rw [tmod_nn (by omega), w64 (by omega) (by omega)] at hf
    omega
  obtain ⟨p, h⟩ := fp_of (f := f) (by omega) (by omega)
  have u1 : UL (l1.take 12) := (UL.of_wf hw1).take 12
  have u2 : UL (l2.take 12) := (UL.of_wf hw2).take 12
  have n1 : (l1.take 12).length ≤ 12 := by rw [List.length_take]; omega
  have n2 : (l2.take 12).length ≤ 12 := by rw [List.length_take]; omega
  have o1 := s_own hy1 12
  have o2 := s_own hy2 12
  have hpp : (f = 1 ∧ (p : Int) = 257) ∨ (f ≠ 1 ∧ (p : Int) = 97) := by
    have := h.eq
    rcases hf2 with rfl | rfl
    · right; exact ⟨by decide, this.symm.trans rfl⟩
    · left; exact ⟨rfl, this.symm.trans rfl⟩
  refine Ev.ex (F := fun k => attestorlaw03_PolyRoots.f k x l1 l2) ?_
  have sV := s_Vanish h (xs := l2.take 12) (by omega) u2
  have L := roots_l0 h u1 n1 u2 n2 (by omega) p 0 [] (by omega) trivial (fun r hm => by simp at hm) (fun _ => rfl) (by simp)
  have J : Ev (fun k => attestorlaw03_PolyRoots.j0 k (l1.take 12) (l2.take 12) f (nrm p (van [1] (l2.take 12))) 0 (p : Int)) true := Ev.succ (fun k => by rw [attestorlaw03_PolyRoots.j0]; rfl) L
  have w1 := sV.bind (G := fun k bt528 => (if f = 1 then (attestorlaw03_PolyRoots.j0 k (l1.take 12) (l2.take 12) f bt528.1 bt528.2 257) else (attestorlaw03_PolyRoots.j0 k (l1.take 12) (l2.take 12) f bt528.1 bt528.2 97))) (b := true) (Ev.congr (fun k => by
    rcases hpp with ⟨a, b⟩ | ⟨a, b⟩
    · rw [if_pos a, b]
    · rw [if_neg a, b]) J)
  refine Ev.congr (fun k => ?_) w1
  rw [attestorlaw03_PolyRoots.f, show (12 : Int) = ((12 : Nat) : Int) from rfl, o1, Option.bind_some, o2, Option.bind_some, ← hf]
end Go.Proofs.YtmnahhacobfafaaDoor.Pure
