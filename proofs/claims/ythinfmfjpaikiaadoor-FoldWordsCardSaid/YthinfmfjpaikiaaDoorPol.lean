/- Polynomials as lists of whole numbers, modulo a prime: values, normal forms, products, roots, division. No program in sight. -/
import Derived.Test.YthinfmfjpaikiaaDoorNum
namespace Go.Proofs.YthinfmfjpaikiaaDoor.Pol
open Num

def co (l : List Int) (i : Nat) : Int := l.getD i 0
def ev : List Int → Int → Int
  | [], _ => 0
  | c :: t, x => c + x * ev t x
def padd : List Int → List Int → List Int
  | [], b => b
  | x :: a, [] => x :: a
  | x :: a, y :: b => (x + y) :: padd a b
def psc (c : Int) (l : List Int) : List Int := l.map (c * ·)
def pmul : List Int → List Int → List Int
  | [], _ => []
  | c :: t, b => padd (psc c b) (0 :: pmul t b)
def psub (a b : List Int) : List Int := padd a (psc (-1) b)

@[simp] theorem co_nil (i : Nat) : co [] i = 0 := by simp [co]
@[simp] theorem co_cons_zero (c : Int) (t : List Int) : co (c :: t) 0 = c := by simp [co]
@[simp] theorem co_cons_succ (c : Int) (t : List Int) (i : Nat) : co (c :: t) (i + 1) = co t i := by simp [co]
theorem co_over {l : List Int} {i : Nat} (h : l.length ≤ i) : co l i = 0 := by simp [co, List.getD, List.getElem?_eq_none h]
theorem co_lt {l : List Int} {i : Nat} (h : i < l.length) : co l i = l[i] := by simp [co, List.getD, h]
theorem co_mem {l : List Int} {i : Nat} (h : i < l.length) : co l i ∈ l := by rw [co_lt h]; exact List.getElem_mem h
theorem co_padd : ∀ (a b : List Int) (i : Nat), co (padd a b) i = co a i + co b i
  | [], b, i => by simp [padd]
  | x :: a, [], i => by simp [padd]
  | x :: a, y :: b, 0 => by simp [padd]
  | x :: a, y :: b, i + 1 => by simp only [padd, co_cons_succ]; exact co_padd a b i
theorem co_psc (c : Int) : ∀ (l : List Int) (i : Nat), co (psc c l) i = c * co l i
  | [], i => by simp [psc]
  | x :: l, 0 => by simp [psc]
  | x :: l, i + 1 => by have := co_psc c l i; simp only [psc, List.map_cons, co_cons_succ] at this ⊢; exact this
theorem co_psub (a b : List Int) (i : Nat) : co (psub a b) i = co a i - co b i := by rw [psub, co_padd, co_psc]; omega
theorem co_pmul_zero' (c : Int) (t b : List Int) : co (pmul (c :: t) b) 0 = c * co b 0 := by simp [pmul, co_padd, co_psc]
theorem co_pmul_succ (c : Int) (t b : List Int) (i : Nat) : co (pmul (c :: t) b) (i + 1) = c * co b (i + 1) + co (pmul t b) i := by simp [pmul, co_padd, co_psc]
theorem ev_padd (x : Int) : ∀ a b : List Int, ev (padd a b) x = ev a x + ev b x
  | [], b => by simp [padd, ev]
  | c :: a, [] => by simp [padd, ev]
  | c :: a, d :: b => by simp only [padd, ev, ev_padd x a b]; grind
theorem ev_psc (x c : Int) : ∀ l : List Int, ev (psc c l) x = c * ev l x
  | [] => by simp [psc, ev]
  | d :: l => by
    have := ev_psc x c l
    simp only [psc, List.map_cons, ev] at this ⊢
    rw [this]; grind
theorem ev_pmul (x : Int) : ∀ a b : List Int, ev (pmul a b) x = ev a x * ev b x
  | [], b => by simp [pmul, ev]
  | c :: a, b => by
    rw [pmul, ev_padd, ev_psc, ev, ev, ev_pmul x a b]; grind
theorem ev_psub (x : Int) (a b : List Int) : ev (psub a b) x = ev a x - ev b x := by rw [psub, ev_padd, ev_psc]; grind

def EqP (p : Int) (a b : List Int) : Prop := ∀ i, Cg p (co a i) (co b i)
theorem EqP.refl (p : Int) (a : List Int) : EqP p a a := fun _ => Cg.refl _ _
theorem EqP.symm {p : Int} {a b : List Int} (h : EqP p a b) : EqP p b a := fun i => (h i).symm
theorem EqP.trans {p : Int} {a b c : List Int} (h : EqP p a b) (g : EqP p b c) : EqP p a c := fun i => (h i).trans (g i)
theorem EqP.padd {p : Int} {a b c d : List Int} (h : EqP p a b) (g : EqP p c d) : EqP p (padd a c) (padd b d) := fun i => by rw [co_padd, co_padd]; exact (h i).add (g i)
theorem EqP.psc {p : Int} {a b : List Int} {c d : Int} (g : Cg p c d) (h : EqP p a b) : EqP p (psc c a) (psc d b) := fun i => by rw [co_psc, co_psc]; exact g.mul (h i)
theorem EqP.psub {p : Int} {a b c d : List Int} (h : EqP p a b) (g : EqP p c d) : EqP p (psub a c) (psub b d) := fun i => by rw [co_psub, co_psub]; exact (h i).sub (g i)
theorem EqP.tail {p c d : Int} {a b : List Int} (h : EqP p (c :: a) (d :: b)) : EqP p a b := fun i => by simpa using h (i + 1)
theorem EqP.tail_nil {p c : Int} {a : List Int} (h : EqP p (c :: a) []) : EqP p a [] := fun i => by simpa using h (i + 1)
theorem ev_zero {p : Int} (x : Int) : ∀ {a : List Int}, EqP p a [] → Cg p (ev a x) 0
  | [], _ => Cg.refl _ _
  | c :: a, h => by
    have h0 : Cg p c 0 := by simpa using h 0
    have := h0.add ((Cg.refl p x).mul (ev_zero x h.tail_nil))
    simpa [ev] using this
theorem EqP.ev {p : Int} (x : Int) : ∀ {a b : List Int}, EqP p a b → Cg p (ev a x) (ev b x)
  | [], b, h => (ev_zero x h.symm).symm
  | c :: a, [], h => ev_zero x h
  | c :: a, d :: b, h => by
    have h0 : Cg p c d := by simpa using h 0
    exact h0.add ((Cg.refl p x).mul (EqP.ev x h.tail))
theorem ev_arg {p x y : Int} (h : Cg p x y) : ∀ a : List Int, Cg p (ev a x) (ev a y)
  | [] => Cg.refl _ _
  | c :: a => (Cg.refl p c).add (h.mul (ev_arg h a))
theorem pmul_zero_left {p : Int} {b : List Int} : ∀ {a : List Int}, EqP p a [] → EqP p (pmul a b) []
  | [], _ => EqP.refl _ _
  | c :: a, h => by
    have h0 : Cg p c 0 := by simpa using h 0
    intro i
    cases i with
    | zero => rw [co_pmul_zero']; simpa using h0.mul (Cg.refl p (co b 0))
    | succ i =>
      rw [co_pmul_succ]
      have := (h0.mul (Cg.refl p (co b (i + 1)))).add (pmul_zero_left (b := b) h.tail_nil i)
      simpa using this
theorem EqP.pmul_left {p : Int} {b : List Int} : ∀ {a c : List Int}, EqP p a c → EqP p (pmul a b) (pmul c b)
  | [], c, h => (pmul_zero_left h.symm).symm
  | x :: a, [], h => pmul_zero_left h
  | x :: a, y :: c, h => by
    have h0 : Cg p x y := by simpa using h 0
    intro i
    cases i with
    | zero => rw [co_pmul_zero', co_pmul_zero']; exact h0.mul (Cg.refl _ _)
    | succ i => rw [co_pmul_succ, co_pmul_succ]; exact (h0.mul (Cg.refl _ _)).add (EqP.pmul_left h.tail i)
theorem EqP.pmul_right {p : Int} {b d : List Int} (h : EqP p b d) : ∀ a : List Int, EqP p (pmul a b) (pmul a d)
  | [] => EqP.refl _ _
  | x :: a => by
    intro i
    cases i with
    | zero => rw [co_pmul_zero', co_pmul_zero']; exact (Cg.refl _ _).mul (h 0)
    | succ i => rw [co_pmul_succ, co_pmul_succ]; exact ((Cg.refl _ _).mul (h _)).add (EqP.pmul_right h a i)
theorem EqP.pmul {p : Int} {a b c d : List Int} (h : EqP p a c) (g : EqP p b d) : EqP p (pmul a b) (pmul c d) := (h.pmul_left).trans (g.pmul_right c)
def Deg (p : Int) (l : List Int) (n : Nat) : Prop := ∀ i, n ≤ i → Cg p (co l i) 0
theorem Deg.len (p : Int) (l : List Int) : Deg p l l.length := fun i h => by rw [co_over h]; exact Cg.refl _ _
theorem Deg.mono {p : Int} {l : List Int} {n m : Nat} (h : Deg p l n) (hn : n ≤ m) : Deg p l m := fun i hi => h i (Nat.le_trans hn hi)
theorem Deg.congr {p : Int} {a b : List Int} {n : Nat} (h : Deg p a n) (e : EqP p a b) : Deg p b n := fun i hi => (e i).symm.trans (h i hi)
theorem Deg.padd {p : Int} {a b : List Int} {n : Nat} (h : Deg p a n) (g : Deg p b n) : Deg p (padd a b) n := fun i hi => by
  rw [co_padd]; simpa using (h i hi).add (g i hi)
theorem Deg.psub {p : Int} {a b : List Int} {n : Nat} (h : Deg p a n) (g : Deg p b n) : Deg p (psub a b) n := fun i hi => by
  rw [co_psub]; simpa using (h i hi).sub (g i hi)
theorem Deg.psc {p c : Int} {a : List Int} {n : Nat} (h : Deg p a n) : Deg p (psc c a) n := fun i hi => by
  rw [co_psc]; simpa using (Cg.refl p c).mul (h i hi)
theorem Deg.tail {p c : Int} {a : List Int} {n : Nat} (h : Deg p (c :: a) (n + 1)) : Deg p a n := fun i hi => by simpa using h (i + 1) (by omega)
theorem Deg.nil {p : Int} {a : List Int} (h : Deg p a 0) : EqP p a [] := fun i => by simpa using h i (Nat.zero_le _)
theorem co_pmul_top {p : Int} {b : List Int} {n : Nat} (hb : Deg p b (n + 1)) : ∀ {a : List Int} {m : Nat}, Deg p a (m + 1) → Cg p (co (pmul a b) (m + n)) (co a m * co b n)
  | [], m, _ => by simp [pmul]; exact Cg.refl _ _
  | c :: t, 0, ha => by
    have ht : EqP p t [] := ha.tail.nil
    rw [Nat.zero_add, co_cons_zero]
    cases n with
    | zero => rw [co_pmul_zero']; exact Cg.refl _ _
    | succ n =>
      rw [co_pmul_succ]
      have := (Cg.refl p (c * co b (n + 1))).add (pmul_zero_left (b := b) ht n)
      simpa using this
  | c :: t, m + 1, ha => by
    rw [show m + 1 + n = (m + n) + 1 by omega, co_pmul_succ, co_cons_succ]
    have h1 := (Cg.refl p c).mul (hb (m + n + 1) (by omega))
    have := h1.add (co_pmul_top hb ha.tail)
    simpa using this
theorem Deg.pmul {p : Int} {b : List Int} {n : Nat} (hb : Deg p b (n + 1)) : ∀ {a : List Int} {m : Nat}, Deg p a m → Deg p (pmul a b) (m + n)
  | [], m, _ => fun i _ => by simp [Pol.pmul]; exact Cg.refl _ _
  | c :: t, 0, ha => fun i _ => by simpa using pmul_zero_left (b := b) ha.nil i
  | c :: t, m + 1, ha => fun i hi => by
    obtain ⟨j, rfl⟩ : ∃ j, i = j + 1 := ⟨i - 1, by omega⟩
    rw [co_pmul_succ]
    have h1 := (Cg.refl p c).mul (hb (j + 1) (by omega))
    have := h1.add (Deg.pmul hb ha.tail j (by omega))
    simpa using this

def quo : List Int → Int → List Int
  | [], _ => []
  | _ :: t, r => ev t r :: quo t r
theorem quo_ev (x r : Int) : ∀ a : List Int, ev a x = ev a r + (x - r) * ev (quo a r) x
  | [] => by simp [ev, quo]
  | c :: t => by
    have h := quo_ev x r t
    simp only [ev, quo]
    rw [h]; grind
theorem quo_co (r : Int) : ∀ (a : List Int) (i : Nat), co (quo a r) i = ev (a.drop (i + 1)) r
  | [], i => by simp [quo, ev]
  | c :: t, 0 => by simp [quo]
  | c :: t, i + 1 => by simp only [quo, co_cons_succ, List.drop_succ_cons]; exact quo_co r t i
theorem co_drop (a : List Int) (k i : Nat) : co (a.drop k) i = co a (k + i) := by simp [co, List.getD]
theorem ev_step (r : Int) : ∀ (a : List Int) (i : Nat), ev (a.drop i) r = co a i + r * ev (a.drop (i + 1)) r
  | [], i => by simp [ev]
  | c :: t, 0 => by simp [ev]
  | c :: t, i + 1 => by simp only [List.drop_succ_cons, co_cons_succ]; exact ev_step r t i
theorem Deg.quo {p : Int} {a : List Int} {n : Nat} (h : Deg p a (n + 1)) (r : Int) : Deg p (quo a r) n := fun i hi => by
  rw [quo_co]
  refine ev_zero r fun j => ?_
  rw [co_drop]
  simpa using h (i + 1 + j) (by omega)
def Apart (p : Int) : List Int → Prop
  | [] => True
  | x :: l => (∀ y ∈ l, ¬ Cg p x y) ∧ Apart p l
theorem roots {p : Nat} (hp : Pr p) : ∀ (xs : List Int) (a : List Int), Apart p xs → Deg p a xs.length → (∀ x ∈ xs, Cg p (ev a x) 0) → EqP p a []
  | [], a, _, hd, _ => hd.nil
  | r :: xs, a, hx, hd, hr => by
    have h0 := hr r (List.mem_cons_self ..)
    have hq : EqP p (quo a r) [] := by
      refine roots hp xs (quo a r) hx.2 (hd.quo r) fun x hxm => ?_
      have h1 := hr x (List.mem_cons_of_mem _ hxm)
      rw [quo_ev x r a] at h1
      have h2 : Cg p ((x - r) * ev (quo a r) x) 0 := by
        have := h1.sub h0
        have e : ev a r + (x - r) * ev (quo a r) x - ev a r = (x - r) * ev (quo a r) x := by omega
        rw [e] at this
        simpa using this
      rcases hp.int h2 with h3 | h3
      · exact absurd (Cg.of_sub h3).symm (hx.1 x hxm)
      · exact h3
    intro i
    have h1 : ∀ i, Cg p (ev (a.drop (i + 1)) r) 0 := fun i => by
      have := hq i
      rwa [quo_co, co_nil] at this
    have h2 : Cg p (ev (a.drop i) r) 0 := by
      cases i with
      | zero => simpa using h0
      | succ i => exact h1 i
    have h3 := ev_step r a i
    have h4 := h2.sub ((Cg.refl p r).mul (h1 i))
    have e : ev (a.drop i) r - r * ev (a.drop (i + 1)) r = co a i := by omega
    rw [e] at h4
    simpa using h4
theorem interp_uniq {p : Nat} (hp : Pr p) {xs a b : List Int} (hx : Apart p xs) (ha : Deg p a xs.length) (hb : Deg p b xs.length) (h : ∀ x ∈ xs, Cg p (ev a x) (ev b x)) : EqP p a b := by
  have h1 := roots hp xs (psub a b) hx (ha.psub hb) fun x hxm => by rw [ev_psub]; exact (h x hxm).sub_zero
  intro i
  have := h1 i
  rw [co_psub, co_nil] at this
  exact Cg.of_sub this

def trm : List Int → List Int
  | [] => []
  | c :: t => if trm t = [] ∧ c = 0 then [] else c :: trm t
def Lz (l : List Int) : Prop := ∀ n, l.length = n + 1 → co l n ≠ 0
theorem Lz.eq {a b : List Int} (ha : Lz a) (hb : Lz b) (h : ∀ i, co a i = co b i) : a = b := by
  have hl : a.length = b.length := by
    rcases Nat.lt_trichotomy a.length b.length with e | e | e
    · obtain ⟨n, hn⟩ : ∃ n, b.length = n + 1 := ⟨b.length - 1, by omega⟩
      exact absurd ((h n).symm.trans (co_over (by omega))) (hb n hn)
    · exact e
    · obtain ⟨n, hn⟩ : ∃ n, a.length = n + 1 := ⟨a.length - 1, by omega⟩
      exact absurd ((h n).trans (co_over (by omega))) (ha n hn)
  refine List.ext_getElem hl fun i h1 h2 => ?_
  have := h i
  rwa [co_lt h1, co_lt h2] at this
theorem trm_co : ∀ (l : List Int) (i : Nat), co (trm l) i = co l i
  | [], i => rfl
  | c :: t, i => by
    have ih := trm_co t
    unfold trm
    split
    · rename_i h
      cases i with
      | zero => simp [h.2]
      | succ i => have := ih i; rw [h.1] at this; simpa using this
    · cases i with
      | zero => simp
      | succ i => simpa using ih i
theorem trm_lz : ∀ l : List Int, Lz (trm l)
  | [] => fun n h => by simp [trm] at h
  | c :: t => by
    have ih := trm_lz t
    unfold trm
    split
    · intro n h; simp at h
    · rename_i hc
      intro n h
      cases n with
      | zero =>
        have : trm t = [] := by simpa using h
        intro h0
        exact hc ⟨this, by simpa using h0⟩
      | succ n => rw [co_cons_succ]; exact ih n (by simpa using h)
theorem trm_eq {l : List Int} {m : Nat} (hm : m ≤ l.length) (hz : ∀ i, m ≤ i → co l i = 0) (hl : ∀ n, m = n + 1 → co l n ≠ 0) : l.take m = trm l := by
  have hco : ∀ i, co (l.take m) i = co l i := fun i => by
    by_cases h : i < m
    · rw [co_lt (by simp; omega), co_lt (by omega)]; simp
    · rw [hz i (by omega), co_over (by simp; omega)]
  refine Lz.eq (fun n hn => ?_) (trm_lz l) (fun i => (hco i).trans (trm_co l i).symm)
  rw [hco]
  exact hl n (by simp at hn; omega)
theorem trm_length_le (l : List Int) : (trm l).length ≤ l.length := by
  induction l with
  | nil => simp [trm]
  | cons c t ih => unfold trm; split <;> simp; omega
def nrm (p : Int) (l : List Int) : List Int := trm (l.map (· % p))
theorem co_map_mod (p : Int) : ∀ (l : List Int) (i : Nat), co (l.map (· % p)) i = co l i % p
  | [], i => by simp
  | c :: t, 0 => by simp
  | c :: t, i + 1 => by simpa using co_map_mod p t i
theorem nrm_co (p : Int) (l : List Int) (i : Nat) : co (nrm p l) i = co l i % p := by rw [nrm, trm_co, co_map_mod]
theorem nrm_eqp (p : Int) (l : List Int) : EqP p (nrm p l) l := fun i => by rw [nrm_co]; exact Cg.mod _ _
structure Nf (p : Int) (l : List Int) : Prop where
  rng : ∀ i, 0 ≤ co l i ∧ co l i < p
  lz : Lz l
theorem nrm_nf {p : Int} (hp : 0 < p) (l : List Int) : Nf p (nrm p l) := ⟨fun i => by rw [nrm_co]; exact ⟨mod_nonneg hp _, mod_lt hp _⟩, trm_lz _⟩
theorem Nf.eq {p : Int} {a b : List Int} (ha : Nf p a) (hb : Nf p b) (h : EqP p a b) : a = b :=
  ha.lz.eq hb.lz fun i => (h i).uniq (ha.rng i).1 (ha.rng i).2 (hb.rng i).1 (hb.rng i).2
theorem nrm_congr {p : Int} {a b : List Int} (h : EqP p a b) : nrm p a = nrm p b :=
  (trm_lz _).eq (trm_lz _) fun i => by
    have e := (h i).mod_eq
    rw [← nrm_co, ← nrm_co] at e
    exact e
theorem nrm_nil (p : Int) : nrm p [] = [] := rfl
theorem nrm_length_le (p : Int) (l : List Int) : (nrm p l).length ≤ l.length := by have := trm_length_le (l.map (· % p)); simpa [nrm] using this
theorem nrm_deg {p : Int} (hp : 0 < p) {l : List Int} {n : Nat} (h : Deg p l n) : (nrm p l).length ≤ n := by
  rcases Nat.lt_or_ge n (nrm p l).length with e | e
  · obtain ⟨m, hm⟩ : ∃ m, (nrm p l).length = m + 1 := ⟨(nrm p l).length - 1, by omega⟩
    refine absurd ?_ ((nrm_nf hp l).lz m hm)
    rw [nrm_co]
    exact mod_eq_zero.2 (h m (by omega))
  · exact e
theorem Deg.of_nrm {p : Int} {l : List Int} : Deg p l (nrm p l).length := fun i hi => by
  have := nrm_eqp p l i
  rw [co_over hi] at this
  exact this.symm
theorem nrm_eq_nil {p : Int} {l : List Int} : nrm p l = [] ↔ EqP p l [] := by
  constructor
  · intro h
    have := nrm_eqp p l
    rw [h] at this
    exact this.symm
  · intro h; exact (nrm_congr h).trans (nrm_nil p)
theorem nrm_pmul_length {p : Nat} (hp : Pr p) {a b : List Int} {m n : Nat} (ha : (nrm p a).length = m + 1) (hb : (nrm p b).length = n + 1) : (nrm p (pmul a b)).length = m + n + 1 := by
  have hpos := hp.pos
  have da : Deg p a (m + 1) := ha ▸ Deg.of_nrm
  have db : Deg p b (n + 1) := hb ▸ Deg.of_nrm
  have h1 := nrm_deg hpos (Deg.pmul db da)
  have ht := co_pmul_top db da
  have na : ¬ Cg p (co a m) 0 := fun h => (nrm_nf hpos a).lz m ha (by rw [nrm_co]; exact mod_eq_zero.2 h)
  have nb : ¬ Cg p (co b n) 0 := fun h => (nrm_nf hpos b).lz n hb (by rw [nrm_co]; exact mod_eq_zero.2 h)
  rcases Nat.lt_or_ge (m + n) (nrm p (pmul a b)).length with e | e
  · omega
  · exfalso
    have : Cg p (co (pmul a b) (m + n)) 0 := Deg.of_nrm (m + n) e
    rcases hp.int (ht.symm.trans this) with h | h
    · exact na h
    · exact nb h

def van (v : List Int) : List Int → List Int
  | [] => v
  | x :: xs => van (pmul [-x, 1] v) xs
theorem co_lin_zero (x : Int) (v : List Int) : co (pmul [-x, 1] v) 0 = -x * co v 0 := by rw [co_pmul_zero']
theorem co_lin_succ (x : Int) (v : List Int) (i : Nat) : co (pmul [-x, 1] v) (i + 1) = co v i - x * co v (i + 1) := by
  rw [co_pmul_succ]
  cases i with
  | zero => rw [co_pmul_zero']; grind
  | succ i => rw [co_pmul_succ]; simp [pmul]; grind
theorem ev_lin (x y : Int) (v : List Int) : ev (pmul [-x, 1] v) y = (y - x) * ev v y := by rw [ev_pmul]; simp [ev]; grind
def Mon (v : List Int) (n : Nat) : Prop := co v n = 1 ∧ ∀ i, n < i → co v i = 0
theorem Mon.lin {v : List Int} {n : Nat} (h : Mon v n) (x : Int) : Mon (pmul [-x, 1] v) (n + 1) := by
  refine ⟨by rw [co_lin_succ, h.1, h.2 (n + 1) (by omega)]; simp, fun i hi => ?_⟩
  obtain ⟨j, rfl⟩ : ∃ j, i = j + 1 := ⟨i - 1, by omega⟩
  rw [co_lin_succ, h.2 j (by omega), h.2 (j + 1) (by omega)]; simp
theorem Mon.one : Mon [1] 0 := ⟨by simp, fun i hi => co_over (by simp; omega)⟩
theorem Mon.van : ∀ {v : List Int} {n : Nat} (_ : Mon v n) (xs : List Int), Mon (van v xs) (n + xs.length)
  | v, n, h, [] => h
  | v, n, h, x :: xs => by
    have := (h.lin x).van xs
    simpa [Pol.van, Nat.add_assoc, Nat.add_comm, Nat.add_left_comm] using this
theorem Mon.deg {p : Int} {v : List Int} {n : Nat} (h : Mon v n) : Deg p v (n + 1) := fun i hi => by rw [h.2 i (by omega)]; exact Cg.refl _ _
theorem Mon.length {p : Int} (hp : 1 < p) {v : List Int} {n : Nat} (h : Mon v n) : (nrm p v).length = n + 1 := by
  have h1 := nrm_deg (by omega) (h.deg (p := p))
  rcases Nat.lt_or_ge n (nrm p v).length with e | e
  · omega
  · have := nrm_co p v n
    rw [co_over e, h.1, Int.emod_eq_of_lt (by omega) hp] at this
    omega
theorem van_root {x : Int} : ∀ (xs v : List Int), x ∈ xs → ev (van v xs) x = 0
  | [], _, h => by simp at h
  | y :: xs, v, h => by
    rcases List.mem_cons.1 h with e | e
    · subst e
      have : ∀ (l w : List Int), ev w x = 0 → ev (van w l) x = 0 := by
        intro l
        induction l with
        | nil => intro w hw; exact hw
        | cons z l ih => intro w hw; exact ih _ (by rw [ev_lin, hw]; simp)
      exact this xs _ (by rw [ev_lin]; simp)
    · exact van_root xs _ e
theorem van_nonroot {p : Nat} (hp : Pr p) {x : Int} : ∀ (xs v : List Int), (∀ y ∈ xs, ¬ Cg p x y) → ¬ Cg p (ev v x) 0 → ¬ Cg p (ev (van v xs) x) 0
  | [], _, _, hv => hv
  | y :: xs, v, h, hv => by
    refine van_nonroot hp xs _ (fun z hz => h z (List.mem_cons_of_mem _ hz)) fun h0 => ?_
    rw [ev_lin] at h0
    rcases hp.int h0 with e | e
    · exact h y (List.mem_cons_self ..) (Cg.of_sub e)
    · exact hv e
end Go.Proofs.YthinfmfjpaikiaaDoor.Pol
