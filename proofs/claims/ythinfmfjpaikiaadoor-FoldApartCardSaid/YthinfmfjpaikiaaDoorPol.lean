/- Polynomials as lists of whole numbers, modulo a prime: values, normal forms, products, roots, division. No program in sight. -/
import Derived.Test.YthinfmfjpaikiaaDoorNum
namespace Go.Proofs.YthinfmfjpaikiaaDoor.Pol
open Num

def co (l : List Int) (i : Nat) : Int := l.getD i 0
def ev : List Int → Int → Int
  | [], _ => 0
  | c :: t, x => c + x * ev t x
def padd : List Int → List Int → List Int
  | [], b => b
  | x :: a, [] => x :: a
  | x :: a, y :: b => (x + y) :: padd a b
def psc (c : Int) (l : List Int) : List Int := l.map (c * ·)
def psub (a b : List Int) : List Int := padd a (psc (-1) b)

@[simp] theorem co_nil (i : Nat) : co [] i = 0 := by simp [co]
@[simp] theorem co_cons_zero (c : Int) (t : List Int) : co (c :: t) 0 = c := by simp [co]
@[simp] theorem co_cons_succ (c : Int) (t : List Int) (i : Nat) : co (c :: t) (i + 1) = co t i := by simp [co]
theorem co_over {l : List Int} {i : Nat} (h : l.length ≤ i) : co l i = 0 := by simp [co, List.getD, List.getElem?_eq_none h]
theorem co_lt {l : List Int} {i : Nat} (h : i < l.length) : co l i = l[i] := by simp [co, List.getD, h]
theorem co_mem {l : List Int} {i : Nat} (h : i < l.length) : co l i ∈ l := by rw [co_lt h]; exact List.getElem_mem h
theorem co_padd : ∀ (a b : List Int) (i : Nat), co (padd a b) i = co a i + co b i
  | [], b, i => by simp [padd]
  | x :: a, [], i => by simp [padd]
  | x :: a, y :: b, 0 => by simp [padd]
  | x :: a, y :: b, i + 1 => by simp only [padd, co_cons_succ]; exact co_padd a b i
theorem co_psc (c : Int) : ∀ (l : List Int) (i : Nat), co (psc c l) i = c * co l i
  | [], i => by simp [psc]
  | x :: l, 0 => by simp [psc]
  | x :: l, i + 1 => by have := co_psc c l i; simp only [psc, List.map_cons, co_cons_succ] at this ⊢; exact this
theorem co_psub (a b : List Int) (i : Nat) : co (psub a b) i = co a i - co b i := by rw [psub, co_padd, co_psc]; omega
theorem ev_padd (x : Int) : ∀ a b : List Int, ev (padd a b) x = ev a x + ev b x
  | [], b => by simp [padd, ev]
  | c :: a, [] => by simp [padd, ev]
  | c :: a, d :: b => by simp only [padd, ev, ev_padd x a b]; grind
theorem ev_psc (x c : Int) : ∀ l : List Int, ev (psc c l) x = c * ev l x
  | [] => by simp [psc, ev]
  | d :: l => by
    have := ev_psc x c l
    simp only [psc, List.map_cons, ev] at this ⊢
    rw [this]; grind
theorem ev_psub (x : Int) (a b : List Int) : ev (psub a b) x = ev a x - ev b x := by rw [psub, ev_padd, ev_psc]; grind

def EqP (p : Int) (a b : List Int) : Prop := ∀ i, Cg p (co a i) (co b i)
theorem EqP.refl (p : Int) (a : List Int) : EqP p a a := fun _ => Cg.refl _ _
theorem EqP.symm {p : Int} {a b : List Int} (h : EqP p a b) : EqP p b a := fun i => (h i).symm
theorem EqP.trans {p : Int} {a b c : List Int} (h : EqP p a b) (g : EqP p b c) : EqP p a c := fun i => (h i).trans (g i)
theorem EqP.padd {p : Int} {a b c d : List Int} (h : EqP p a b) (g : EqP p c d) : EqP p (padd a c) (padd b d) := fun i => by rw [co_padd, co_padd]; exact (h i).add (g i)
theorem EqP.psc {p : Int} {a b : List Int} {c d : Int} (g : Cg p c d) (h : EqP p a b) : EqP p (psc c a) (psc d b) := fun i => by rw [co_psc, co_psc]; exact g.mul (h i)
theorem EqP.psub {p : Int} {a b c d : List Int} (h : EqP p a b) (g : EqP p c d) : EqP p (psub a c) (psub b d) := fun i => by rw [co_psub, co_psub]; exact (h i).sub (g i)
theorem EqP.tail {p c d : Int} {a b : List Int} (h : EqP p (c :: a) (d :: b)) : EqP p a b := fun i => by simpa using h (i + 1)
theorem EqP.tail_nil {p c : Int} {a : List Int} (h : EqP p (c :: a) []) : EqP p a [] := fun i => by simpa using h (i + 1)
theorem ev_zero {p : Int} (x : Int) : ∀ {a : List Int}, EqP p a [] → Cg p (ev a x) 0
  | [], _ => Cg.refl _ _
  | c :: a, h => by
    have h0 : Cg p c 0 := by simpa using h 0
    have := h0.add ((Cg.refl p x).mul (ev_zero x h.tail_nil))
    simpa [ev] using this
theorem EqP.ev {p : Int} (x : Int) : ∀ {a b : List Int}, EqP p a b → Cg p (ev a x) (ev b x)
  | [], b, h => (ev_zero x h.symm).symm
  | c :: a, [], h => ev_zero x h
  | c :: a, d :: b, h => by
    have h0 : Cg p c d := by simpa using h 0
    exact h0.add ((Cg.refl p x).mul (EqP.ev x h.tail))
theorem ev_arg {p x y : Int} (h : Cg p x y) : ∀ a : List Int, Cg p (ev a x) (ev a y)
  | [] => Cg.refl _ _
  | c :: a => (Cg.refl p c).add (h.mul (ev_arg h a))
def Deg (p : Int) (l : List Int) (n : Nat) : Prop := ∀ i, n ≤ i → Cg p (co l i) 0
theorem Deg.len (p : Int) (l : List Int) : Deg p l l.length := fun i h => by rw [co_over h]; exact Cg.refl _ _
theorem Deg.mono {p : Int} {l : List Int} {n m : Nat} (h : Deg p l n) (hn : n ≤ m) : Deg p l m := fun i hi => h i (Nat.le_trans hn hi)
theorem Deg.congr {p : Int} {a b : List Int} {n : Nat} (h : Deg p a n) (e : EqP p a b) : Deg p b n := fun i hi => (e i).symm.trans (h i hi)
theorem Deg.padd {p : Int} {a b : List Int} {n : Nat} (h : Deg p a n) (g : Deg p b n) : Deg p (padd a b) n := fun i hi => by
  rw [co_padd]; simpa using (h i hi).add (g i hi)
theorem Deg.psub {p : Int} {a b : List Int} {n : Nat} (h : Deg p a n) (g : Deg p b n) : Deg p (psub a b) n := fun i hi => by
  rw [co_psub]; simpa using (h i hi).sub (g i hi)
theorem Deg.psc {p c : Int} {a : List Int} {n : Nat} (h : Deg p a n) : Deg p (psc c a) n := fun i hi => by
  rw [co_psc]; simpa using (Cg.refl p c).mul (h i hi)
theorem Deg.tail {p c : Int} {a : List Int} {n : Nat} (h : Deg p (c :: a) (n + 1)) : Deg p a n := fun i hi => by simpa using h (i + 1) (by omega)
theorem Deg.nil {p : Int} {a : List Int} (h : Deg p a 0) : EqP p a [] := fun i => by simpa using h i (Nat.zero_le _)
def quo : List Int → Int → List Int
  | [], _ => []
  | _ :: t, r => ev t r :: quo t r
theorem quo_ev (x r : Int) : ∀ a : List Int, ev a x = ev a r + (x - r) * ev (quo a r) x
  | [] => by simp [ev, quo]
  | c :: t => by
    have h := quo_ev x r t
    simp only [ev, quo]
    rw [h]; grind
theorem quo_co (r : Int) : ∀ (a : List Int) (i : Nat), co (quo a r) i = ev (a.drop (i + 1)) r
  | [], i => by simp [quo, ev]
  | c :: t, 0 => by simp [quo]
  | c :: t, i + 1 => by simp only [quo, co_cons_succ, List.drop_succ_cons]; exact quo_co r t i
theorem co_drop (a : List Int) (k i : Nat) : co (a.drop k) i = co a (k + i) := by simp [co, List.getD]
theorem ev_step (r : Int) : ∀ (a : List Int) (i : Nat), ev (a.drop i) r = co a i + r * ev (a.drop (i + 1)) r
  | [], i => by simp [ev]
  | c :: t, 0 => by simp [ev]
  | c :: t, i + 1 => by simp only [List.drop_succ_cons, co_cons_succ]; exact ev_step r t i
theorem Deg.quo {p : Int} {a : List Int} {n : Nat} (h : Deg p a (n + 1)) (r : Int) : Deg p (quo a r) n := fun i hi => by
  rw [quo_co]
  refine ev_zero r fun j => ?_
  rw [co_drop]
  simpa using h (i + 1 + j) (by omega)
def Apart (p : Int) : List Int → Prop
  | [] => True
  | x :: l => (∀ y ∈ l, ¬ Cg p x y) ∧ Apart p l
theorem roots {p : Nat} (hp : Pr p) : ∀ (xs : List Int) (a : List Int), Apart p xs → Deg p a xs.length → (∀ x ∈ xs, Cg p (ev a x) 0) → EqP p a []
  | [], a, _, hd, _ => hd.nil
  | r :: xs, a, hx, hd, hr => by
    have h0 := hr r (List.mem_cons_self ..)
    have hq : EqP p (quo a r) [] := by
      refine roots hp xs (quo a r) hx.2 (hd.quo r) fun x hxm => ?_
      have h1 := hr x (List.mem_cons_of_mem _ hxm)
      rw [quo_ev x r a] at h1
      have h2 : Cg p ((x - r) * ev (quo a r) x) 0 := by
        have := h1.sub h0
        have e : ev a r + (x - r) * ev (quo a r) x - ev a r = (x - r) * ev (quo a r) x := by omega
        rw [e] at this
        simpa using this
      rcases hp.int h2 with h3 | h3
      · exact absurd (Cg.of_sub h3).symm (hx.1 x hxm)
      · exact h3
    intro i
    have h1 : ∀ i, Cg p (ev (a.drop (i + 1)) r) 0 := fun i => by
      have := hq i
      rwa [quo_co, co_nil] at this
    have h2 : Cg p (ev (a.drop i) r) 0 := by
      cases i with
      | zero => simpa using h0
      | succ i => exact h1 i
    have h3 := ev_step r a i
    have h4 := h2.sub ((Cg.refl p r).mul (h1 i))
    have e : ev (a.drop i) r - r * ev (a.drop (i + 1)) r = co a i := by omega
    rw [e] at h4
    simpa using h4
theorem interp_uniq {p : Nat} (hp : Pr p) {xs a b : List Int} (hx : Apart p xs) (ha : Deg p a xs.length) (hb : Deg p b xs.length) (h : ∀ x ∈ xs, Cg p (ev a x) (ev b x)) : EqP p a b := by
  have h1 := roots hp xs (psub a b) hx (ha.psub hb) fun x hxm => by rw [ev_psub]; exact (h x hxm).sub_zero
  intro i
  have := h1 i
  rw [co_psub, co_nil] at this
  exact Cg.of_sub this

def trm : List Int → List Int
  | [] => []
  | c :: t => if trm t = [] ∧ c = 0 then [] else c :: trm t
def Lz (l : List Int) : Prop := ∀ n, l.length = n + 1 → co l n ≠ 0
theorem Lz.eq {a b : List Int} (ha : Lz a) (hb : Lz b) (h : ∀ i, co a i = co b i) : a = b := by
  have hl : a.length = b.length := by
    rcases Nat.lt_trichotomy a.length b.length with e | e | e
    · obtain ⟨n, hn⟩ : ∃ n, b.length = n + 1 := ⟨b.length - 1, by omega⟩
      exact absurd ((h n).symm.trans (co_over (by omega))) (hb n hn)
    · exact e
    · obtain ⟨n, hn⟩ : ∃ n, a.length = n + 1 := ⟨a.length - 1, by omega⟩
      exact absurd ((h n).trans (co_over (by omega))) (ha n hn)
  refine List.ext_getElem hl fun i h1 h2 => ?_
  have := h i
  rwa [co_lt h1, co_lt h2] at this
theorem trm_co : ∀ (l : List Int) (i : Nat), co (trm l) i = co l i
  | [], i => rfl
  | c :: t, i => by
    have ih := trm_co t
    unfold trm
    split
    · rename_i h
      cases i with
      | zero => simp [h.2]
      | succ i => have := ih i; rw [h.1] at this; simpa using this
    · cases i with
      | zero => simp
      | succ i => simpa using ih i
theorem trm_lz : ∀ l : List Int, Lz (trm l)
  | [] => fun n h => by simp [trm] at h
  | c :: t => by
    have ih := trm_lz t
    unfold trm
    split
    · intro n h; simp at h
    · rename_i hc
      intro n h
      cases n with
      | zero =>
        have : trm t = [] := by simpa using h
        intro h0
        exact hc ⟨this, by simpa using h0⟩
      | succ n => rw [co_cons_succ]; exact ih n (by simpa using h)
def nrm (p : Int) (l : List Int) : List Int := trm (l.map (· % p))
theorem co_map_mod (p : Int) : ∀ (l : List Int) (i : Nat), co (l.map (· % p)) i = co l i % p
  | [], i => by simp
  | c :: t, 0 => by simp
  | c :: t, i + 1 => by simpa using co_map_mod p t i
theorem nrm_co (p : Int) (l : List Int) (i : Nat) : co (nrm p l) i = co l i % p := by rw [nrm, trm_co, co_map_mod]
structure Nf (p : Int) (l : List Int) : Prop where
  rng : ∀ i, 0 ≤ co l i ∧ co l i < p
  lz : Lz l
theorem nrm_nf {p : Int} (hp : 0 < p) (l : List Int) : Nf p (nrm p l) := ⟨fun i => by rw [nrm_co]; exact ⟨mod_nonneg hp _, mod_lt hp _⟩, trm_lz _⟩
theorem Nf.eq {p : Int} {a b : List Int} (ha : Nf p a) (hb : Nf p b) (h : EqP p a b) : a = b :=
  ha.lz.eq hb.lz fun i => (h i).uniq (ha.rng i).1 (ha.rng i).2 (hb.rng i).1 (hb.rng i).2
theorem nrm_deg {p : Int} (hp : 0 < p) {l : List Int} {n : Nat} (h : Deg p l n) : (nrm p l).length ≤ n := by
  rcases Nat.lt_or_ge n (nrm p l).length with e | e
  · obtain ⟨m, hm⟩ : ∃ m, (nrm p l).length = m + 1 := ⟨(nrm p l).length - 1, by omega⟩
    refine absurd ?_ ((nrm_nf hp l).lz m hm)
    rw [nrm_co]
    exact mod_eq_zero.2 (h m (by omega))
  · exact e
def Mon (v : List Int) (n : Nat) : Prop := co v n = 1 ∧ ∀ i, n < i → co v i = 0
theorem Mon.one : Mon [1] 0 := ⟨by simp, fun i hi => co_over (by simp; omega)⟩
theorem Mon.deg {p : Int} {v : List Int} {n : Nat} (h : Mon v n) : Deg p v (n + 1) := fun i hi => by rw [h.2 i (by omega)]; exact Cg.refl _ _
theorem Mon.length {p : Int} (hp : 1 < p) {v : List Int} {n : Nat} (h : Mon v n) : (nrm p v).length = n + 1 := by
  have h1 := nrm_deg (by omega) (h.deg (p := p))
  rcases Nat.lt_or_ge n (nrm p v).length with e | e
  · omega
  · have := nrm_co p v n
    rw [co_over e, h.1, Int.emod_eq_of_lt (by omega) hp] at this
    omega
end Go.Proofs.YthinfmfjpaikiaaDoor.Pol
