/- Lists of lists; what the program's Split and Join answer. -/
import Derived.Test.YtmnahhacobfafaaDoorSpecL
import Derived.Test.YtmnahhacobfafaaDoorQ15
namespace Go.Proofs.YtmnahhacobfafaaDoor.Pure
open Go.RowKit Go.Proofs.YtmnahhacobfafaaDoor.Q Go.Proofs.YtmnahhacobfafaaDoor.Num Go.Proofs.YtmnahhacobfafaaDoor.Pol Go.Proofs.YtmnahhacobfafaaDoorW.PrintWords Go.Proofs.YtmnahhacobfafaaDoorW.PrintLast Go.Proofs.YtmnahhacobfafaaDoorW.PrintMore

/-- Row i of a list of lists. -/
def lc (x : List (List Int)) (i : Nat) : List Int := x.getD i []
theorem rd_L1_nat (x : List (List Int)) (i : Nat) : rd_L1 x (i : Int) = lc x i := by simp [rd_L1, lc]
theorem lc_over {x : List (List Int)} {i : Nat} (h : x.length ≤ i) : lc x i = [] := by simp [lc, List.getD, List.getElem?_eq_none h]
theorem lc_lt {x : List (List Int)} {i : Nat} (h : i < x.length) : lc x i = x[i] := by simp [lc, List.getD, h]
theorem lc_set {x : List (List Int)} {i : Nat} (h : i < x.length) (v : List Int) (j : Nat) : lc (x.set i v) j = if j = i then v else lc x j := by
  unfold lc
  by_cases e : j = i
  · subst e; simp [List.getD, h]
  · rw [if_neg e]; simp [List.getD, List.getElem?_set, Ne.symm e]
theorem ext_lc {a b : List (List Int)} (hl : a.length = b.length) (h : ∀ i, i < a.length → lc a i = lc b i) : a = b := by
  refine List.ext_getElem hl fun i h1 h2 => ?_
  have := h i h1
  rwa [lc_lt h1, lc_lt h2] at this
/-- Part j of m. -/
def prt (m j : Nat) (l : List Int) : List Int := (List.range l.length).map fun i => co l (j + i * m)
theorem co_prt {m : Nat} (hm : 0 < m) (j : Nat) (l : List Int) (i : Nat) : co (prt m j l) i = co l (j + i * m) := by
  by_cases e : i < l.length
  · rw [co_lt (by simp [prt, e])]; simp [prt]
  · have : i ≤ i * m := Nat.le_mul_of_pos_right i hm
    rw [co_over (by simp [prt]; omega), co_over (by omega)]
def spl (p : Int) (m : Nat) (l : List Int) : List (List Int) := (List.range m).map fun j => nrm p (prt m j l)
theorem spl_length (p : Int) (m : Nat) (l : List Int) : (spl p m l).length = m := by simp [spl]
theorem lc_spl {p : Int} {m : Nat} {l : List Int} {j : Nat} (hj : j < m) : lc (spl p m l) j = nrm p (prt m j l) := by
  rw [lc_lt (by rw [spl_length]; exact hj)]; simp [spl]
/-- What Join puts at place t. -/
def jc (m : Nat) (x : List (List Int)) (t : Nat) : Int := co (lc x (t % m)) (t / m)
theorem idx_lt {i j m L : Nat} (hi : i < L) (hj : j < m) : i * m + j < L * m := by
  have := Nat.mul_le_mul_right m (show i + 1 ≤ L from hi)
  rw [Nat.add_mul] at this
  omega
theorem idx_mod {i j m : Nat} (hj : j < m) : (i * m + j) % m = j := by rw [Nat.mul_comm, Nat.mul_add_mod]; exact Nat.mod_eq_of_lt hj
theorem idx_div {i j m : Nat} (hj : j < m) : (i * m + j) / m = i := by
  rw [Nat.add_comm, Nat.add_mul_div_right _ _ (by omega), Nat.div_eq_of_lt hj, Nat.zero_add]
theorem idx_of (t m : Nat) : t / m * m + t % m = t := by rw [Nat.mul_comm]; exact Nat.div_add_mod t m
/-- The rows as they stand when i numbers have been dealt out. -/
structure Dealt (p : Int) (m : Nat) (l : List Int) (i : Nat) (x : List (List Int)) : Prop where
  len : x.length = m
  row : ∀ r, r < m → (∀ t, t < (lc x r).length ↔ r + t * m < i) ∧ ∀ t, co (lc x r) t = if r + t * m < i then co l (r + t * m) % p else 0
theorem Dealt.le {p : Int} {m : Nat} {l : List Int} {i : Nat} {x : List (List Int)} (h : Dealt p m l i x) {r : Nat} (hr : r < m) : (lc x r).length ≤ i := by
  rcases Nat.lt_or_ge i (lc x r).length with q | q
  · have := ((h.row r hr).1 i).1 q
    have := Nat.le_mul_of_pos_right i (show 0 < m by omega)
    omega
  · exact q
theorem Dealt.step {p : Int} {m : Nat} {l : List Int} {i : Nat} {x : List (List Int)} (h : Dealt p m l i x) (hm : 0 < m) : Dealt p m l (i + 1) (x.set (i % m) (lc x (i % m) ++ [co l i % p])) := by
  have hr := Nat.mod_lt i hm
  have hi := idx_of i m
  have hlen : (lc x (i % m)).length = i / m := by
    have h1 := (h.row _ hr).1
    rcases Nat.lt_trichotomy (lc x (i % m)).length (i / m) with q | q | q
    · have e1 := Nat.mul_le_mul_right m (show (lc x (i % m)).length + 1 ≤ i / m from q)
      rw [Nat.add_mul] at e1
      have := (h1 (lc x (i % m)).length).2 (by omega)
      omega
    · exact q
    · have := (h1 (i / m)).1 q
      omega
  refine ⟨by rw [List.length_set]; exact h.len, fun r hrm => ?_⟩
  rw [lc_set (by rw [h.len]; exact hr)]
  by_cases e : r = i % m
  · subst e
    rw [if_pos rfl]
    have hh := h.row _ hr
    refine ⟨fun t => ?_, fun t => ?_⟩
    · rw [List.length_append, List.length_singleton, hlen]
      constructor
      · intro ht
        have := Nat.mul_le_mul_right m (show t ≤ i / m by omega)
        omega
      · intro ht
        rcases Nat.lt_or_ge t (i / m + 1) with q | q
        · exact q
        · have := Nat.mul_le_mul_right m q
          rw [Nat.add_mul] at this
          omega
    · rw [co_append]
      by_cases q : t < (lc x (i % m)).length
      · have := (hh.1 t).1 q
        rw [if_pos q, hh.2, if_pos this, if_pos (by omega)]
      · rw [if_neg q]
        rcases Nat.eq_or_lt_of_le (Nat.not_lt.1 q) with q2 | q2
        · rw [← q2, Nat.sub_self, hlen, if_pos (by omega), co_cons_zero, show i % m + i / m * m = i by omega]
        · have := Nat.mul_le_mul_right m (show i / m + 1 ≤ t by omega)
          rw [Nat.add_mul] at this
          rw [co_over (by simp; omega), if_neg (by omega)]
  · rw [if_neg e]
    have hh := h.row r hrm
    have ne : ∀ t, r + t * m ≠ i := fun t c => e (by rw [← c, Nat.add_mul_mod_self_right, Nat.mod_eq_of_lt hrm])
    refine ⟨fun t => ?_, fun t => ?_⟩
    · rw [hh.1 t]; have := ne t; omega
    · rw [hh.2 t]
      have := ne t
      by_cases q : r + t * m < i
      · rw [if_pos q, if_pos (by omega)]
      · rw [if_neg q, if_neg (by omega)]
theorem Dealt.zero (p : Int) (m : Nat) (l : List Int) : Dealt p m l 0 (List.replicate m []) := by
  refine ⟨by simp, fun r hr => ?_⟩
  have : lc (List.replicate m []) r = [] := by rw [lc_lt (by simp [hr])]; simp
  rw [this]
  exact ⟨fun t => by simp, fun t => by simp⟩
theorem Dealt.done {p : Int} (hp : 0 < p) {m : Nat} (hm : 0 < m) {l : List Int} {x : List (List Int)} (h : Dealt p m l l.length x) {r : Nat} (hr : r < m) : trm (lc x r) = nrm p (prt m r l) := by
  refine (trm_lz _).eq (nrm_nf hp _).lz fun t => ?_
  rw [trm_co, nrm_co, co_prt hm, (h.row r hr).2]
  by_cases q : r + t * m < l.length
  · rw [if_pos q]
  · rw [if_neg q, co_over (by omega)]; simp
theorem split_l1 {m : Nat} (hm : m ≤ 64) {x0 y : List (List Int)} (h0 : x0.length = m) (hy : y.length = m) (hb : ∀ r, r < m → (lc x0 r).length ≤ 1000000) (ht : ∀ r, r < m → lc y r = trm (lc x0 r)) :
    ∀ (d j : Nat) (x : List (List Int)), j + d = m → x.length = m → (∀ r, r < m → lc x r = if r < j then trm (lc x0 r) else lc x0 r) → Ev (fun k => poly_Split.l1 k x (m : Int) j) y := by
  intro d
  induction d with
  | zero =>
    intro j x hj hx hc
    have : x = y := ext_lc (by omega) fun r hr => by rw [hc r (by omega), if_pos (by omega), ht r (by omega)]
    subst this
    refine Ev.succ (F := fun _ => some x) (fun k => ?_) (Ev.all fun _ => rfl)
    rw [poly_Split.l1, if_neg (by omega)]
  | succ d ih =>
    intro j x hj hx hc
    have gj : j < x.length := by omega
    have e : lc x j = lc x0 j := by rw [hc j (by omega), if_neg (by omega)]
    obtain ⟨K1, h1⟩ := Ev.get (s_trim (hb j (by omega)))
    obtain ⟨K2, h2⟩ := Ev.get (ih (j + 1) (x.set j (trm (lc x0 j))) (by omega) (by rw [List.length_set]; exact hx) (fun r hr => by
      rw [lc_set gj]
      by_cases q : r = j
      · subst q; rw [if_pos rfl, if_pos (by omega)]
      · rw [if_neg q, hc r hr]
        by_cases q2 : r < j
        · rw [if_pos q2, if_pos (by omega)]
        · rw [if_neg q2, if_neg (by omega)]))
    refine Ev.mks (K1 + K2) fun k hk => ?_
    rw [poly_Split.l1, if_pos (by omega), if_pos (by omega), if_pos (Int.ofNat_lt.2 gj), rd_L1_nat, e, h1 k (by omega), Option.bind_some, w64_succ (by omega), Int.toNat_natCast]
    exact h2 k (by omega)
section good
variable {f : Int} {p : Nat} (h : FP f p)
include h
theorem split_l0 {l : List Int} (hl : l.length ≤ 1000000) (hu : UL l) {m : Nat} (h1 : 0 < m) (hm : m ≤ 64) :
    ∀ (d i : Nat) (x : List (List Int)), i + d = l.length → Dealt p m l i x → Ev (fun k => poly_Split.l0 k f (m : Int) x l (l.length : Int) i) (spl p m l) := by
  intro d
  induction d with
  | zero =>
    intro i x hi hx
    obtain rfl : i = l.length := by omega
    have key := split_l1 hm (y := spl p m l) hx.len (spl_length _ _ _) (fun r hr => Nat.le_trans (hx.le hr) hl) (fun r hr => by rw [lc_spl hr, hx.done h.pos h1 hr]) m 0 x (by omega) hx.len (fun r hr => by rw [if_neg (by omega)])
    refine Ev.succ (fun k => ?_) key
    rw [poly_Split.l0, if_neg (by omega), hx.len]
    rfl
  | succ d ih =>
    intro i x hi hx
    have gi : i < l.length := by omega
    have gm := Nat.mod_lt i h1
    have gl := hx.len
    have lr := hx.le gm
    have key := ih (i + 1) _ (by omega) (hx.step h1)
    refine Ev.succ (fun k => ?_) key
    have et : Int.tmod (i : Int) (m : Int) = ((i % m : Nat) : Int) := rfl
    rw [poly_Split.l0, if_pos (Int.ofNat_lt.2 gi), if_pos (Int.natCast_nonneg _), if_pos (Int.ofNat_lt.2 gi), if_neg (by omega), et, if_pos (Int.natCast_nonneg _), if_pos (by omega), rd_nat, s_Reduce h (U.co hu i).1, Option.bind_some, rd_L1_nat, if_pos (by omega), w64_succ (by omega), Int.toNat_natCast]
theorem s_Split {l : List Int} (hl : l.length ≤ 1000000) (hu : UL l) {m : Nat} (h1 : 0 < m) (hm : m ≤ 64) : Ev (fun k => poly_Split.f k f l (m : Int)) (spl p m l) := by
  have key := split_l0 h hl hu h1 hm l.length 0 _ (by omega) (Dealt.zero p m l)
  refine Ev.congr (F := fun k => poly_Split.j0 k f l (m : Int) false) (fun k => ?_) (Ev.succ (fun k => ?_) key)
  · rw [poly_Split.f, s_Valid h, Option.bind_some, if_pos rfl, if_neg (by omega), decide_eq_false (by omega)]
  · rw [poly_Split.j0, if_neg (by decide), if_pos (by omega), if_pos (by omega), Int.toNat_natCast]
    rfl
end good
/-- The rows of a Join: short, of numbers of 64 bits. -/
structure Rows0 (x : List (List Int)) : Prop where
  m : x.length ≤ 64
  len : ∀ r, (lc x r).length ≤ 10000
  u : ∀ r, UL (lc x r)
/-- What has been put in place when the rows before j and i numbers of row j have been dealt with. -/
def Put (m : Nat) (x : List (List Int)) (j i : Nat) (y : List Int) : Prop := ∀ t, co y t = if t % m < j ∨ (t % m = j ∧ t / m < i) then jc m x t else 0
theorem Put.set {m : Nat} {x : List (List Int)} {j i : Nat} {y : List Int} (h : Put m x j i y) (hj : j < m) (hy : i * m + j < y.length) : Put m x j (i + 1) (y.set (i * m + j) (co (lc x j) i)) := fun t => by
  rw [co_set hy, h t]
  by_cases e : t = i * m + j
  · subst e
    rw [if_pos rfl, idx_mod hj, idx_div hj, if_pos (Or.inr ⟨rfl, by omega⟩), jc, idx_mod hj, idx_div hj]
  · rw [if_neg e]
    have ne : ¬ (t % m = j ∧ t / m = i) := fun ⟨a, b⟩ => e (by rw [← a, ← b]; exact (idx_of t m).symm)
    by_cases q : t % m < j ∨ (t % m = j ∧ t / m < i)
    · rw [if_pos q, if_pos (by omega)]
    · rw [if_neg q, if_neg (by omega)]
theorem Put.next {m : Nat} {x : List (List Int)} {j i : Nat} {y : List Int} (h : Put m x j i y) (hi : (lc x j).length ≤ i) : Put m x (j + 1) 0 y := fun t => by
  rw [h t]
  have ej : t % m = j → i ≤ t / m → jc m x t = 0 := fun a b => by rw [jc, a, co_over (Nat.le_trans hi b)]
  generalize t % m = u at *
  generalize t / m = v at *
  by_cases e : u = j ∧ i ≤ v
  · rw [if_neg (by omega), if_pos (by omega), ej e.1 e.2]
  · by_cases q : u < j ∨ (u = j ∧ v < i)
    · rw [if_pos q, if_pos (by omega)]
    · rw [if_neg q, if_neg (by omega)]
theorem Put.zero (m : Nat) (x : List (List Int)) (n : Nat) : Put m x 0 0 (List.replicate n 0) := fun t => by
  rw [co_replicate]
  generalize t % m = u
  generalize t / m = v
  rw [if_neg (by omega)]
theorem jc_nil {x : List (List Int)} (h : x.length = 0) (m t : Nat) : jc m x t = 0 := by rw [jc, lc_over (by omega)]; simp
theorem Put.end {x : List (List Int)} {y : List Int} (h : Put x.length x x.length 0 y) (t : Nat) : co y t = jc x.length x t := by
  rcases Nat.eq_zero_or_pos x.length with e | e
  · rw [h t, jc_nil e, ite_self]
  · rw [h t, if_pos (Or.inl (Nat.mod_lt _ e))]
theorem Put.u {m : Nat} {x : List (List Int)} (hx : Rows0 x) {j i : Nat} {y : List Int} (h : Put m x j i y) : UL y := fun c hc => by
  obtain ⟨t, ht, rfl⟩ := List.getElem_of_mem hc
  rw [← co_lt ht, h t]
  split
  · exact U.co (hx.u _) _
  · exact U.zero
theorem join_l2 {f : Int} {x : List (List Int)} (hx : Rows0 x) {L : Nat} (hL : L * x.length ≤ 640000) (hb : ∀ r, (lc x r).length ≤ L) {j : Nat} (gj : j < x.length) {v : List Int}
    (hK : ∀ y : List Int, y.length = L * x.length → Put x.length x (j + 1) 0 y → Ev (fun k => poly_Join.l1 k f (x.length : Int) y x (x.length : Int) ((j + 1 : Nat) : Int)) v) :
    ∀ (e i : Nat) (y : List Int), i + e = (lc x j).length → y.length = L * x.length → Put x.length x j i y → Ev (fun k => poly_Join.l2 k f (x.length : Int) y (j : Int) x (x.length : Int) (j : Int) (lc x j) ((lc x j).length : Int) i) v := by
  have hm := hx.m
  have lb := hx.len j
  have ewj : wrap64 ((j : Int) + 1) = ((j + 1 : Nat) : Int) := by clear hK hb; exact w64_succ (by omega)
  intro e
  induction e with
  | zero =>
    intro i y hi hy hp
    have g : ¬ (i : Int) < ((lc x j).length : Int) := by clear hp hK hb; omega
    refine Ev.succ (fun k => ?_) (hK y hy (hp.next (by clear hp hK hb; omega)))
    rw [poly_Join.l2, if_neg g, ewj]
  | succ e ihe =>
    intro i y hi hy hp
    have gi : i < (lc x j).length := by clear hp hK hb ihe; omega
    have q1 := idx_lt (m := x.length) (Nat.lt_of_lt_of_le gi (hb j)) gj
    have q2 : i * x.length + j < y.length := by rw [hy]; exact q1
    have e1 : wrap64 (wrap64 ((i : Int) * (x.length : Int)) + (j : Int)) = ((i * x.length + j : Nat) : Int) := by
      rw [← Int.natCast_mul]
      clear hp hK hb ihe hy
      generalize i * x.length = u at *
      generalize L * x.length = w at *
      rw [w64 (n := (u : Int)) (by omega) (by omega), w64 (by omega) (by omega)]; omega
    have ewi : wrap64 ((i : Int) + 1) = ((i + 1 : Nat) : Int) := by clear hp hK hb ihe e1 q1 q2 hy; exact w64_succ (by omega)
    have key := ihe (i + 1) _ (by clear hp hK hb ihe e1 q1 q2 hy; omega) (by rw [List.length_set]; exact hy) (hp.set gj q2)
    refine Ev.succ (fun k => ?_) key
    rw [poly_Join.l2, if_pos (Int.ofNat_lt.2 gi), if_pos (Int.natCast_nonneg _), if_pos (Int.ofNat_lt.2 gi), e1, if_pos (Int.natCast_nonneg _), if_pos (Int.ofNat_lt.2 q2), rd_nat, ewi, Int.toNat_natCast]
section any
variable {f : Int} {p : Nat} (h : FO f p)
include h
theorem join_l1 {x : List (List Int)} (hx : Rows0 x) {O : List Int} (hO : ∀ t, co O t = jc x.length x t) {L : Nat} (hL : L * x.length ≤ 640000) (hb : ∀ r, (lc x r).length ≤ L) :
    ∀ (d j : Nat) (y : List Int), j + d = x.length → y.length = L * x.length → Put x.length x j 0 y → Ev (fun k => poly_Join.l1 k f (x.length : Int) y x (x.length : Int) j) (nrm p O) := by
  intro d
  induction d with
  | zero =>
    intro j y hj hy hp
    obtain rfl : j = x.length := by omega
    have e : nrm p O = nrm p y := nrm_congr fun t => Cg.of_eq (by rw [hO, hp.end])
    have ly : y.length ≤ 1000000 := by rw [hy]; exact Nat.le_trans hL (by decide)
    obtain ⟨K1, k1⟩ := Ev.get (s_Normal h (l := y) ly (hp.u hx))
    refine Ev.mks K1 fun k hk => ?_
    rw [poly_Join.l1, if_neg (Int.lt_irrefl _), k1 k hk, Option.bind_some, e]
  | succ d ih =>
    intro j y hj hy hp
    have gj : j < x.length := by omega
    have key := join_l2 hx hL hb gj (fun y hy hp => ih (j + 1) y (by omega) hy hp) (lc x j).length 0 y (Nat.zero_add _) hy hp
    refine Ev.succ (fun k => ?_) key
    rw [poly_Join.l1, if_pos (Int.ofNat_lt.2 gj), if_pos (Int.natCast_nonneg _), if_pos (Int.ofNat_lt.2 gj), rd_L1_nat]
    rfl
theorem join_l0 {x : List (List Int)} (hx : Rows0 x) {O : List Int} (hO : ∀ t, co O t = jc x.length x t) :
    ∀ (d i L : Nat), i + d = x.length → L ≤ 10000 → (∀ r, r < i → (lc x r).length ≤ L) → Ev (fun k => poly_Join.l0 k f x (x.length : Int) (L : Int) x (x.length : Int) i) (nrm p O) := by
  have hm := hx.m
  intro d
  induction d with
  | zero =>
    intro i L hi hL hb
    have hLm : L * x.length ≤ 640000 := Nat.mul_le_mul hL hm
    have hb2 : ∀ r, (lc x r).length ≤ L := fun r => by
      rcases Nat.lt_or_ge r i with q | q
      · exact hb r q
      · rw [lc_over (by omega)]; simp
    have key := join_l1 h hx hO hLm hb2 x.length 0 (List.replicate (L * x.length) 0) (by omega) (by simp) (Put.zero _ _ _)
    have e1 : wrap64 ((L : Int) * (x.length : Int)) = ((L * x.length : Nat) : Int) := by
      rw [← Int.natCast_mul, w64 (by omega) (by omega)]
    refine Ev.succ (fun k => ?_) key
    rw [poly_Join.l0, if_neg (by omega), e1, if_pos (Int.natCast_nonneg _), Int.toNat_natCast, if_pos (by omega)]
    rfl
  | succ d ih =>
    intro i L hi hL hb
    have gi : i < x.length := by omega
    have e : mx (L : Int) ((lc x i).length : Int) = ((max L (lc x i).length : Nat) : Int) := by unfold mx; split <;> omega
    have hli := hx.len i
    have key := ih (i + 1) (max L (lc x i).length) (by omega) (by omega) (fun r hr => by
      rcases Nat.lt_or_ge r i with q | q
      · have := hb r q; omega
      · obtain rfl : r = i := by omega
        omega)
    refine Ev.succ (fun k => ?_) key
    rw [poly_Join.l0, if_pos (Int.ofNat_lt.2 gi), if_pos (Int.natCast_nonneg _), if_pos (Int.ofNat_lt.2 gi), rd_L1_nat, e, w64_succ (by omega)]
theorem s_Join {x : List (List Int)} (hx : Rows0 x) {O : List Int} (hO : ∀ t, co O t = jc x.length x t) : Ev (fun k => poly_Join.f k f x) (nrm p O) := by
  have hm := hx.m
  refine Ev.congr (fun k => ?_) (join_l0 h hx hO x.length 0 0 (by omega) (by omega) (fun r hr => by omega))
  rw [poly_Join.f, if_neg (by omega)]
  rfl
end any
end Go.Proofs.YtmnahhacobfafaaDoor.Pure
