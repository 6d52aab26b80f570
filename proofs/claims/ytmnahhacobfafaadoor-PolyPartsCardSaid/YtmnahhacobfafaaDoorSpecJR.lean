/- What the reference's Split, Join and SameLists answer. -/
import Derived.Test.YtmnahhacobfafaaDoorSpecJ
import Derived.Test.YtmnahhacobfafaaDoorSpecR
import Derived.Test.YtmnahhacobfafaaDoorQ14
namespace Go.Proofs.YtmnahhacobfafaaDoor.Pure
open Go.RowKit Go.Proofs.YtmnahhacobfafaaDoor.Q Go.Proofs.YtmnahhacobfafaaDoor.Num Go.Proofs.YtmnahhacobfafaaDoor.Pol Go.Proofs.YtmnahhacobfafaaDoorW.PrintWords Go.Proofs.YtmnahhacobfafaaDoorW.PrintLast Go.Proofs.YtmnahhacobfafaaDoorW.PrintMore

theorem slist_l0 {x : List (List Int)} (hx : ∀ r, (lc x r).length ≤ 1000000) (hl : x.length ≤ 1000000) : ∀ (d i : Nat), i + d = x.length → Ev (fun k => attestorref03_SameLists.l0 k x x i) true := by
  intro d
  induction d with
  | zero =>
    intro i hi
    refine Ev.succ (F := fun _ => some true) (fun k => ?_) (Ev.all fun _ => rfl)
    rw [attestorref03_SameLists.l0, if_neg (by omega)]
  | succ d ih =>
    intro i hi
    have g : i < x.length := by omega
    obtain ⟨K1, k1⟩ := Ev.get (r_Same (hx i))
    obtain ⟨K2, k2⟩ := Ev.get (ih (i + 1) (by omega))
    refine Ev.mks (K1 + K2) fun k hk => ?_
    rw [attestorref03_SameLists.l0, if_pos (Int.ofNat_lt.2 g), if_pos (Int.natCast_nonneg _), if_pos (Int.ofNat_lt.2 g), rd_L1_nat, k1 k (by omega), Option.bind_some, if_pos rfl, w64_succ (by omega)]
    exact k2 k (by omega)
theorem r_SameLists {x : List (List Int)} (hx : ∀ r, (lc x r).length ≤ 1000000) (hl : x.length ≤ 1000000) : Ev (fun k => attestorref03_SameLists.f k x x) true := by
  refine Ev.congr (fun k => ?_) (slist_l0 hx hl x.length 0 (by omega))
  rw [attestorref03_SameLists.f, if_pos rfl]
  rfl
section good
variable {f : Int} {p : Nat} (h : FP f p)
include h
theorem rsplit_l1 {l : List Int} (hl : l.length ≤ 999998) (hu : UL l) {m : Nat} (h1 : 0 < m) (hm : m ≤ 64) {j : Nat} (hj : j < m) {out : List (List Int)} (ho : out.length ≤ 64) {v : List (List Int)}
    (hK : Ev (fun k => attestorref03_Split.l0 k f l (m : Int) (out ++ [nrm p (prt m j l)]) ((j + 1 : Nat) : Int)) v) :
    ∀ (d t : Nat) (y : List Int), l.length ≤ j + t * m + d → y.length = t → t ≤ l.length + 1 → (∀ s, s < t → co y s = co l (j + s * m)) → (t = 0 ∨ j + (t - 1) * m < l.length) → Ev (fun k => attestorref03_Split.l1 k f l (m : Int) out (j : Int) y ((j + t * m : Nat) : Int)) v := by
  have fin : ∀ (t : Nat) (y : List Int), l.length ≤ j + t * m → y.length = t → t ≤ l.length + 1 → (∀ s, s < t → co y s = co l (j + s * m)) → Ev (fun k => attestorref03_Split.l1 k f l (m : Int) out (j : Int) y ((j + t * m : Nat) : Int)) v := by
    intro t y hd hy htl hc
    have hc2 : EqP p y (prt m j l) := fun s => by
      rw [co_prt h1]
      rcases Nat.lt_or_ge s t with q | q
      · rw [hc s q]; exact Cg.refl _ _
      · have := Nat.mul_le_mul_right m q
        rw [co_over (by omega), co_over (by omega)]; exact Cg.refl _ _
    have uy : UL y := fun c hcm => by
      obtain ⟨s, hs, rfl⟩ := List.getElem_of_mem hcm
      rw [← co_lt hs, hc s (by omega)]
      exact U.co hu _
    have e := nrm_congr hc2
    obtain ⟨K1, k1⟩ := Ev.get (r_Normal h.o (l := y) (by omega) uy)
    obtain ⟨K2, k2⟩ := Ev.get hK
    refine Ev.mks (K1 + K2) fun k hk => ?_
    have g : ¬ ((j + t * m : Nat) : Int) < (l.length : Int) := by clear hc hc2 k1 k2; generalize t * m = u at *; omega
    rw [attestorref03_Split.l1, if_neg g, k1 k (by omega), Option.bind_some, if_pos (by omega), e, w64_succ (by omega)]
    exact k2 k (by omega)
  intro d
  induction d with
  | zero =>
    intro t y hd hy htl hc _
    exact fin t y hd hy htl hc
  | succ d ih =>
    intro t y hd hy htl hc h0
    rcases Nat.lt_or_ge (j + t * m) l.length with q | q
    · have e1 : j + (t + 1) * m = j + t * m + m := by rw [Nat.add_mul, Nat.one_mul, Nat.add_assoc]
      have lt : t ≤ t * m := Nat.le_mul_of_pos_right t h1
      have key := ih (t + 1) (y ++ [co l (j + t * m)]) (by rw [e1]; omega) (by simp [hy]) (by omega) (fun s hs => by
        rw [co_append, hy]
        rcases Nat.lt_or_ge s t with q2 | q2
        · rw [if_pos q2, hc s q2]
        · obtain rfl : s = t := by omega
          rw [if_neg (by omega), Nat.sub_self, co_cons_zero]) (Or.inr (by rw [Nat.add_sub_cancel]; exact q))
      rw [e1] at key
      refine Ev.succ (fun k => ?_) key
      have ew : wrap64 (((j + t * m : Nat) : Int) + (m : Int)) = ((j + t * m + m : Nat) : Int) := by
        clear hc key ih e1 fin hK
        generalize t * m = u at *
        rw [w64 (by omega) (by omega)]; omega
      have ly : y.length < 17592186044416 := by clear hc key ih e1 fin hK ew; omega
      rw [attestorref03_Split.l1, if_pos (Int.ofNat_lt.2 q), if_pos (Int.natCast_nonneg _), if_pos ly, rd_nat, ew]
    · exact fin t y q hy htl hc
theorem rsplit_l0 {l : List Int} (hl : l.length ≤ 999998) (hu : UL l) {m : Nat} (h1 : 0 < m) (hm : m ≤ 64) :
    ∀ (d j : Nat), j + d = m → Ev (fun k => attestorref03_Split.l0 k f l (m : Int) ((spl p m l).take j) j) (spl p m l) := by
  intro d
  induction d with
  | zero =>
    intro j hj
    obtain rfl : j = m := by omega
    refine Ev.succ (F := fun _ => some (spl p j l)) (fun k => ?_) (Ev.all fun _ => rfl)
    rw [attestorref03_Split.l0, if_neg (by omega), List.take_of_length_le (by rw [spl_length]; omega)]
  | succ d ih =>
    intro j hj
    have gj : j < m := by omega
    have key := ih (j + 1) (by omega)
    have e : (spl p m l).take (j + 1) = (spl p m l).take j ++ [nrm p (prt m j l)] := by
      rw [List.take_succ_eq_append_getElem (by rw [spl_length]; exact gj), ← lc_lt (by rw [spl_length]; exact gj), lc_spl gj]
    rw [e] at key
    have key2 := rsplit_l1 h hl hu h1 hm gj (by rw [List.length_take]; omega) key l.length 0 [] (by omega) rfl (by omega) (fun s hs => by omega) (Or.inl rfl)
    refine Ev.succ (fun k => ?_) key2
    rw [attestorref03_Split.l0, if_pos (Int.ofNat_lt.2 gj), Nat.zero_mul, Nat.add_zero]
theorem r_Split {l : List Int} (hl : l.length ≤ 999998) (hu : UL l) {m : Nat} (h1 : 0 < m) (hm : m ≤ 64) : Ev (fun k => attestorref03_Split.f k f l (m : Int)) (spl p m l) := by
  have key := rsplit_l0 h hl hu h1 hm m 0 (by omega)
  refine Ev.congr (F := fun k => attestorref03_Split.j0 k f l (m : Int) [] false) (fun k => ?_) (Ev.succ (fun k => ?_) key)
  · rw [attestorref03_Split.f, r_Valid h, Option.bind_some, if_pos rfl, if_neg (by omega), decide_eq_false (by omega)]
  · rw [attestorref03_Split.j0, if_neg (by decide)]
    rfl
end good
theorem r_Split_none {f : Int} {l : List Int} {m : Int} (hm : (f < 0 ∨ 4 ≤ f) ∨ m < 1 ∨ 64 < m) : Ev (fun k => attestorref03_Split.f k f l m) [] := by
  have key : Ev (fun k => attestorref03_Split.j0 k f l m [] true) [] := Ev.succ (F := fun _ => some []) (fun k => by rw [attestorref03_Split.j0, if_pos rfl]) (Ev.all fun _ => rfl)
  refine Ev.congr (fun k => ?_) key
  rcases fp_or f with ⟨p, h⟩ | h
  · have h0 := h.lo
    have h3 := h.hi
    rw [attestorref03_Split.f, r_Valid h, Option.bind_some, if_pos rfl]
    rcases hm with q | q | q
    · omega
    · rw [if_pos q]
    · rw [if_neg (by omega), decide_eq_true (by omega)]
  · rw [attestorref03_Split.f, br_Valid h, Option.bind_some, if_neg (by decide)]
theorem Put.pad {m : Nat} {x : List (List Int)} {j i : Nat} {y : List Int} (h : Put m x j i y) : Put m x j i (y ++ [0]) := fun t => by
  rw [← h t, co_append]
  by_cases e : t < y.length
  · rw [if_pos e]
  · rw [if_neg e, co_over (l := y) (by omega)]
    by_cases e2 : t - y.length = 0
    · rw [e2, co_cons_zero]
    · rw [co_over (by simp; omega)]
theorem rjoin_l2 {f : Int} {x : List (List Int)} (hx : Rows0 x) {j : Nat} (gj : j < x.length) {i : Nat} (gi : i < (lc x j).length) {v : List Int}
    (hK : ∀ y : List Int, y.length ≤ 640000 → Put x.length x j (i + 1) y → Ev (fun k => attestorref03_Join.l1 k f x (x.length : Int) y (j : Int) ((i + 1 : Nat) : Int)) v) :
    ∀ (d : Nat) (y : List Int), i * x.length + j < y.length + d → y.length ≤ 640000 → Put x.length x j i y → Ev (fun k => attestorref03_Join.l2 k f x (x.length : Int) y (j : Int) (i : Int)) v := by
  have hm := hx.m
  have lb := hx.len j
  have hb : i * x.length + j < 640000 := Nat.lt_of_lt_of_le (idx_lt (L := 10000) (by omega) gj) (Nat.mul_le_mul (Nat.le_refl 10000) hm)
  have e1 : wrap64 (wrap64 ((i : Int) * (x.length : Int)) + (j : Int)) = ((i * x.length + j : Nat) : Int) := by
    rw [← Int.natCast_mul]
    clear hK
    generalize i * x.length = u at *
    rw [w64 (n := (u : Int)) (by omega) (by omega), w64 (by omega) (by omega)]; omega
  have ewi : wrap64 ((i : Int) + 1) = ((i + 1 : Nat) : Int) := w64_succ (by clear hK; omega)
  have fin : ∀ y : List Int, i * x.length + j < y.length → y.length ≤ 640000 → Put x.length x j i y → Ev (fun k => attestorref03_Join.l2 k f x (x.length : Int) y (j : Int) (i : Int)) v := by
    intro y q hy hp
    have key := hK _ (by rw [List.length_set]; exact hy) (hp.set gj q)
    have g : ¬ (y.length : Int) ≤ ((i * x.length + j : Nat) : Int) := by clear hK key hp e1; generalize i * x.length = u at *; omega
    refine Ev.succ (fun k => ?_) key
    rw [attestorref03_Join.l2, e1, if_neg g, if_pos (Int.natCast_nonneg _), if_pos (Int.ofNat_lt.2 gj), if_pos (Int.natCast_nonneg _), rd_L1_nat, if_pos (Int.ofNat_lt.2 gi), if_pos (Int.natCast_nonneg _), if_pos (Int.ofNat_lt.2 q), rd_nat, ewi, Int.toNat_natCast]
  intro d
  induction d with
  | zero => intro y q hy hp; exact fin y q hy hp
  | succ d ih =>
    intro y q hy hp
    rcases Nat.lt_or_ge (i * x.length + j) y.length with q2 | q2
    · exact fin y q2 hy hp
    · have key := ih (y ++ [0]) (by clear hK hp e1 fin ih; rw [List.length_append, List.length_singleton]; generalize i * x.length = u at *; omega) (by clear hK hp e1 fin ih; rw [List.length_append, List.length_singleton]; generalize i * x.length = u at *; omega) hp.pad
      have g : (y.length : Int) ≤ ((i * x.length + j : Nat) : Int) := by clear hK key hp e1 fin ih; generalize i * x.length = u at *; omega
      have ly : y.length < 17592186044416 := by clear hK key hp e1 fin ih g q q2; omega
      refine Ev.succ (fun k => ?_) key
      rw [attestorref03_Join.l2, e1, if_pos g, if_pos ly]
theorem rjoin_l1 {f : Int} {x : List (List Int)} (hx : Rows0 x) {j : Nat} (gj : j < x.length) {v : List Int}
    (hK : ∀ y : List Int, y.length ≤ 640000 → Put x.length x (j + 1) 0 y → Ev (fun k => attestorref03_Join.l0 k f x (x.length : Int) y ((j + 1 : Nat) : Int)) v) :
    ∀ (e i : Nat) (y : List Int), i + e = (lc x j).length → y.length ≤ 640000 → Put x.length x j i y → Ev (fun k => attestorref03_Join.l1 k f x (x.length : Int) y (j : Int) i) v := by
  have hm := hx.m
  have ewj : wrap64 ((j : Int) + 1) = ((j + 1 : Nat) : Int) := w64_succ (by clear hK; omega)
  intro e
  induction e with
  | zero =>
    intro i y hi hy hp
    have g : ¬ (i : Int) < ((lc x j).length : Int) := by clear hK hp; omega
    refine Ev.succ (fun k => ?_) (hK y hy (hp.next (by clear hK hp; omega)))
    rw [attestorref03_Join.l1, if_pos (Int.natCast_nonneg _), if_pos (Int.ofNat_lt.2 gj), rd_L1_nat, if_neg g, ewj]
  | succ e ih =>
    intro i y hi hy hp
    have gi : i < (lc x j).length := by clear hK hp ih; omega
    have key := rjoin_l2 hx gj gi (fun y hy hp => ih (i + 1) y (by clear hK hp ih; omega) hy hp) (i * x.length + j + 1) y (by clear hK hp ih; generalize i * x.length = u at *; omega) hy hp
    refine Ev.succ (fun k => ?_) key
    rw [attestorref03_Join.l1, if_pos (Int.natCast_nonneg _), if_pos (Int.ofNat_lt.2 gj), rd_L1_nat, if_pos (Int.ofNat_lt.2 gi)]
section any
variable {f : Int} {p : Nat} (h : FO f p)
include h
theorem rjoin_l0 {x : List (List Int)} (hx : Rows0 x) {O : List Int} (hO : ∀ t, co O t = jc x.length x t) :
    ∀ (d j : Nat) (y : List Int), j + d = x.length → y.length ≤ 640000 → Put x.length x j 0 y → Ev (fun k => attestorref03_Join.l0 k f x (x.length : Int) y j) (nrm p O) := by
  intro d
  induction d with
  | zero =>
    intro j y hj hy hp
    obtain rfl : j = x.length := by omega
    have e : nrm p O = nrm p y := nrm_congr fun t => Cg.of_eq (by rw [hO, hp.end])
    obtain ⟨K1, k1⟩ := Ev.get (r_Normal h (l := y) (by omega) (hp.u hx))
    refine Ev.mks K1 fun k hk => ?_
    rw [attestorref03_Join.l0, if_neg (Int.lt_irrefl _), k1 k hk, Option.bind_some, e]
  | succ d ih =>
    intro j y hj hy hp
    have gj : j < x.length := by omega
    have key := rjoin_l1 hx gj (fun y hy hp => ih (j + 1) y (by omega) hy hp) (lc x j).length 0 y (Nat.zero_add _) hy hp
    refine Ev.succ (fun k => ?_) key
    rw [attestorref03_Join.l0, if_pos (Int.ofNat_lt.2 gj)]
    rfl
theorem r_Join {x : List (List Int)} (hx : Rows0 x) {O : List Int} (hO : ∀ t, co O t = jc x.length x t) : Ev (fun k => attestorref03_Join.f k f x) (nrm p O) := by
  have hm := hx.m
  refine Ev.congr (fun k => ?_) (rjoin_l0 h hx hO x.length 0 [] (by omega) (by simp) (Put.zero _ _ 0))
  rw [attestorref03_Join.f, if_neg (by omega)]
  rfl
end any
theorem r_Join_none {f : Int} {x : List (List Int)} (hx : 64 < x.length) : Ev (fun k => attestorref03_Join.f k f x) [] := Ev.all fun k => by rw [attestorref03_Join.f, if_pos (by omega)]
end Go.Proofs.YtmnahhacobfafaaDoor.Pure
