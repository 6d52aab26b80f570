/- Parse of the program. -/
import Derived.Test.YtjjjoepnlhpjdaaDoorTxt2
import Derived.Laws.Strings
import Derived.Test.YtjjjoepnlhpjdaaDoorQ1
import Derived.Test.YtjjjoepnlhpjdaaDoorQ3
namespace Go.Proofs.YtjjjoepnlhpjdaaDoor.Pure
open Go.RowKit Go.Proofs.YtjjjoepnlhpjdaaDoor.Q Go.Proofs.YtjjjoepnlhpjdaaDoor.Num Go.Proofs.YtjjjoepnlhpjdaaDoor.Pol Go.Proofs.YtjjjoepnlhpjdaaDoorW.PrintWords Go.Proofs.YtjjjoepnlhpjdaaDoorW.PrintLast Go.Proofs.YtjjjoepnlhpjdaaDoorW.PrintMore

theorem str_size (l : List Int) : (strOfNums l).size = l.length := strOfNums_size l
theorem str_bt {l : List Int} (hd : Dt l) {i : Nat} (h : i < l.length) : bt (strOfNums l) (i : Int) = co l i := by
  have hx := hd _ (co_mem h)
  unfold bt
  rw [Int.toNat_natCast, dif_pos (by rw [str_size]; exact h)]
  have e : (strOfNums l)[i]'(by rw [str_size]; exact h) = UInt8.ofNat (co l i).toNat := by
    simp [strOfNums, ByteArray.getElem_eq_getElem_data, co_lt h]
  rw [e]
  have h2 : (UInt8.ofNat (co l i).toNat).toNat = (co l i).toNat % 256 := UInt8.toNat_ofNat'
  rw [h2]
  omega
theorem str_toList (l : List Int) : (strOfNums l).toList = l.map fun n => UInt8.ofNat n.toNat := ByteArray.toList_mk _
theorem nat_loop {l : List Int} (hd : Dt l) (hc : Ct l) (hn : l.length < 4611686018427387904) : ∀ (d i : Nat), i + d = l.length → Ev (fun k => ratio_natural.l0 k (strOfNums l) (l.length : Int) (i : Int)) true := by
  intro d
  induction d with
  | zero =>
    intro i hi
    refine Ev.succ (F := fun _ => some true) (fun k => ?_) (Ev.all fun _ => rfl)
    rw [ratio_natural.l0, if_neg (by omega)]
    by_cases c : (strOfNums l).toList = ([48] : List UInt8)
    · rw [if_pos c]
    · rw [if_neg c]
      rcases hc with rfl | ⟨h1, h2⟩
      · exact absurd (by rw [str_toList]; rfl) c
      · have hp : 0 < l.length := List.length_pos_iff.2 h1
        have c2 : ¬ ((strOfNums l).toList = ([] : List UInt8)) := by
          rw [str_toList]
          intro e
          have := congrArg List.length e
          rw [List.length_map] at this
          simp at this
          exact h1 this
        have h3 : co l 0 ≠ 48 := by
          cases l with
          | nil => exact absurd rfl h1
          | cons x t => intro e; exact h2 (by rw [show x = 48 from e]; rfl)
        rw [if_neg c2, str_size, if_pos (by omega), show bt (strOfNums l) 0 = co l 0 from str_bt (i := 0) hd hp]
        rw [bne_iff_ne.2 h3]
  | succ d ih =>
    intro i hi
    have hx := hd _ (co_mem (show i < l.length by omega))
    refine Ev.succ (fun k => ?_) (ih (i + 1) (by omega))
    rw [ratio_natural.l0, if_pos (by omega), if_pos (by omega), if_pos (by rw [str_size]; omega), str_bt hd (by omega), if_neg (by omega), if_neg (by omega), w64_succ (by omega)]
theorem s_natural {l : List Int} (hd : Dt l) (hc : Ct l) (hn : l.length < 4611686018427387904) : Ev (fun k => ratio_natural.f k (strOfNums l)) true := by
  refine Ev.congr (fun k => ?_) (nat_loop hd hc hn l.length 0 (Nat.zero_add _))
  rw [ratio_natural.f, str_size]
  rfl
theorem nv_mono : ∀ (l : List Int) (a : Int), Dt l → 0 ≤ a → a ≤ nv a l
  | [], a, _, _ => Int.le_refl a
  | x :: t, a, hd, h => by
    have h1 := hd x List.mem_cons_self
    have h2 := nv_mono t (a * 10 + (x - 48)) (fun z hz => hd z (List.mem_cons_of_mem _ hz)) (by omega)
    show a ≤ nv (a * 10 + (x - 48)) t
    omega
theorem parse_l {l : List Int} (hd : Dt l) (hn : l.length < 4611686018427387904) (hv : nv 0 l < Bp 64) : ∀ (d i : Nat), i + d = l.length → 0 ≤ nv 0 (l.take i) → Aside0 (nv (nv 0 (l.take i)) (l.drop i) = nv 0 l) → Ev (fun k => ratio_Parse.l0 k (strOfNums l) (dg (nv 0 (l.take i))) (i : Int)) (dg (nv 0 l), 0) := by
  intro d
  induction d with
  | zero =>
    intro i hi h0 hx
    have e : l.take i = l := List.take_of_length_le (by omega)
    rw [e] at h0 ⊢
    refine Ev.succ (F := fun k => ratio_Parse.j1 k (strOfNums l) (dg (nv 0 l)) (i : Int) false) (fun k => ?_) (Ev.succ (F := fun _ => some (dg (nv 0 l), 0)) (fun k => ?_) (Ev.all fun _ => rfl))
    · rw [ratio_Parse.l0, if_neg (by rw [str_size]; omega)]
    · rw [ratio_Parse.j1, if_neg (by decide), n_bounded ⟨h0, hv⟩]; rfl
  | succ d ih =>
    intro i hi h0 hx
    have hx' := hx.out
    have hc := hd _ (co_mem (show i < l.length by omega))
    have m1 := nv_mono (l.drop i) (nv 0 (l.take i)) (fun z hz => hd z (List.mem_of_mem_drop hz)) h0
    have hb : 0 ≤ nv 0 (l.take i) ∧ nv 0 (l.take i) < Bp 64 := by omega
    have e1 : nv 0 (l.take (i + 1)) = nv 0 (l.take i) * 10 + (co l i - 48) := by
      rw [take_succ_co (by omega), nv_append]
    have e2 : nv (nv 0 (l.take (i + 1))) (l.drop (i + 1)) = nv 0 l := by
      rw [← hx', List.drop_eq_getElem_cons (show i < l.length by omega), e1, co_lt (by omega)]
      rfl
    have lx := dl hb
    have p1 := n_mul (n := 64) hb (show 0 ≤ (10 : Int) ∧ 10 < Bp 64 by decide +kernel) (by omega)
    have p2 := s_Nat (n := co l i - 48) (by unfold U; omega)
    have t10 : 0 ≤ nv 0 (l.take i) * 10 ∧ nv 0 (l.take i) * 10 < Bp 65 := by rw [Bp_succ]; omega
    have b65 := Bp_le (show 1 ≤ 65 by decide)
    rw [Bp_succ, Bp_zero] at b65
    have p3 := n_add (n := 65) t10 (show 0 ≤ co l i - 48 ∧ co l i - 48 < Bp 65 by omega) (by omega)
    rw [← e1] at p3
    have s := ih (i + 1) (by omega) (by omega) ⟨e2⟩
    have w : (bt (strOfNums l) (i : Int) - 48) % 256 = co l i - 48 := by rw [str_bt hd (by omega)]; omega
    refine Ev.succ (F := fun k => ratio_Parse.j1 k (strOfNums l) (dg (nv 0 (l.take i))) (i : Int) true) (fun k => ?_) (Ev.succ (F := fun k => (ratio_mul.f k (dg (nv 0 (l.take i))) (dg 10)).bind fun t149 => (ratio_Nat.f k (co l i - 48)).bind fun t152 => (ratio_add.f k t149 t152).bind fun t155 => ratio_Parse.l0 k (strOfNums l) t155 ((i + 1 : Nat) : Int)) (fun k => ?_) ?_)
    · rw [ratio_Parse.l0, if_pos (by rw [str_size]; omega), decide_eq_true (by omega)]
    · have g1 : (0 : Int) ≤ (i : Int) := Int.natCast_nonneg _
      have g2 : (i : Int) < ((strOfNums l).size : Int) := by rw [str_size]; omega
      rw [ratio_Parse.j1, if_pos rfl, w64_succ (by omega)]
      simp only [if_pos g1, if_pos g2, w]
      rfl
    · refine p1.bind ?_
      refine p2.bind ?_
      exact p3.bind s
/-- Parse. -/
theorem s_Parse {l : List Int} (hd : Dt l) (hc : Ct l) (hn : l.length < 4611686018427387904) (hv : nv 0 l < Bp 64) : Ev (fun k => ratio_Parse.f k (strOfNums l)) (dg (nv 0 l), 0) := by
  refine (s_natural hd hc hn).bind ?_
  refine Ev.congr (fun k => if_pos rfl) ?_
  exact parse_l hd hn hv l.length 0 (Nat.zero_add _) (Int.le_refl 0) ⟨rfl⟩
theorem tx_len {v : Int} (hv : 0 ≤ v ∧ v < Bp 64) : (tx v).length ≤ 621 := by
  unfold tx
  split
  · decide
  · rw [List.length_reverse]
    have b : Bp 64 ≤ 10 ^ 621 := by decide +kernel
    exact td_len 621 v hv.1 (by omega)
/-- Parse of Text. -/
theorem s_ParseText {v : Int} (hv : 0 ≤ v ∧ v < Bp 64) : Ev (fun k => ratio_Parse.f k (strOfNums (tx v))) (dg v, 0) := by
  have h := s_Parse (tx_dt v) (tx_ct hv.1) (by have := tx_len hv; omega) (by rw [nv_tx hv.1]; exact hv.2)
  rwa [nv_tx hv.1] at h
end Go.Proofs.YtjjjoepnlhpjdaaDoor.Pure
