import Derived.Test.YtbjeemlbjkmhiaaDoorQ0
import Derived.Test.YtbjeemlbjkmhiaaDoorQ1
import Derived.Test.YtbjeemlbjkmhiaaDoorQ2
import Derived.Test.YtbjeemlbjkmhiaaDoorQ4
namespace Go.Proofs.YtbjeemlbjkmhiaaDoor.Q
open Go.RowKit Go.Proofs.YtbjeemlbjkmhiaaDoorW.PrintWords Go.Proofs.YtbjeemlbjkmhiaaDoorW.PrintLast Go.Proofs.YtbjeemlbjkmhiaaDoorW.PrintMore
open Kd (R_below R_lower R_make C_below)
attribute [local go_sem] max2_int min2_int max_two min_two max_three min_three max_four min_four   -- for this text's walks alone
set_option linter.unusedVariables false
set_option linter.unusedSimpArgs false

def tup : List (List Int) → Int → Option Int
 | [], wd => some wd
 | v :: l, wd => if (v.length : Int) = 0 then none else if (v.length : Int) = (if wd = 0 then (v.length : Int) else wd) then tup l (if wd = 0 then (v.length : Int) else wd) else none
def tups : List (List (List Int)) → Int → Option Int
 | [], wd => some wd
 | l :: ls, wd => (tup l wd).bind (tups ls)
def gap_tuples.g (a0 : Int) (l1 l2 : List (List Int)) (wd : Int) : Option Int := (field_Valid.f a0).bind fun v => if v = true then (if a0 > 1 then some 2 else if (l1.length : Int) > 32 then some 3 else if (l2.length : Int) > 32 then some 3 else if wd > 8 then some 3 else some 0) else some 1
def gap_tuples.f (a0 : Int) (l1 l2 : List (List Int)) : Option Int := match tups [l1, l2] 0 with | none => some 1 | some wd => gap_tuples.g a0 l1 l2 wd
theorem drop_L3 (l : List (List Int)) (j : Nat) (h : j < l.length) : l.drop j = rd_L3 l (j : Int) :: l.drop (j + 1) := by
 rw [List.drop_eq_getElem_cons h]
 simp [rd_L3, List.getD, h]
set_option maxRecDepth 100000 in
set_option maxHeartbeats 4000000 in
theorem gap_tuples.calls (a0 : Int) (A1 : Option Addr) (c1 : Nat) (l1 : List (List Int)) (A2 : Option Addr) (c2 : Nat) (l2 : List (List Int)) (r : Int) (w : World) (hr1 : Kd.C (Kd.slice 48 (Kd.int .u64)) w A1 l1.length l1) (hc1 : l1.length ≤ c1) (hr2 : Kd.C (Kd.slice 48 (Kd.int .u64)) w A2 l2.length l2) (hc2 : l2.length ≤ c2) (h : gap_tuples.f a0 l1 l2 = some r) :
  Calls Tryd.prog 65 #[.int .i64 a0, .slice A1 l1.length c1, .slice A2 l2.length c2] w fun e w' => e = .returned (.int .i64 r) ∧ Below w.heap.size w w' := by
 have HR1 := ak hr1
 have HR2 := ak hr2
 have hm1 : l1.length ≤ 9223372036854775807 := hr1.2.1
 have hm2 : l2.length ≤ 9223372036854775807 := hr2.2.1
 clear hr1 hr2
 unfold gap_tuples.f at h
 obtain ⟨X, hX⟩ : ∃ X, X = tups [l1, l2] 0 := ⟨_, rfl⟩
 rw [← hX] at h
 have H := ak h
 have HX := ak hX.symm
 clear h hX
 go_enter Tryd.func65, Tryd.ntmps65
 go_wp2
 go_loopw [7, 15] (fun v7 v15 wr => ∃ (wd : Int) (t : Nat), v7 = .int .i64 wd ∧ v15 = .int .i64 (t : Int) ∧ wr = w ∧ t ≤ 2 ∧ Aside0 (tups ([l1, l2].drop t) wd = X)) (fun _ v15 _ => 2 - (intOf v15).toNat)
 case atStart => exact ⟨0, 0, rfl, rfl, rfl, by decide, HX⟩
 case round =>
  obtain ⟨wd, t, rfl, rfl, rfl, ht, HT⟩ := hrel
  rcases t with _ | _ | _ | t
  ·clear HX
   have HT0 : Aside0 ((tup (l1.drop 0) wd).bind (tups [l2]) = X) := ⟨HT.out⟩
   clear HT
   have hidx : ∀ w : World, (Instr.index 119 (Value.agg #[.slice A1 l1.length c1, .slice A2 l2.length c2]) (.int .i64 0)).run Tryd.prog w = .ok (.slice A1 l1.length c1) w := fun _ => rfl
   go_wp2
   clear hidx
   go_loopw [7, 20] (fun v7 v20 wq => ∃ (wd' : Int) (j : Nat), v7 = .int .i64 wd' ∧ v20 = .int .i64 (j : Int) ∧ wq = wr ∧ j ≤ l1.length ∧ Aside0 ((tup (l1.drop j) wd').bind (tups [l2]) = X)) (fun _ v20 _ => l1.length - (intOf v20).toNat)
   case atStart => exact ⟨wd, 0, rfl, rfl, rfl, Nat.zero_le _, HT0⟩
   case round =>
    obtain ⟨wd', j, rfl, rfl, rfl, hj, HJ⟩ := hrel
    clear HT0
    by_cases hlt : j < l1.length
    ·have hx := HJ.out
     rw [drop_L3 l1 j hlt, tup] at hx
     obtain ⟨ad, Av, cv, rfl, hcell, hlv, _⟩ := at_L3 HR1.out (j : Int) (Int.natCast_nonneg _) (Int.ofNat_lt.2 hlt)
     rw [Int.toNat_natCast] at hcell
     generalize rd_L3 l1 (j : Int) = v at hx hcell hlv
     have HX2 := ak hx
     clear hx HJ
     have hj1 : ((j : Int) < (l1.length : Int)) := Int.ofNat_lt.2 hlt
     by_cases z : (v.length : Int) = 0
     ·have hx := HX2.out
      rw [if_pos z] at hx
      obtain rfl : X = none := hx.symm
      obtain rfl : r = 1 := (Option.some.inj H.out).symm
      have z1 : ((v.length : Int) == 0) = true := beq_iff_eq.2 z
      by_cases y : wd' = 0
      ·subst y
       go_wp2
       go_ret
       exact ⟨rfl, Below.refl _ _⟩
      have y1 : (wd' == 0) = false := beq_eq_false_iff_ne.2 y
      go_wp2
      go_ret
      exact ⟨rfl, Below.refl _ _⟩
     have z1 : ((v.length : Int) == 0) = false := beq_eq_false_iff_ne.2 z
     have hx := HX2.out
     rw [if_neg z] at hx
     by_cases y : wd' = 0
     ·subst y
      rw [if_pos rfl, if_pos rfl] at hx
      have HX3 := ak hx
      clear hx HX2
      have y2 : ((v.length : Int) != (v.length : Int)) = false := bne_self_eq_false _
      go_wp2
      go_roundw
      case rel => exact ⟨(v.length : Int), j + 1, rfl, by go_num, (by first | trivial | rfl), by omega, HX3⟩
      case measure => simp [intOf]; omega
     have y1 : (wd' == 0) = false := beq_eq_false_iff_ne.2 y
     rw [if_neg y] at hx
     by_cases q : (v.length : Int) = wd'
     ·rw [if_pos q] at hx
      have HX3 := ak hx
      clear hx HX2
      have q1 : ((v.length : Int) != wd') = false := by rw [q]; exact bne_self_eq_false _
      go_wp2
      go_roundw
      case rel => exact ⟨wd', j + 1, rfl, by go_num, (by first | trivial | rfl), by omega, HX3⟩
      case measure => simp [intOf]; omega
     rw [if_neg q] at hx
     obtain rfl : X = none := hx.symm
     obtain rfl : r = 1 := (Option.some.inj H.out).symm
     have q1 : ((v.length : Int) != wd') = true := bne_iff_ne.2 q
     go_wp2
     go_ret
     exact ⟨rfl, Below.refl _ _⟩
    obtain rfl : j = l1.length := by omega
    have hx := HJ.out
    rw [List.drop_length, tup, Option.bind_some] at hx
    have HX2 := ak hx
    clear hx HJ
    go_wp2
    go_roundw
    case rel => exact ⟨wd', 1, rfl, by go_num, (by first | trivial | rfl), by decide, HX2⟩
    case measure => simp [intOf]
  ·clear HX
   have HT0 : Aside0 ((tup (l2.drop 0) wd).bind (tups []) = X) := ⟨HT.out⟩
   clear HT
   have hidx : ∀ w : World, (Instr.index 119 (Value.agg #[.slice A1 l1.length c1, .slice A2 l2.length c2]) (.int .i64 1)).run Tryd.prog w = .ok (.slice A2 l2.length c2) w := fun _ => rfl
   go_wp2
   clear hidx
   go_loopw [7, 20] (fun v7 v20 wq => ∃ (wd' : Int) (j : Nat), v7 = .int .i64 wd' ∧ v20 = .int .i64 (j : Int) ∧ wq = wr ∧ j ≤ l2.length ∧ Aside0 ((tup (l2.drop j) wd').bind (tups []) = X)) (fun _ v20 _ => l2.length - (intOf v20).toNat)
   case atStart => exact ⟨wd, 0, rfl, rfl, rfl, Nat.zero_le _, HT0⟩
   case round =>
    obtain ⟨wd', j, rfl, rfl, rfl, hj, HJ⟩ := hrel
    clear HT0
    by_cases hlt : j < l2.length
    ·have hx := HJ.out
     rw [drop_L3 l2 j hlt, tup] at hx
     obtain ⟨ad, Av, cv, rfl, hcell, hlv, _⟩ := at_L3 HR2.out (j : Int) (Int.natCast_nonneg _) (Int.ofNat_lt.2 hlt)
     rw [Int.toNat_natCast] at hcell
     generalize rd_L3 l2 (j : Int) = v at hx hcell hlv
     have HX2 := ak hx
     clear hx HJ
     have hj1 : ((j : Int) < (l2.length : Int)) := Int.ofNat_lt.2 hlt
     by_cases z : (v.length : Int) = 0
     ·have hx := HX2.out
      rw [if_pos z] at hx
      obtain rfl : X = none := hx.symm
      obtain rfl : r = 1 := (Option.some.inj H.out).symm
      have z1 : ((v.length : Int) == 0) = true := beq_iff_eq.2 z
      by_cases y : wd' = 0
      ·subst y
       go_wp2
       go_ret
       exact ⟨rfl, Below.refl _ _⟩
      have y1 : (wd' == 0) = false := beq_eq_false_iff_ne.2 y
      go_wp2
      go_ret
      exact ⟨rfl, Below.refl _ _⟩
     have z1 : ((v.length : Int) == 0) = false := beq_eq_false_iff_ne.2 z
     have hx := HX2.out
     rw [if_neg z] at hx
     by_cases y : wd' = 0
     ·subst y
      rw [if_pos rfl, if_pos rfl] at hx
      have HX3 := ak hx
      clear hx HX2
      have y2 : ((v.length : Int) != (v.length : Int)) = false := bne_self_eq_false _
      go_wp2
      go_roundw
      case rel => exact ⟨(v.length : Int), j + 1, rfl, by go_num, (by first | trivial | rfl), by omega, HX3⟩
      case measure => simp [intOf]; omega
     have y1 : (wd' == 0) = false := beq_eq_false_iff_ne.2 y
     rw [if_neg y] at hx
     by_cases q : (v.length : Int) = wd'
     ·rw [if_pos q] at hx
      have HX3 := ak hx
      clear hx HX2
      have q1 : ((v.length : Int) != wd') = false := by rw [q]; exact bne_self_eq_false _
      go_wp2
      go_roundw
      case rel => exact ⟨wd', j + 1, rfl, by go_num, (by first | trivial | rfl), by omega, HX3⟩
      case measure => simp [intOf]; omega
     rw [if_neg q] at hx
     obtain rfl : X = none := hx.symm
     obtain rfl : r = 1 := (Option.some.inj H.out).symm
     have q1 : ((v.length : Int) != wd') = true := bne_iff_ne.2 q
     go_wp2
     go_ret
     exact ⟨rfl, Below.refl _ _⟩
    obtain rfl : j = l2.length := by omega
    have hx := HJ.out
    rw [List.drop_length, tup, Option.bind_some] at hx
    have HX2 := ak hx
    clear hx HJ
    go_wp2
    go_roundw
    case rel => exact ⟨wd', 2, rfl, by go_num, (by first | trivial | rfl), by decide, HX2⟩
    case measure => simp [intOf]
  ·have hx := HT.out
   simp only [List.drop, tups] at hx
   subst hx
   have H2 := H.out
   dsimp only at H2
   unfold gap_tuples.g at H2
   obtain ⟨v, hv, H2⟩ := Option.bind_eq_some_iff.1 H2
   have HV := ak hv
   clear hv H HX HT
   by_cases cv : v = true
   ·subst cv
    rw [if_pos rfl] at H2
    by_cases b1 : a0 > 1
    ·rw [if_pos b1] at H2
     obtain rfl := Option.some.inj H2
     have b1' : decide (1 < a0) = true := decide_eq_true b1
     go_wp2_with (go_at_call 43; refine (field_Valid.calls a0 true _ HV.out).mono ?_; rintro e w' ⟨rfl, ⟨nd, rfl⟩⟩)
     go_ret
     exact ⟨rfl, pw_below_drewN (Below.refl _ _) nd⟩
    rw [if_neg b1] at H2
    have b1' : decide (1 < a0) = false := decide_eq_false b1
    by_cases b2 : (l1.length : Int) > 32
    ·rw [if_pos b2] at H2
     obtain rfl := Option.some.inj H2
     have b2' : decide (32 < (l1.length : Int)) = true := decide_eq_true b2
     have b2'' : decide (32 < l1.length) = true := decide_eq_true (by omega)
     go_wp2_with (go_at_call 43; refine (field_Valid.calls a0 true _ HV.out).mono ?_; rintro e w' ⟨rfl, ⟨nd, rfl⟩⟩)
     go_ret
     exact ⟨rfl, pw_below_drewN (Below.refl _ _) nd⟩
    rw [if_neg b2] at H2
    have b2' : decide (32 < (l1.length : Int)) = false := decide_eq_false b2
    have b2'' : decide (32 < l1.length) = false := decide_eq_false (by omega)
    by_cases b3 : (l2.length : Int) > 32
    ·rw [if_pos b3] at H2
     obtain rfl := Option.some.inj H2
     have b3' : decide (32 < (l2.length : Int)) = true := decide_eq_true b3
     have b3'' : decide (32 < l2.length) = true := decide_eq_true (by omega)
     go_wp2_with (go_at_call 43; refine (field_Valid.calls a0 true _ HV.out).mono ?_; rintro e w' ⟨rfl, ⟨nd, rfl⟩⟩)
     go_ret
     exact ⟨rfl, pw_below_drewN (Below.refl _ _) nd⟩
    rw [if_neg b3] at H2
    have b3' : decide (32 < (l2.length : Int)) = false := decide_eq_false b3
    have b3'' : decide (32 < l2.length) = false := decide_eq_false (by omega)
    by_cases b4 : wd > 8
    ·rw [if_pos b4] at H2
     obtain rfl := Option.some.inj H2
     have b4' : decide (8 < wd) = true := decide_eq_true b4
     go_wp2_with (go_at_call 43; refine (field_Valid.calls a0 true _ HV.out).mono ?_; rintro e w' ⟨rfl, ⟨nd, rfl⟩⟩)
     go_ret
     exact ⟨rfl, pw_below_drewN (Below.refl _ _) nd⟩
    rw [if_neg b4] at H2
    obtain rfl := Option.some.inj H2
    have b4' : decide (8 < wd) = false := decide_eq_false b4
    go_wp2_with (go_at_call 43; refine (field_Valid.calls a0 true _ HV.out).mono ?_; rintro e w' ⟨rfl, ⟨nd, rfl⟩⟩)
    go_ret
    exact ⟨rfl, pw_below_drewN (Below.refl _ _) nd⟩
   rw [if_neg cv] at H2
   obtain rfl := Option.some.inj H2
   obtain rfl : v = false := by simpa using cv
   go_wp2_with (go_at_call 43; refine (field_Valid.calls a0 false _ HV.out).mono ?_; rintro e w' ⟨rfl, ⟨nd, rfl⟩⟩)
   go_ret
   exact ⟨rfl, pw_below_drewN (Below.refl _ _) nd⟩
  omega

section
open Go.Shelf
attribute [local go_sem] Oper.semAt_some
theorem Fld.map {w W : World} (h : Fld w) (hk : ∀ (q : Addr) (v : Value), q.block = 0 ∨ q.block = 0 → w.cell? q = some v → W.cell? q = some v) (hs : w.heap.size ≤ W.heap.size) : Fld W := by
 have k : ∀ i v, w.cell? ⟨0, i, none⟩ = some v → W.cell? ⟨0, i, none⟩ = some v := fun i v => hk _ v (Or.inl rfl)
 exact ⟨k _ _ h.a0, k _ _ h.a1, k _ _ h.a2, k _ _ h.a3, (let ⟨a, n, c, e⟩ := h.a4; ⟨a, n, c, k _ _ e⟩), k _ _ h.b0, k _ _ h.b1, k _ _ h.b2, k _ _ h.b3, (let ⟨a, n, c, e⟩ := h.b4; ⟨a, n, c, k _ _ e⟩),
  k _ _ h.d0, k _ _ h.d1, k _ _ h.d2, k _ _ h.d3, (let ⟨a, n, c, e⟩ := h.d4; ⟨a, n, c, k _ _ e⟩), k _ _ h.e0, k _ _ h.e1, k _ _ h.e2, k _ _ h.e3, (let ⟨a, n, c, e⟩ := h.e4; ⟨a, n, c, k _ _ e⟩), Nat.lt_of_lt_of_le h.lt hs⟩
theorem Fld.grown {w W : World} {row : Option Nat} (h : Fld w) (hg : w.grownBy W row) (hr : ∀ r, row = some r → ∃ o : Obj, w.heap[r]? = some o ∧ o.isCells = false) : Fld W := Fld.map h (fun _ _ _ hc => cell_kept hc hg hr) hg.size
theorem Fld.kc {nb : Nat} {w W : World} (h : Fld w) (k : KC nb w W) (h1 : 0 < nb) (h2 : 0 < nb) : Fld W :=
 Fld.map h (fun q v hq hc => k.cell (by rcases hq with e | e <;> rw [e] <;> omega) hc) k.size
def KN (nb B : Nat) (W W' : World) : Prop := KC nb W W' ∧ KeepsFrom B W W'
theorem KN.trans {nb B : Nat} {X Y Z : World} (h : KN nb B X Y) (k : KN nb B Y Z) : KN nb B X Z := ⟨h.1.trans k.1, Nat.le_trans h.2.size k.2.size, fun b o hb ho hc => k.2.same b o hb (h.2.same b o hb ho hc) hc⟩
theorem KN.put {nb : Nat} {w W : World} {l : Nat} {o : Obj} (o' : Obj) (hl : l < w.heap.size + 2) (ho : W.heap[l]? = some o) (hc : o.isCells = false) : KN nb (w.heap.size + 2) W (W.putObj l o') :=
 ⟨KC.putObj W o' ho hc, by simp [World.putObj], fun b p hb hp _ => (World.putObj_heap_other (by omega)).trans hp⟩

theorem gap_pairs_calls (f : Int) (w : World) :
  Calls Tryd.prog 66 #[.int .i64 f] w fun e w' => e = .returned (.func (.func 111) #[] #[.pointer (some ⟨w.heap.size, 0, none⟩)]) ∧ w' = w.alloc (.cells #[.int .i64 f] 3) := by
 go_enter Tryd.func66, Tryd.ntmps66
 go_wp2
 go_ret
 exact ⟨rfl, rfl⟩
def prs (p : Nat) : List (Array Value) := (List.range (p * p)).map fun t : Nat => (#[.int .u64 ((t / p : Nat) : Int), .int .u64 ((t % p : Nat) : Int)] : Array Value)
theorem prs_length (p : Nat) : (prs p).length = p * p := by simp [prs]
theorem prs_get (p i j : Nat) (hj : j < p) (h : i * p + j < (prs p).length) : (prs p)[i * p + j] = #[.int .u64 (i : Int), .int .u64 (j : Int)] := by
 have hp : 0 < p := by omega
 have e1 : (i * p + j) / p = i := by rw [Nat.mul_comm i p, Nat.mul_add_div hp, Nat.div_eq_of_lt hj, Nat.add_zero]
 have e2 : (i * p + j) % p = j := by rw [Nat.mul_comm i p, Nat.mul_add_mod, Nat.mod_eq_of_lt hj]
 simp only [prs, List.getElem_map, List.getElem_range, e1, e2]
structure PB (J : Nat → World → Prop) (yb B l : Nat) (f : Int) (t : Nat) (W : World) : Prop where
 J : J t W
 y : W.heap[yb]? = some (.cells #[.func (.yield l) #[] #[]] 120 (0, 0))
 b : W.heap[B]? = some (.cells #[.int .i64 f] 3 (0, 0))
 fld : Fld W
theorem PB.own {J : Nat → World → Prop} {yb B l : Nat} {f : Int} {s : Nat} (hJ : OwnFrom s J) {s' : Nat} (hs : s ≤ s') : OwnFrom s' (PB J yb B l f) := fun t X Y row h hg hr => by
 have hne : ∀ {b : Nat} {c : Array Value} {t : TypeId} {g : Nat × Nat}, X.heap[b]? = some (.cells c t g) → some b ≠ row := by
  intro b c t g hb e
  obtain ⟨_, o, ho, hc⟩ := hr b e.symm
  rw [hb] at ho
  cases ho
  simp [Obj.isCells] at hc
 exact ⟨hJ t X Y row h.J hg fun r e => ⟨Nat.le_trans hs (hr r e).1, (hr r e).2⟩, blk_grown h.y hg (hne h.y), blk_grown h.b hg (hne h.b), Fld.grown h.fld hg fun r e => (hr r e).2⟩
theorem PB.below {J : Nat → World → Prop} {yb B l : Nat} {f : Int} {t s : Nat} {X Y : World} (h : PB J yb B l f t X) (hJ : OwnFrom s J) (hb : Below X.heap.size X Y) : PB J yb B l f t Y :=
 ⟨own_below hJ h.J hb, blk_below h.y hb, blk_below h.b hb, h.fld.below hb⟩
set_option maxRecDepth 100000 in
set_option maxHeartbeats 4000000 in
theorem gap_pairs_run (n : Nat) (hn : 9 ≤ n) (B nb : Nat) (f : Int) (p : Nat) (hp : field_P.f f = some (p : Int)) (hp32 : p ≤ 4294967296) (w : World) (hG : Fld w) (hB : w.heap[B]? = some (.cells #[.int .i64 f] 3 (0, 0))) (hnB : B ≠ nb) (hnb : nb < w.heap.size)
  (g1 : 0 < nb) (g2 : 0 < nb) :
  SeqRunO Fence.wide n Tryd.prog 111 #[.pointer (some ⟨B, 0, none⟩)] (prs p) (KN nb (w.heap.size + 2)) w := by
 intro l J W hW hJo hY h0
 have hG1 := Fld.below hG hW
 have hB1 := blk_below hB hW
 have hc : W.cell? ⟨B, 0, none⟩ = some (.int .i64 f) := (blk_cell hB1 0).trans rfl
 have hws := hW.size
 have hc2 : (W.alloc (.cells #[.func (.yield l) #[] #[]] 120)).cell? ⟨B, 0, none⟩ = some (.int .i64 f) := (blk_cell (blk_alloc hB1 _) 0).trans rfl
 have HP := ak hp
 have HO := ak hJo
 have H0 := ak h0
 have HG1 := ak hG1
 have HB1 := ak hB1
 clear hp hJo h0 hG hB hW hG1 hB1
 have h1 : 1 ≤ n := by omega
 have h2 : 1 ≤ n - 1 - 1 := by omega
 have hp1 : ∀ {i j : Nat}, i < p → j < p → i * p + j < (prs p).length := fun {i j} hi hj => by
  rw [prs_length]
  have := Nat.mul_le_mul_right p (show i + 1 ≤ p from hi)
  rw [Nat.add_mul, Nat.one_mul] at this
  omega
 have HP1 : Aside0 (∀ {i j : Nat}, i < p → j < p → i * p + j < (prs p).length) := ⟨hp1⟩
 clear hp1
 refine callsIn_of_wp_marks Tryd.func111 rfl trivial ?_ rfl
 simp only [Tryd.ntmps111, List.size_toArray, List.length_cons, List.length_nil, Nat.reduceAdd, Nat.reduceSub, Array.replicate_succ, Array.replicate_zero, List.push_toArray, List.append_toArray, List.nil_append, List.cons_append]
 gi_wp2_with (refine ⟨trivial, ?_⟩; gi_at_call 64; refine (callsIn_wide.2 (gap_elements_calls f _)).mono ?_; rintro e w' ⟨rfl, rfl⟩)
 obtain ⟨W0, hW0⟩ : ∃ W0, (W.alloc (.cells #[.func (.yield l) #[] #[]] 120)).alloc (.cells #[.int .i64 f] 3) = W0 := ⟨_, rfl⟩
 have hsz : W0.heap.size = W.heap.size + 2 := by rw [← hW0]; simp
 have hyb : W0.heap[W.heap.size]? = some (.cells #[.func (.yield l) #[] #[]] 120 (0, 0)) := by rw [← hW0]; exact blk_alloc (World.alloc_heap_new W _) _
 have heb : W0.heap[W.heap.size + 1]? = some (.cells #[.int .i64 f] 3 (0, 0)) := by
  rw [← hW0]
  have := World.alloc_heap_new (W.alloc (.cells #[.func (.yield l) #[] #[]] 120)) (.cells #[.int .i64 f] 3)
  rwa [World.size_alloc] at this
 have hB0 : Below W.heap.size W W0 := by rw [← hW0]; exact below_alloc (below_alloc (Below.refl _ _) _) _
 have hPB : PB J W.heap.size B l f 0 W0 := ⟨own_below HO.out H0.out hB0, hyb, blk_below HB1.out hB0, Fld.below HG1.out hB0⟩
 rw [hW0]
 clear hc hc2 hyb hB0 HB1 HG1 H0 hW0
 refine wpIn_rangeSeqH (F := Fence.wide) (n := n) rfl h1 (gf := 110) (lb := #[.pointer (some ⟨W.heap.size + 1, 0, none⟩)]) rfl trivial (enters_of Tryd.func110 (by kernel_rfl) rfl)
  (xs := (List.range p).map fun x : Nat => (#[.int .u64 (x : Int)] : Array Value)) (K := fun _ _ => True) (w0 := W0) (gap_elements_run (n - 1) (by omega) (W.heap.size + 1) f p HP.out hp32 _ W0 hPB.fld heb) (fun _ _ => trivial) (fun _ _ _ _ _ _ _ _ _ => trivial) (Below.refl _ _)
  (fun x hx => by obtain ⟨y, _, rfl⟩ := List.mem_map.1 hx; rfl) (fun i => PB J W.heap.size B l f (i * p)) (fun i X Y row h hg hr => PB.own HO.out (by omega) (i * p) X Y row h hg hr) (by rw [Nat.zero_mul]; exact hPB)
  (fun i a' W' => ∃ cb, nb < cb ∧ W'.heap[cb]? = some (.cells #[.int .u64 (i : Int)] 48 (0, 0)) ∧ a' = { tmps := #[.func (.yield l) #[] #[], .pointer (some ⟨B, 0, none⟩), .pointer (some ⟨W.heap.size, 0, none⟩), .pointer (some ⟨cb, 0, none⟩), undef, .int .i64 f, .func (.func 110) #[] #[.pointer (some ⟨W.heap.size + 1, 0, none⟩)], .int .u64 (i : Int), undef, undef, undef, undef, undef, undef, undef, undef], defers := [] })
  ?hAx ?assign ?body ?done
 case hAx =>
  rintro i a' _ X Y row ⟨cb, h3, h4, h5⟩ hg hr
  refine ⟨cb, h3, blk_grown h4 hg fun e => ?_, h5⟩
  obtain ⟨_, o, ho, hc⟩ := hr cb e.symm
  rw [h4] at ho
  cases ho
  simp [Obj.isCells] at hc
 case assign =>
  intro l1 i hi W1 K' hI hK'
  rw [el_get]
  simp only [List.zip_toArray, List.zip_cons_cons, List.zip_nil_right, List.foldl_toArray, List.foldl_cons, List.foldl_nil, List.setIfInBounds_toArray, List.set_cons_zero, List.set_cons_succ]
  gi_wp2
  have hlt := blk_lt hI.y
  exact hK' _ _ (keepsFrom_of_below (KeepsFrom.refl _ _) (below_alloc (Below.refl _ _) _)) trivial (PB.below hI HO.out (below_alloc (Below.refl _ _) _)) ⟨W1.heap.size, by omega, World.alloc_heap_new W1 _, rfl⟩
 case body =>
  rintro l1 i a' W1 hi hl ⟨r, hr⟩ hI ⟨cb, hcb, hbx, rfl⟩
  have hip : i < p := by simpa using hi
  have hcB : W1.cell? ⟨B, 0, none⟩ = some (.int .i64 f) := (blk_cell hI.b 0).trans rfl
  have HI := ak hI
  have HBX := ak hbx
  have HR := ak hr
  clear hI hbx hr hi
  gi_wp2_with (refine ⟨trivial, ?_⟩; gi_at_call 64; refine (CallsIn.inRound l1 (callsIn_wide.2 (gap_elements_calls f _))).mono ?_; rintro e w' ⟨rfl, rfl⟩)
  clear hcB
  obtain ⟨W2, hW2⟩ : ∃ W2, W1.alloc (.cells #[.int .i64 f] 3) = W2 := ⟨_, rfl⟩
  have hb12 : Below W1.heap.size W1 W2 := by rw [← hW2]; exact below_alloc (Below.refl _ _) _
  have he2 : W2.heap[W1.heap.size]? = some (.cells #[.int .i64 f] 3 (0, 0)) := by rw [← hW2]; exact World.alloc_heap_new W1 _
  have hr2 : W2.heap[l1]? = some (.loop r) := (hb12.block _ (Array.getElem?_eq_some_iff.1 HR.out).1).trans HR.out
  have hc2 := blk_below HBX.out hb12
  have hI2 := PB.below HI.out HO.out hb12
  have hkf2 : KeepsFrom W0.heap.size W1 W2 := keepsFrom_of_below (KeepsFrom.refl _ _) hb12
  have hlt := blk_lt HI.out.y
  have hs2 : W0.heap.size ≤ W2.heap.size := by have := (Array.getElem?_eq_some_iff.1 hr2).1; omega
  have h0in : W0.heap.size ≤ W2.heap.size ∧ W.heap.size ≤ W2.heap.size := ⟨hs2, by omega⟩
  rw [hW2]
  have h3 : 1 ≤ n - 1 - 1 - 1 - 1 := by omega
  refine wpIn_rangeSeqN (F := Fence.wide.inRound l1) (n := n - 1 - 1) (l₀ := l1) (r₀ := r) rfl hr2 h2 (gf := 110) (lb := #[.pointer (some ⟨W1.heap.size, 0, none⟩)]) rfl trivial (enters_of Tryd.func110 (by kernel_rfl) rfl)
   (xs := (List.range p).map fun x : Nat => (#[.int .u64 (x : Int)] : Array Value)) (K := fun _ _ => True) (w0 := W2) (SeqRunO.inRound l1 (gap_elements_run (n - 1 - 1 - 1) (by omega) W1.heap.size f p HP.out hp32 _ W2 hI2.fld he2)) (fun _ _ => trivial) (fun _ _ _ _ _ _ _ _ => trivial) (Below.refl _ _)
   (fun x hx => by obtain ⟨y, _, rfl⟩ := List.mem_map.1 hx; rfl) (fun j W' => PB J W.heap.size B l f (i * p + j) W' ∧ W'.heap[cb]? = some (.cells #[.int .u64 (i : Int)] 48 (0, 0)) ∧ KeepsFrom W0.heap.size W1 W') ?own ⟨hI2, hc2, hkf2⟩
   (fun j => { tmps := #[.func (.yield l) #[] #[], .pointer (some ⟨B, 0, none⟩), .pointer (some ⟨W.heap.size, 0, none⟩), .pointer (some ⟨cb, 0, none⟩), .int .u64 (j : Int), .int .i64 f, .func (.func 110) #[] #[.pointer (some ⟨W.heap.size + 1, 0, none⟩)], .int .u64 (i : Int), .int .i64 f, .func (.func 110) #[] #[.pointer (some ⟨W1.heap.size, 0, none⟩)], .int .u64 (j : Int), undef, undef, undef, undef, undef], defers := [] }) ?assign2 ?body2 ?done2
  case own =>
   rintro j X Y row ⟨q1, q2, q3⟩ hg hrow
   refine ⟨PB.own HO.out h0in.2 _ X Y row q1 hg hrow, blk_grown q2 hg fun e => ?_, ?_⟩
   ·obtain ⟨_, o, ho, hc⟩ := hrow cb e.symm
    rw [q2] at ho
    cases ho
    simp [Obj.isCells] at hc
   exact ⟨Nat.le_trans q3.size hg.size, fun k o hk ho hn => by
   have g1 := q3.same k o hk ho hn
   refine (hg.block k (Array.getElem?_eq_some_iff.1 g1).1 fun e => ?_).trans g1
   have := (hrow k e.symm).1
   have g2 := (Array.getElem?_eq_some_iff.1 ho).1
   have := hb12.size
   rw [← hW2] at this
   have g4 : W2.heap.size = W1.heap.size + 1 := by rw [← hW2]; simp
   omega⟩
  case assign2 =>
   intro l2 j hj W3 K' hK'
   rw [el_get]
   simp only [List.zip_toArray, List.zip_cons_cons, List.zip_nil_right, List.foldl_toArray, List.foldl_cons, List.foldl_nil, List.setIfInBounds_toArray, List.set_cons_zero, List.set_cons_succ]
   gi_wp2
   exact hK'
  case body2 =>
   rintro l2 j W3 hj ⟨q1, q2, q3⟩
   have hjp : j < p := by simpa using hj
   have hpl := HP1.out hip hjp
   obtain ⟨fn, tmps, assign, body, hy, hR⟩ := hY (i * p + j) hpl W3 q1.J
   rw [prs_get p i j hjp] at hy
   have hy1 : W3.cell? ⟨W.heap.size, 0, none⟩ = some (.func (.yield l) #[] #[]) := (blk_cell q1.y 0).trans rfl
   have hc1 : W3.cell? ⟨cb, 0, none⟩ = some (.int .u64 (i : Int)) := (blk_cell q2 0).trans rfl
   have HQ1 := ak q1
   have HQ2 := ak q2
   have HQ3 := ak q3
   have hR2 : ∀ m, RoundIn ((Fence.wide.inRound l1).inRound l2) m Tryd.prog l fn tmps assign body W3 fun e W' => e = .returned (.bool true) ∧ J (i * p + j + 1) W' ∧ KN nb (w.heap.size + 2) W3 W' := fun m => RoundIn.inRound l2 (RoundIn.inRound l1 (RoundIn.anyDepth rfl hR))
   clear q1 q2 q3 hR hj hpl
   gi_wp2
   refine (hR2 _).mono ?_
   rintro e W4 ⟨rfl, hJ4, hk4⟩
   gi_wp2
   refine ⟨keepsFrom_mono hk4.2 (by omega), trivial, ⟨hJ4, hk4.1.cells ?n1 HQ1.out.y, hk4.1.cells ?n2 HQ1.out.b, Fld.kc HQ1.out.fld hk4.1 g1 g2⟩, hk4.1.cells ?n3 HQ2.out, ?kf⟩
   case n1 => omega
   case n2 => exact hnB
   case n3 => omega
   case kf => exact ⟨Nat.le_trans HQ3.out.size hk4.2.size, fun k o hk ho hn => hk4.2.same k o (by omega) (HQ3.out.same k o hk ho hn) hn⟩
  case done2 =>
   rintro W3 ⟨q1, q2, q3⟩
   gi_wp2
   refine ⟨q3, trivial, ?_⟩
   rw [List.length_map, List.length_range] at q1
   rw [Nat.add_mul, Nat.one_mul]
   exact q1
 case done =>
  rintro D W1 hD hI hK
  rw [List.length_map, List.length_range] at hI
  gi_wp2
  refine ⟨by simp, .inl ⟨_, _, rfl, run_takeDeferred hK, ?_⟩⟩
  have hJf : J (prs p).length (W1.putObj D (.deferred none)) := by
   rw [prs_length]
   exact HO.out.putObj _ hI.J (by omega) hK rfl
  exact ⟨_, results_none rfl _ _ _, ⟨_, rfl⟩, hJf⟩
end

def gap_product.l0 : Nat → Int → Int → List Int → Int → Int → Option (Int)
 | 0, _, _, _, _, _ => none
 | k + 1, x0, x5, x8, x9, x10 => if x10 < x9 then (if 0 ≤ x10 then (if x10 < (x8.length : Int) then ((field_Mul.f x0 x5 (rd x8 x10)).bind fun t892 => (gap_product.l0 k x0 t892 x8 x9 (wrap64 (x10 + 1)))) else (none)) else (none)) else (some x5)
def gap_product.f (k : Nat) (a0 : Int) (l1 : List Int) : Option (Int) := gap_product.l0 k a0 1 l1 (l1.length : Int) 0
set_option maxHeartbeats 8000000 in
set_option maxRecDepth 100000 in
theorem gap_product.calls (k : Nat) (a0 : Int) (A1 : Option Addr) (c1 : Nat) (l1 : List Int) (r : Int) (w : World) (hG : Fld w) (hr1 : Kd.C (Kd.int .u64) w A1 l1.length l1) (hc1 : l1.length ≤ c1) (h : gap_product.f k a0 l1 = some r) :
  Calls Tryd.prog 67 #[.int .i64 a0, .slice A1 l1.length c1] w fun e w' => e = .returned (.int .u64 r) ∧ Below w.heap.size w w' := by
 have HG := ak hG
 clear hG
 have HR1 := ak hr1
 have HC1 := ak hc1
 clear hr1 hc1
 have HB := ak (Below.refl w.heap.size w)
 have H : (gap_product.l0 k a0 1 l1 (l1.length : Int) 0) = some r := h
 clear h
 have H' := ak H
 clear H
 go_enter Tryd.func67, Tryd.ntmps67
 go_wp2
 go_loopg [5, 10] k (fun kq v5 v10 w' => ∃ (x5_1 : Int) (x10_1 : Int), v5 = .int .u64 x5_1 ∧ v10 = .int .i64 x10_1 ∧ Aside0 (gap_product.l0 kq a0 x5_1 l1 (l1.length : Int) x10_1 = some r) ∧ Aside0 (kq ≤ k) ∧ Aside0 (Below w.heap.size w w'))
 case atStart => exact ⟨(1), (0), gb_, gb_, H', ⟨Nat.le_refl _⟩, ⟨bU_ HB.out⟩⟩
 case round =>
  clear H'
  (try clear c1); (try clear p2)
  obtain ⟨x5_1, x10_1, rfl, rfl, HA, HK1, HB⟩ := hrel
  cases gk with
  | zero => exact absurd HA.out (by simp [gap_product.l0])
  | succ k1 =>
   have H := HA.out
   clear HA
   simp only [gap_product.l0] at H
   by_cases c3 : x10_1 < (l1.length : Int)
   ·rw [if_pos c3] at H
    have c3b0 := decide_eq_true c3
    clear c3
    obtain ⟨c4, H⟩ : (0 ≤ x10_1) ∧ _ := it_ H
    have c4b0 := decide_eq_true c4
    clear c4
    obtain ⟨c5, H⟩ : (x10_1 < (l1.length : Int)) ∧ _ := it_ H
    have c5b0 := decide_eq_true c5
    clear c5
    revert H
    refine bd_ fun t892 A6 H => ?_
    have H' := ak H
    clear H
    have p891 : 0 ≤ (x10_1 : Int) := od_
    have q891 : x10_1 < (l1.length : Int) := od_
    obtain ⟨ad891, e891, hx891_0⟩ := Kd.at_int HR1.out x10_1 p891 q891
    cases e891
    replace hx891_0 := (HB.out.cell (World.block_lt_of_cell? w _ hx891_0)).trans hx891_0
    replace p891 := eq_true p891
    replace q891 := eq_true q891
    go_wp2_with (first | ((with_reducible refine gate_callee (f := 37) rfl ?_); refine gl_ (some 17) Tryd.func37 #[.int .i64 a0, .int .u64 x5_1, .int .u64 (rd l1 x10_1)] ?_; (with_reducible refine (field_Mul.calls a0 x5_1 (rd l1 x10_1) t892 _ ?side1 A6.out).mono ?_); (case side1 => exact fU_ HG.out HB.out); rintro e w7 ⟨rfl, hb⟩; refine ⟨_, rfl, ?_⟩; refine nx1_ (below_step (bU_ HB.out) hb) ?_; clear HB; intro HB; clear hb))
    go_roundg k1
    case measure => have := HK1.out; omega
    case rel => exact ⟨(t892), (wrap64 (x10_1 + 1)), gb_, gb_, H', ⟨by have := HK1.out; omega⟩, ⟨bU_ HB.out⟩⟩
   rw [if_neg c3] at H
   have c3b0 := decide_eq_false c3
   clear c3
   obtain rfl := Option.some.inj H
   go_wp2
   go_ret
   exact ⟨eW_, bU_ HB.out⟩

def gap_values.l0 : Nat → Int → Int → Int → List Int → List (List Int) → Int → Int → Option (List Int)
 | 0, _, _, _, _, _, _, _ => none
 | k + 1, x0, x2, x3, x9, x15, x16, x17 => if x17 < x16 then (if 0 ≤ x17 then (if x17 < (x15.length : Int) then ((poly_Eval.f k x0 (rd_L3 x15 x17) x3).bind fun t897 => ((field_Add.f x0 x2 t897).bind fun t898 => (if x17 < (x9.length : Int) then (gap_values.l0 k x0 x2 x3 (x9.set (x17 : Int).toNat t898) x15 x16 (wrap64 (x17 + 1))) else (none)))) else (none)) else (none)) else (some x9)
def gap_values.f (k : Nat) (a0 : Int) (l1 : List (List Int)) (a2 : Int) (a3 : Int) : Option (List Int) := if 0 ≤ (l1.length : Int) then (if ((l1.length : Int) : Int).toNat ≤ 35184372088832 then (gap_values.l0 k a0 a2 a3 (List.replicate ((l1.length : Int) : Int).toNat 0) l1 (l1.length : Int) 0) else (none)) else (none)
set_option maxHeartbeats 8000000 in
set_option maxRecDepth 100000 in
theorem gap_values.calls (k : Nat) (a0 : Int) (A1 : Option Addr) (c1 : Nat) (l1 : List (List Int)) (a2 : Int) (a3 : Int) (r : List Int) (w : World) (hG : Fld w) (hr1 : Kd.C (Kd.slice 48 (Kd.int .u64)) w A1 l1.length l1) (hc1 : l1.length ≤ c1) (h : gap_values.f k a0 l1 a2 a3 = some r) :
  Calls Tryd.prog 68 #[.int .i64 a0, .slice A1 l1.length c1, .int .u64 a2, .int .u64 a3] w fun e w' => ∃ v0_ : Value, e = .returned (v0_) ∧ Kd.R (Kd.int .u64) 48 w' w.heap.size (fun _ => True) v0_ r ∧ Below w.heap.size w w' := by
 have HG := ak hG
 clear hG
 have HR1 := ak hr1
 have HC1 := ak hc1
 clear hr1 hc1
 have HB := ak (Below.refl w.heap.size w)
 have H := h
 clear h
 unfold gap_values.f at H
 obtain ⟨c5, H⟩ : (0 ≤ (l1.length : Int)) ∧ _ := it_ H
 have c5b0 := eq_true c5
 have c5b1 := decide_eq_true c5
 clear c5
 obtain ⟨c6, H⟩ : (((l1.length : Int) : Int).toNat ≤ 35184372088832) ∧ _ := it_ H
 have c6b0 := eq_true c6
 have c6b1 := decide_eq_true c6
 clear c6
 obtain ⟨y893, hy893⟩ : ∃ y_ : List Int, y_ = (List.replicate ((l1.length : Int) : Int).toNat 0) := ⟨_, rfl⟩
 first | rw [Option.bind_some, ← hy893] at H | rw [← hy893] at H
 have Ny893 := ak hy893
 clear hy893
 have H' := ak H
 clear H
 go_enter Tryd.func68, Tryd.ntmps68
 go_wp2_with (first | ((with_reducible refine gate_dst (N := 14) rfl ?_); refine R_make (Kd.int .u64) _ 48 rfl (N := 14) rfl 35 _ _ rfl (l1.length : Int) ?hx ?hy Tryd.underlying35 (.int .u64 0) 8 info48 rfl (by decide) (by omega) 0 (ok := fun _ => True) (okp := fun _ => True) rfl (fun _ hk => hk) trivial od_ (Nat.le_trans (Nat.mul_le_mul_right _ (od_ : (l1.length : Int).toNat ≤ 35184372088832)) (by omega)) (Below.refl _ _) (Nat.le_refl _) ?_; (case hx => first | rfl); (case hy => first | rfl); intro v894 w7 ho8 hb hg_ hnew_; clear hg_ hnew_; (first | rw [← Ny893.out] at ho8 | (simp only [Int.reduceToNat] at ho8; rw [← Ny893.out] at ho8)); refine nx2_ (R_lower ho8 (below_size (bU_ HB.out))) (below_step (bU_ HB.out) hb) ?_; clear HB; intro HO895 HB; clear hb ho8))
 go_loopg [17] k (fun kq v17 w' => ∃ (x9_1 : List Int) (x17_1 : Int), v17 = .int .i64 x17_1 ∧ Aside0 (gap_values.l0 kq a0 a2 a3 x9_1 l1 (l1.length : Int) x17_1 = some r) ∧ Aside0 (kq ≤ k) ∧ Aside0 (Kd.R (Kd.int .u64) 48 w' w.heap.size (fun _ => True) v894 x9_1) ∧ Aside0 (Below w.heap.size w w'))
 case atStart => exact ⟨(y893), (0), gb_, H', ⟨Nat.le_refl _⟩, ⟨rU_ HO895.out⟩, ⟨bU_ HB.out⟩⟩
 case round =>
  clear H'
  (try clear c1); (try clear p2); (try clear c5); (try clear c5b0); (try clear c5b1); (try clear c6); (try clear c6b0); (try clear c6b1)
  obtain ⟨x9_1, x17_1, rfl, HA, HK1, HO_9, HB⟩ := hrel
  cases gk with
  | zero => exact absurd HA.out (by simp [gap_values.l0])
  | succ k1 =>
   have H := HA.out
   clear HA
   simp only [gap_values.l0] at H
   by_cases c9 : x17_1 < (l1.length : Int)
   ·rw [if_pos c9] at H
    have c9b0 := decide_eq_true c9
    clear c9
    obtain ⟨c10, H⟩ : (0 ≤ x17_1) ∧ _ := it_ H
    have c10b0 := decide_eq_true c10
    clear c10
    obtain ⟨c11, H⟩ : (x17_1 < (l1.length : Int)) ∧ _ := it_ H
    have c11b0 := decide_eq_true c11
    clear c11
    revert H
    refine bd_ fun t897 A12 H => ?_
    revert H
    refine bd_ fun t898 A13 H => ?_
    obtain ⟨c14, H⟩ : (x17_1 < (x9_1.length : Int)) ∧ _ := it_ H
    have c14b0 := decide_eq_true c14
    clear c14
    obtain ⟨y899, hy899⟩ : ∃ y_ : List Int, y_ = (x9_1.set (x17_1 : Int).toNat t898) := ⟨_, rfl⟩
    first | rw [Option.bind_some, ← hy899] at H | rw [← hy899] at H
    have Ny899 := ak hy899
    clear hy899
    have H' := ak H
    clear H
    have p896 : 0 ≤ (x17_1 : Int) := od_
    have q896 : x17_1 < (l1.length : Int) := od_
    obtain ⟨ad896, A896_0, c896_0, e896, hx896_0, hl896_0, hi896_0⟩ := at_L3 HR1.out x17_1 p896 q896
    cases e896
    replace hx896_0 := (HB.out.cell (World.block_lt_of_cell? w _ hx896_0)).trans hx896_0
    have HR896_0 := ak hi896_0
    have HC896_0 := ak hl896_0
    clear hi896_0 hl896_0
    replace p896 := eq_true p896
    replace q896 := eq_true q896
    go_wp2_with (first | ((with_reducible refine gate_callee (f := 27) rfl ?_); refine gl_ (some 29) Tryd.func27 #[.int .i64 a0, .slice A896_0 (rd_L3 l1 x17_1).length c896_0, .int .u64 a3] ?_; (with_reducible refine (poly_Eval.calls k1 a0 _ _ (rd_L3 l1 x17_1) a3 t897 _ ?side1 ?side2 ?side3 A12.out).mono ?_); (case side1 => exact fU_ HG.out HB.out); (case side2 => exact cU_ (C_below HR896_0.out HB.out)); (case side3 => exact HC896_0.out); rintro e w16 ⟨rfl, hb⟩; refine ⟨_, rfl, ?_⟩; refine nx2_ (R_below (rU_ HO_9.out) hb) (below_step (bU_ HB.out) hb) ?_; clear HO_9 HB; intro HO_9 HB; clear hb) | ((with_reducible refine gate_callee (f := 25) rfl ?_); refine gl_ (some 30) Tryd.func25 #[.int .i64 a0, .int .u64 a2, .int .u64 t897] ?_; (with_reducible refine (field_Add.calls a0 a2 t897 t898 _ ?side1 A13.out).mono ?_); (case side1 => exact fU_ HG.out HB.out); rintro e w17 ⟨rfl, hb⟩; refine ⟨_, rfl, ?_⟩; refine nx2_ (R_below (rU_ HO_9.out) hb) (below_step (bU_ HB.out) hb) ?_; clear HO_9 HB; intro HO_9 HB; clear hb; have p15 : 0 ≤ (x17_1 : Int) := od_; have q15 : (x17_1 : Int) < ((x9_1.length : Int) : Int) := od_; obtain ⟨go15, co15, eo15, gb15, gl15, cl15, HG15⟩ := Kd.R_form HO_9.out (by omega); (first | cases eo15 | (injection eo15 with ea_ en_ ec_; (first | subst ea_ | (injection ea_ with ea_; subst ea_)); subst ec_; clear en_)); have GB15 := ak gb15; have GG15 := ak HG15; clear gb15 gl15 HG15; obtain ⟨hx15_0, hf15_0⟩ := Kd.R_celln 0 HO_9.out (x17_1 : Int) p15 q15; replace p15 := eq_true p15; replace q15 := eq_true q15; obtain ⟨hy18_, hz18_⟩ := Kd.R_celln 0 HO_9.out (x17_1 : Int) od_ od_; have HP18 := Kd.R_putg HO_9.out (x17_1 : Int) t898) | ((with_reducible refine gate_store (t := 48) (p := 31) rfl ?_); refine store_event (t := 48) (p := 31) (v := ?vo_w19) (w1 := (w17.setCell ⟨go15, (x17_1 : Int).toNat, none⟩ (.int .u64 t898))) ?hg ?ho ?hn ?hr ?_; (case ho => rfl); (case hg => rfl); (case hn => rfl); (case hr => first | (go_simp; done) | (go_simp; rfl)); intro w19 hw; have hg : w17.grownBy w19 (some go15) := (by rw [hw]; exact HP18.2); have hp_ : Kd.R (Kd.int .u64) 48 w19 w.heap.size (fun _ => True) (.slice (some ⟨go15, 0, none⟩) x9_1.length co15) y899 := (by rw [hw, Ny899.out]; exact HP18.1); clear HP18; refine nx2_ (hp_) ((by rw [hw]; exact below_set (HB.out) GB15.out : Below w.heap.size w w19)) ?_; clear HO_9 HB; intro HO_9 HB; clear hg hw hp_))
    go_roundg k1
    case measure => have := HK1.out; omega
    case rel => exact ⟨(y899), (wrap64 (x17_1 + 1)), gb_, H', ⟨by have := HK1.out; omega⟩, ⟨rU_ HO_9.out⟩, ⟨bU_ HB.out⟩⟩
   rw [if_neg c9] at H
   have c9b0 := decide_eq_false c9
   clear c9
   obtain rfl := Option.some.inj H
   go_wp2
   go_ret
   exact ⟨_, eW_, rU_ HO_9.out, bU_ HB.out⟩

end Go.Proofs.YtbjeemlbjkmhiaaDoor.Q
