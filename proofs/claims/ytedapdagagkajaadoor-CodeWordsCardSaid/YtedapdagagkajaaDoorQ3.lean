import Derived.Test.YtedapdagagkajaaDoorQ0
import Derived.Test.YtedapdagagkajaaDoorQ2
namespace Go.Proofs.YtedapdagagkajaaDoor.Q
open Go.RowKit Go.Proofs.YtedapdagagkajaaDoorW.PrintWords Go.Proofs.YtedapdagagkajaaDoorW.PrintLast Go.Proofs.YtedapdagagkajaaDoorW.PrintMore
open Kd (R_below R_mono R_lower R_new' R_elder' R_base R_lt R_slice R_reads' R_tight R_make C_below fresh' R_drew)
attribute [local go_sem] max2_int min2_int max_two min_two max_three min_three max_four min_four   -- for this text's walks alone
set_option linter.unusedVariables false
set_option linter.unusedSimpArgs false

theorem hold_ {p : Prop} (h : Aside0 p) : p := h.out
section
variable {P : Program} {ops : Array Oper} {Q : Exit → Act → World → Prop}
theorem gclo_ {rest : List Oper} {oi : Oper} {a : Act} {w : World} (N : Option Tmp) (hd : oi.dst = N) (hg : oi.guard = none) {f : FuncId} {fn : Func} {t : Tmp} {xs : Array Operand} {ts : Array TypeId} {cap : Array Value} (hf : P.funcs[f]? = some fn) (hname : (fn.name == "runtime.NumGoroutine") = false) (hb : fn.body.isSome = true) (args : Array Value)
  (hop : oi.op = .call { callee := .value (.tmp t), args := xs, argTypes := ts }) (hfun : a.eval (.tmp t) = .func (Fn.func f) #[] cap) (hargs : xs.map a.eval ++ cap = args)
  (h : Calls P f args w fun e w' => ∃ v, e = .returned v ∧ wpList P ops Q rest (a.put N v) w') : wpList P ops Q (oi :: rest) a w := by
 refine wpList_plain hg fun K hK => ?_
 have he := enters_ hf hname hb args w
 have hrun : (execOp a.eval oi).run P w = .ok (.enter f args) w := by
  unfold execOp
  simp [hop, resolve, Deferred.ofValue, invoke, hfun, hargs, he]
 unfold Oper.wp
 rw [hrun, Oper.upon_enter]
 refine h.mono fun e w'' hh => ?_
 obtain ⟨v, rfl, hk⟩ := hh
 subst hd
 exact hK _ _ hk
end
set_option maxHeartbeats 4000000 in
set_option maxRecDepth 100000 in
theorem place_calls (kk i rv : Int) (B : Nat) (w : World) (hc : w.cell? ⟨B, 0, none⟩ = some (.int .i64 kk)) (hB : B < w.heap.size) (h0 : 0 ≤ kk) (h1 : kk ≤ 64) (h : bits_Reverse64.f (IntKind.u64.wrap i) = some rv) :
  Calls Tryd.prog 107 #[.int .i64 i, .pointer (some ⟨B, 0, none⟩)] w fun e w' => e = .returned (.int .i64 (wrap64 (rv / 2 ^ (64 - kk).toNat))) ∧ Below w.heap.size w w' := by
 go_enter Tryd.func107, Tryd.ntmps107
 go_wp2
 refine start_ (n := 8) (S := fun w' => w'.cell? ⟨B, 0, none⟩ = some (.int .i64 kk)) (ds := []) (bv 8 0) (by kernel_rfl) rfl rfl hc (fun hHeld => ?_)
 have HT_ : Aside0 (rtab .any (opsOf Tryd.f107 1) = rtab .any (opsOf Tryd.f107 1)) := ⟨rfl⟩
 have HB := ak (below_drew1 (Below.refl w.heap.size w))
 have hB' : B < w.drew.heap.size := hB
 generalize w.drew = w9 at HB hHeld hB' ⊢
 refine pq_ 0 4 8 1 HT_.out ?_
 refine pq_ 1 5 8 3 HT_.out ?_
 refine take_ (i := 3) (N := some 7) (v := ?_) (a' := ?_) (bv 8 11) rfl rfl (take_of HT_.out (by kernel_rfl)) (fun _ _ _ h => h) (Or.inl ⟨by rfl, ?_⟩) hHeld ?_ ?_
 rotate_left
 ·intro w' s0
  go_simp
  with_reducible rfl
 rotate_left
 ·simp only [Act.put, s1_, s2_, s3_, i64_w, i32_w]
  rfl
 refine pq_ 4 8 8 27 HT_.out ?_
 refine oq_ 2 6 8 31 HT_.out fun K hK => ?_
 refine gs_ Tryd.func108 #[.int .u64 (IntKind.u64.wrap i)] ?_
 refine (bits_Reverse64.calls (IntKind.u64.wrap i) rv _ h).mono ?_
 rintro e w5 ⟨rfl, hd⟩
 refine ⟨_, rfl, ?_⟩
 have hc5 : w5.cell? ⟨B, 0, none⟩ = some (.int .i64 kk) := (hd.below.cell hB').trans hHeld
 refine nx1_ (below_step HB.out hd.below) ?_
 clear HB
 intro HB
 clear hd
 refine hK.out _ _ hc5 (fun hHeld => ?_)
 clear hK K
 refine norm_ (a' := ?_) ?_ ?_
 rotate_left
 ·show Act.put _ (some 6) _ = _
  simp only [Act.put, s1_, s2_, s3_, i64_w, i32_w]
  rfl
 have f1 : wrap64 (64 - kk) = 64 - kk := by unfold wrap64; omega
 rw [f1]
 have f2 : (0 : Int) ≤ 64 - kk := by omega
 have f3 : min (64 - kk).toNat 64 = (64 - kk).toNat := by omega
 have f4 : (64 - kk).toNat ≤ 64 := by omega
 refine pr_ (i := 5) (N := some 9) (v := .int .u64 (rv / 2 ^ (64 - kk).toNat)) (a' := ?_) (bv 8 63) HT_.out ?_ ?_ ?_; rotate_left 1
 ·intro w'
  go_simp
 ·simp only [Act.put, s1_, s2_, s3_]
  rfl
 refine pq_ 6 10 8 127 HT_.out ?_
 refine pq_ 7 3 8 255 HT_.out ?_
 refine done_ (done_of HT_.out (by kernel_rfl)) ?_
 go_wp2
 go_ret
 exact ⟨rfl, HB.out⟩
def transform_reordered.l0 : Nat → Int → Int → List Int → List Int → Nat → Option (List Int)
 | 0, _, _, _, _, _ => none
 | k + 1, f, kk, l, out, i => if i < l.length then (bits_Reverse64.f (IntKind.u64.wrap (i : Int))).bind fun rv => if 0 ≤ wrap64 (rv / 2 ^ (64 - kk).toNat) ∧ wrap64 (rv / 2 ^ (64 - kk).toNat) < (l.length : Int) then (field_Reduce.f f (rd l (wrap64 (rv / 2 ^ (64 - kk).toNat)))).bind fun y => transform_reordered.l0 k f kk l (out.set i y) (i + 1) else none else some out
def transform_reordered.f (k : Nat) (a0 : Int) (l1 : List Int) : Option (List Int) := (bits_TrailingZeros.f (l1.length : Int)).bind fun kk => if 0 ≤ kk ∧ kk ≤ 64 ∧ l1.length ≤ 35184372088832 then transform_reordered.l0 k a0 kk l1 (List.replicate l1.length 0) 0 else none
theorem transform_reordered.mono_l : ∀ k f kk l out i, LeO (transform_reordered.l0 k f kk l out i) (transform_reordered.l0 (k + 1) f kk l out i)
 | 0, _, _, _, _, _ => fun r h => by simp [transform_reordered.l0] at h
 | k + 1, f, kk, l, out, i => by
  rw [transform_reordered.l0, transform_reordered.l0]
  exact LeO.ite (LeO.bind (LeO.refl _) fun _ => LeO.ite (LeO.bind (LeO.refl _) fun _ => transform_reordered.mono_l _ _ _ _ _ _) (LeO.refl _)) (LeO.refl _)
theorem transform_reordered.mono : ∀ a0 l1 k, LeO (transform_reordered.f k a0 l1) (transform_reordered.f (k + 1) a0 l1) := fun a0 l1 k => by
 unfold transform_reordered.f
 exact LeO.bind (LeO.refl _) fun _ => LeO.ite (transform_reordered.mono_l _ _ _ _ _ _) (LeO.refl _)
set_option maxHeartbeats 8000000 in
set_option maxRecDepth 100000 in
theorem transform_reordered.calls (k : Nat) (a0 : Int) (A1 : Option Addr) (c1 : Nat) (l1 r : List Int) (w : World) (hG : Fld w) (hr1 : Kd.C (Kd.int .u64) w A1 l1.length l1) (hc1 : l1.length ≤ c1) (h : transform_reordered.f k a0 l1 = some r) :
  Calls Tryd.prog 93 #[.int .i64 a0, .slice A1 l1.length c1] w fun e w' => ∃ v0_ : Value, e = .returned v0_ ∧ Kd.R (Kd.int .u64) 22 w' w.heap.size (fun _ => True) v0_ r ∧ Below w.heap.size w w' := by
 have HG := ak hG
 have HR1 := ak hr1
 clear hG hr1
 unfold transform_reordered.f at h
 obtain ⟨kk, hk, h⟩ := Option.bind_eq_some_iff.mp h
 have HK := ak hk
 clear hk
 by_cases c2 : 0 ≤ kk ∧ kk ≤ 64 ∧ l1.length ≤ 35184372088832
 ·rw [if_pos c2] at h
  have H' := ak h
  clear h
  have hmf : ∀ (fn : Fn) (first cap : Array Value) (w : World), (Instr.makeFunc fn first cap).run Tryd.prog w = .ok (.func fn first cap) w := fun _ _ _ _ => rfl
  have HB := ak (Below.refl w.heap.size w)
  go_enter Tryd.func93, Tryd.ntmps93
  go_wp2_with (first | ((with_reducible refine gate_callee (f := 105) rfl ?_); refine gl_ (some 12) Tryd.func105 #[.int .u64 (l1.length : Int)] ?_; (with_reducible refine (bits_TrailingZeros.calls (l1.length : Int) kk _ ?side1 HK.out).mono ?_); (case side1 => exact fU_ HG.out HB.out); rintro e w1 ⟨rfl, hb⟩; refine ⟨_, rfl, ?_⟩; refine nx1_ (below_step (bU_ HB.out) hb) ?_; clear HB; intro HB; clear hb) | ((with_reducible refine gate_dst (N := 16) rfl ?_); refine hold_ ?_))
  have hA := below_alloc HB.out (Obj.cells #[.int .i64 kk] 3)
  have g0 : (w1.alloc (Obj.cells #[.int .i64 kk] 3)).cell? ⟨w1.heap.size, 0, none⟩ = some (.int .i64 kk) := by go_simp
  have g1 : w1.heap.size < (w1.alloc (Obj.cells #[.int .i64 kk] 3)).heap.size := by simp
  generalize w1.alloc (Obj.cells #[.int .i64 kk] 3) = wA at *
  generalize w1.heap.size = B at *
  clear HB HK
  have HB := ak hA
  clear hA
  refine ⟨?_⟩
  refine R_make (Kd.int .u64) _ 22 rfl (N := 16) rfl 33 _ _ rfl (l1.length : Int) ?hx ?hy Tryd.underlying33 (.int .u64 0) 8 info22 rfl (by decide) (by omega) 0 (ok := fun _ => True) (okp := fun _ => True) rfl (fun _ hk => hk) trivial (by omega) (Nat.le_trans (Nat.mul_le_mul_right _ (show (l1.length : Int).toNat ≤ 35184372088832 by omega)) (by omega)) (Below.refl _ _) (Nat.le_refl _) ?_
  ·rfl
  ·rfl
  intro v0 w2 ho hb _ _
  have g2 := (hb.cell g1).trans g0
  have g3 := Nat.lt_of_lt_of_le g1 hb.size
  have g1' := g1
  clear g0 g1
  have HBS := ak (And.intro (below_size HB.out) g1')
  generalize wA.heap.size = bs at ho HBS
  have HO := ak ho
  refine nx1_ (below_step (bU_ HB.out) hb) ?_
  clear HB ho hb
  intro HB
  rw [show ((l1.length : Int)).toNat = l1.length from Int.toNat_natCast _] at HO
  obtain ⟨Ao, co, eo⟩ := R_slice HO.out
  subst eo
  rw [show (List.replicate l1.length (0 : Int)).length = l1.length from List.length_replicate] at HO ⊢
  have GG := ak (And.intro g2 g3)
  clear g2 g3
  go_wp2
  go_loopg [19] k (fun kq v19 w' => ∃ (i : Nat) (out : List Int), v19 = .int .i64 (i : Int) ∧ Aside0 (transform_reordered.l0 kq a0 kk l1 out i = some r) ∧ Aside0 (kq ≤ k) ∧ Aside0 (out.length = l1.length) ∧ Aside0 (Kd.R (Kd.int .u64) 22 w' bs (fun _ => True) (.slice Ao l1.length co) out) ∧ Aside0 (w'.cell? ⟨B, 0, none⟩ = some (.int .i64 kk) ∧ B < w'.heap.size) ∧ Aside0 (Below w.heap.size w w'))
  case atStart => exact ⟨0, _, rfl, H', ⟨Nat.le_refl _⟩, ⟨List.length_replicate⟩, ⟨rU_ HO.out⟩, GG, HB⟩
  case round =>
   clear H' HO GG HB
   obtain ⟨i, out, rfl, HA, HK, HLN, HO, GG, HB⟩ := hrel
   cases gk with
   | zero => exact absurd HA.out (by simp [transform_reordered.l0])
   | succ k1 =>
    have H := HA.out
    clear HA
    rw [transform_reordered.l0] at H
    by_cases c3 : i < l1.length
    ·rw [if_pos c3] at H
     obtain ⟨rv, hrv, H⟩ := Option.bind_eq_some_iff.mp H
     have A9 := ak hrv
     clear hrv
     by_cases c4 : 0 ≤ wrap64 (rv / 2 ^ (64 - kk).toNat) ∧ wrap64 (rv / 2 ^ (64 - kk).toNat) < (l1.length : Int)
     ·rw [if_pos c4] at H
      obtain ⟨pl, hpl⟩ : ∃ pl, pl = wrap64 (rv / 2 ^ (64 - kk).toNat) := ⟨_, rfl⟩
      rw [← hpl] at c4 H
      obtain ⟨c4, c5⟩ := c4
      obtain ⟨y, hy, H⟩ := Option.bind_eq_some_iff.mp H
      have A2 := ak hy
      have H' := ak H
      clear hy H
      have e1 : decide ((i : Int) < (l1.length : Int)) = true := by simp; omega
      obtain ⟨ad, ea, hx⟩ := Kd.at_int HR1.out pl c4 c5
      cases ea
      replace hx := (HB.out.cell (World.block_lt_of_cell? w _ hx)).trans hx
      have HX := ak hx
      clear hx
      go_wp2_with (first | ((with_reducible refine gate_dst (N := 28) rfl ?_); refine hold_ ?_))
      refine ⟨?_⟩
      refine gclo_ (some 28) rfl rfl Tryd.func107 (by kernel_rfl) rfl #[.int .i64 (i : Int), .pointer (some ⟨B, 0, none⟩)] rfl rfl (by simp only [List.map_toArray, List.map_cons, List.map_nil, List.append_toArray, List.cons_append, List.nil_append]; rfl) ?_
      refine (place_calls kk i rv B _ GG.out.1 GG.out.2 c2.1 c2.2.1 A9.out).mono ?_
      rintro e w5 ⟨rfl, hb⟩
      rw [← hpl]
      refine ⟨_, rfl, ?_⟩
      refine nx4_ (R_below (rU_ HO.out) hb) (And.intro ((hb.cell GG.out.2).trans GG.out.1) (Nat.lt_of_lt_of_le GG.out.2 hb.size)) ((hb.cell (World.block_lt_of_cell? _ _ HX.out)).trans HX.out) (below_step (bU_ HB.out) hb) ?_
      clear HO GG HX HB hb hpl
      intro HO GG HX HB
      have hx := HX.out
      clear HX
      go_wp2_with (first | ((with_reducible refine gate_callee (f := 65) rfl ?_); refine hold_ ?_))
      refine ⟨?_⟩
      refine gl_ (some 31) Tryd.func65 #[.int .i64 a0, .int .u64 (rd l1 pl)] ?_
      refine (field_Reduce.calls a0 (rd l1 pl) y _ ?side1 A2.out).mono ?_
      case side1 => exact fU_ HG.out HB.out
      rintro e w6 ⟨rfl, hb⟩
      refine ⟨_, rfl, ?_⟩
      refine nx3_ (R_below (rU_ HO.out) hb) (And.intro ((hb.cell GG.out.2).trans GG.out.1) (Nat.lt_of_lt_of_le GG.out.2 hb.size)) (below_step (bU_ HB.out) hb) ?_
      clear HO GG HB hb hx
      intro HO GG HB
      have hio : (i : Int) < (out.length : Int) := by have := HLN.out; omega
      rw [← HLN.out] at HO ⊢
      obtain ⟨g, c, eo, gb, gl, cl, hgg⟩ := Kd.R_form HO.out (by omega)
      injection eo with ea_ en_ ec_
      subst ea_
      subst ec_
      obtain ⟨hx, hf⟩ := Kd.R_celln 0 HO.out (i : Int) (by omega) hio
      rw [Int.toNat_natCast] at hx hf
      have HP := Kd.R_putg HO.out (i : Int) y
      rw [Int.toNat_natCast] at HP
      have hcB : (w6.setCell ⟨g, i, none⟩ (.int .u64 y)).cell? ⟨B, 0, none⟩ = some (.int .i64 kk) := (World.cell?_setCell_other _ _ _ _ (by have := HBS.out; intro hq; simp only [Addr.mk.injEq] at hq; omega)).trans GG.out.1
      go_wp2_with (first | ((with_reducible refine gate_store (t := 22) (p := 32) rfl ?_); refine hold_ ?_))
      refine ⟨?_⟩
      refine store_event (t := 22) (p := 32) (v := ?vo) (w1 := (w6.setCell ⟨g, i, none⟩ (.int .u64 y))) ?hg ?ho ?hn ?hr ?_
      case ho => rfl
      case hg => rfl
      case hn => rfl
      case hr => first | (go_simp; done) | (go_simp; rfl)
      intro w7 hw
      have hgr := HP.2
      rw [← hw] at HP hcB hgr
      have gb' := Nat.le_trans HBS.out.1 gb
      refine nx3_ HP.1 (And.intro hcB (Nat.lt_of_lt_of_le GG.out.2 hgr.size)) (by rw [hw]; exact below_set HB.out gb' : Below w.heap.size w w7) ?_
      clear HO GG HB hx hf HP hcB hgr hw
      intro HO GG HB
      go_wp2
      rw [HLN.out] at HO ⊢
      go_roundg k1
      case measure => have := HK.out; omega
      case rel => exact ⟨i + 1, out.set i y, by first | rfl | (simp; done) | (simp [*]; done), H', ⟨by have := HK.out; omega⟩, ⟨by rw [List.length_set]; exact HLN.out⟩, ⟨rU_ HO.out⟩, GG, HB⟩
     rw [if_neg c4] at H
     simp at H
    rw [if_neg c3] at H
    obtain rfl := Option.some.inj H
    have e1 : decide ((i : Int) < (l1.length : Int)) = false := by simp; omega
    go_wp2
    go_ret
    exact ⟨_, rfl, R_lower HO.out HBS.out.1, HB.out⟩
 rw [if_neg c2] at h
 simp at h

def field_Add.f (a0 : Int) (a1 : Int) (a2 : Int) : Option (Int) := (field_P.f a0).bind fun t193 => (if t193 = 0 then (some 0) else (if (IntKind.u64.wrap ((Int.tmod a1 t193) + (Int.tmod a2 t193))) ≥ t193 then (some (IntKind.u64.wrap ((IntKind.u64.wrap ((Int.tmod a1 t193) + (Int.tmod a2 t193))) - t193))) else (some (IntKind.u64.wrap ((Int.tmod a1 t193) + (Int.tmod a2 t193))))))
set_option maxHeartbeats 8000000 in
set_option maxRecDepth 100000 in
theorem field_Add.calls (a0 : Int) (a1 : Int) (a2 : Int) (r : Int) (w : World) (hG : Fld w) (h : field_Add.f a0 a1 a2 = some r) :
  Calls Tryd.prog 38 #[.int .i64 a0, .int .u64 a1, .int .u64 a2] w fun e w' => e = .returned (.int .u64 r) ∧ Below w.heap.size w w' := by
 have HG := ak hG
 clear hG
 have HB := ak (Below.refl w.heap.size w)
 have H := h
 clear h
 unfold field_Add.f at H
 revert H
 refine bd_ fun t193 A4 H => ?_
 by_cases c5 : t193 = 0
 ·rw [if_pos c5] at H
  have c5b0 := beq_iff_eq.mpr c5
  have c5b1 := bne_eq_false_iff_eq.mpr c5
  clear c5
  obtain rfl := Option.some.inj H
  go_enter Tryd.func38, Tryd.ntmps38
  go_wp2_with (first | (go_at_call 51; (with_reducible refine (field_P.calls a0 t193 _ ?side1 A4.out).mono ?_); (case side1 => exact fU_ HG.out HB.out); rintro e w6 ⟨rfl, hb⟩; refine nx1_ (below_step (bU_ HB.out) hb) ?_; clear HB; intro HB; clear hb))
  repeat (go_quiet (first | (go_at_call 51; (with_reducible refine (field_P.calls a0 t193 _ ?side1 A4.out).mono ?_); (case side1 => exact fU_ HG.out HB.out); rintro e w6 ⟨rfl, hb⟩; refine nx1_ (below_step (bU_ HB.out) hb) ?_; clear HB; intro HB; clear hb)); try go_wp2_with (first | (go_at_call 51; (with_reducible refine (field_P.calls a0 t193 _ ?side1 A4.out).mono ?_); (case side1 => exact fU_ HG.out HB.out); rintro e w6 ⟨rfl, hb⟩; refine nx1_ (below_step (bU_ HB.out) hb) ?_; clear HB; intro HB; clear hb)))
  go_ret
  exact ⟨eW_, bU_ HB.out⟩
 rw [if_neg c5] at H
 have c5b0 := beq_eq_false_iff_ne.mpr c5
 have c5b1 := bne_iff_ne.mpr c5
 by_cases c7 : (IntKind.u64.wrap ((Int.tmod a1 t193) + (Int.tmod a2 t193))) ≥ t193
 ·rw [if_pos c7] at H
  have c7b0 : decide (t193 ≤ (IntKind.u64.wrap ((Int.tmod a1 t193) + (Int.tmod a2 t193)))) = true := decide_eq_true c7
  clear c7
  obtain rfl := Option.some.inj H
  go_enter Tryd.func38, Tryd.ntmps38
  go_wp2_with (first | (go_at_call 51; (with_reducible refine (field_P.calls a0 t193 _ ?side1 A4.out).mono ?_); (case side1 => exact fU_ HG.out HB.out); rintro e w8 ⟨rfl, hb⟩; refine nx1_ (below_step (bU_ HB.out) hb) ?_; clear HB; intro HB; clear hb))
  repeat (go_quiet (first | (go_at_call 51; (with_reducible refine (field_P.calls a0 t193 _ ?side1 A4.out).mono ?_); (case side1 => exact fU_ HG.out HB.out); rintro e w8 ⟨rfl, hb⟩; refine nx1_ (below_step (bU_ HB.out) hb) ?_; clear HB; intro HB; clear hb)); try go_wp2_with (first | (go_at_call 51; (with_reducible refine (field_P.calls a0 t193 _ ?side1 A4.out).mono ?_); (case side1 => exact fU_ HG.out HB.out); rintro e w8 ⟨rfl, hb⟩; refine nx1_ (below_step (bU_ HB.out) hb) ?_; clear HB; intro HB; clear hb)))
  go_ret
  exact ⟨eW_, bU_ HB.out⟩
 rw [if_neg c7] at H
 have c7b0 : decide (t193 ≤ (IntKind.u64.wrap ((Int.tmod a1 t193) + (Int.tmod a2 t193)))) = false := decide_eq_false c7
 clear c7
 obtain rfl := Option.some.inj H
 go_enter Tryd.func38, Tryd.ntmps38
 go_wp2_with (first | (go_at_call 51; (with_reducible refine (field_P.calls a0 t193 _ ?side1 A4.out).mono ?_); (case side1 => exact fU_ HG.out HB.out); rintro e w9 ⟨rfl, hb⟩; refine nx1_ (below_step (bU_ HB.out) hb) ?_; clear HB; intro HB; clear hb))
 repeat (go_quiet (first | (go_at_call 51; (with_reducible refine (field_P.calls a0 t193 _ ?side1 A4.out).mono ?_); (case side1 => exact fU_ HG.out HB.out); rintro e w9 ⟨rfl, hb⟩; refine nx1_ (below_step (bU_ HB.out) hb) ?_; clear HB; intro HB; clear hb)); try go_wp2_with (first | (go_at_call 51; (with_reducible refine (field_P.calls a0 t193 _ ?side1 A4.out).mono ?_); (case side1 => exact fU_ HG.out HB.out); rintro e w9 ⟨rfl, hb⟩; refine nx1_ (below_step (bU_ HB.out) hb) ?_; clear HB; intro HB; clear hb)))
 go_ret
 exact ⟨eW_, bU_ HB.out⟩

def field_Neg.f (a0 : Int) (a1 : Int) : Option (Int) := (field_P.f a0).bind fun t194 => (if t194 = 0 then (some 0) else (if (Int.tmod a1 t194) = 0 then (some 0) else (some (IntKind.u64.wrap (t194 - (Int.tmod a1 t194))))))
set_option maxHeartbeats 8000000 in
set_option maxRecDepth 100000 in
theorem field_Neg.calls (a0 : Int) (a1 : Int) (r : Int) (w : World) (hG : Fld w) (h : field_Neg.f a0 a1 = some r) :
  Calls Tryd.prog 103 #[.int .i64 a0, .int .u64 a1] w fun e w' => e = .returned (.int .u64 r) ∧ Below w.heap.size w w' := by
 have HG := ak hG
 clear hG
 have HB := ak (Below.refl w.heap.size w)
 have H := h
 clear h
 unfold field_Neg.f at H
 revert H
 refine bd_ fun t194 A3 H => ?_
 by_cases c4 : t194 = 0
 ·rw [if_pos c4] at H
  have c4b0 := beq_iff_eq.mpr c4
  have c4b1 := bne_eq_false_iff_eq.mpr c4
  clear c4
  obtain rfl := Option.some.inj H
  go_enter Tryd.func103, Tryd.ntmps103
  go_wp2_with (first | ((with_reducible refine gate_callee (f := 51) rfl ?_); refine gl_ (some 7) Tryd.func51 #[.int .i64 a0] ?_; (with_reducible refine (field_P.calls a0 t194 _ ?side1 A3.out).mono ?_); (case side1 => exact fU_ HG.out HB.out); rintro e w5 ⟨rfl, hb⟩; refine ⟨_, rfl, ?_⟩; refine nx1_ (below_step (bU_ HB.out) hb) ?_; clear HB; intro HB; clear hb))
  go_ret
  exact ⟨eW_, bU_ HB.out⟩
 rw [if_neg c4] at H
 have c4b0 := beq_eq_false_iff_ne.mpr c4
 have c4b1 := bne_iff_ne.mpr c4
 by_cases c6 : (Int.tmod a1 t194) = 0
 ·rw [if_pos c6] at H
  have c6b0 := beq_iff_eq.mpr c6
  have c6b1 := bne_eq_false_iff_eq.mpr c6
  clear c6
  obtain rfl := Option.some.inj H
  go_enter Tryd.func103, Tryd.ntmps103
  go_wp2_with (first | ((with_reducible refine gate_callee (f := 51) rfl ?_); refine gl_ (some 7) Tryd.func51 #[.int .i64 a0] ?_; (with_reducible refine (field_P.calls a0 t194 _ ?side1 A3.out).mono ?_); (case side1 => exact fU_ HG.out HB.out); rintro e w7 ⟨rfl, hb⟩; refine ⟨_, rfl, ?_⟩; refine nx1_ (below_step (bU_ HB.out) hb) ?_; clear HB; intro HB; clear hb))
  go_ret
  exact ⟨eW_, bU_ HB.out⟩
 rw [if_neg c6] at H
 have c6b0 := beq_eq_false_iff_ne.mpr c6
 have c6b1 := bne_iff_ne.mpr c6
 obtain rfl := Option.some.inj H
 go_enter Tryd.func103, Tryd.ntmps103
 go_wp2_with (first | ((with_reducible refine gate_callee (f := 51) rfl ?_); refine gl_ (some 7) Tryd.func51 #[.int .i64 a0] ?_; (with_reducible refine (field_P.calls a0 t194 _ ?side1 A3.out).mono ?_); (case side1 => exact fU_ HG.out HB.out); rintro e w8 ⟨rfl, hb⟩; refine ⟨_, rfl, ?_⟩; refine nx1_ (below_step (bU_ HB.out) hb) ?_; clear HB; intro HB; clear hb))
 go_ret
 exact ⟨eW_, bU_ HB.out⟩

def field_Sub.f (a0 : Int) (a1 : Int) (a2 : Int) : Option (Int) := (field_Neg.f a0 a2).bind fun t195 => ((field_Add.f a0 a1 t195).bind fun t196 => (some t196))
set_option maxHeartbeats 8000000 in
set_option maxRecDepth 100000 in
theorem field_Sub.calls (a0 : Int) (a1 : Int) (a2 : Int) (r : Int) (w : World) (hG : Fld w) (h : field_Sub.f a0 a1 a2 = some r) :
  Calls Tryd.prog 73 #[.int .i64 a0, .int .u64 a1, .int .u64 a2] w fun e w' => e = .returned (.int .u64 r) ∧ Below w.heap.size w w' := by
 have HG := ak hG
 clear hG
 have HB := ak (Below.refl w.heap.size w)
 have H : ((field_Neg.f a0 a2).bind fun t195 => ((field_Add.f a0 a1 t195).bind fun t196 => (some t196))) = some r := h
 clear h
 revert H
 refine bd_ fun t195 A4 H => ?_
 revert H
 refine bd_ fun t196 A5 H => ?_
 obtain rfl := Option.some.inj H
 go_enter Tryd.func73, Tryd.ntmps73
 go_wp2_with (first | ((with_reducible refine gate_callee (f := 103) rfl ?_); refine gl_ (some 11) Tryd.func103 #[.int .i64 a0, .int .u64 a2] ?_; (with_reducible refine (field_Neg.calls a0 a2 t195 _ ?side1 A4.out).mono ?_); (case side1 => exact fU_ HG.out HB.out); rintro e w6 ⟨rfl, hb⟩; refine ⟨_, rfl, ?_⟩; refine nx1_ (below_step (bU_ HB.out) hb) ?_; clear HB; intro HB; clear hb) | ((with_reducible refine gate_callee (f := 38) rfl ?_); refine gl_ (some 12) Tryd.func38 #[.int .i64 a0, .int .u64 a1, .int .u64 t195] ?_; (with_reducible refine (field_Add.calls a0 a1 t195 t196 _ ?side1 A5.out).mono ?_); (case side1 => exact fU_ HG.out HB.out); rintro e w7 ⟨rfl, hb⟩; refine ⟨_, rfl, ?_⟩; refine nx1_ (below_step (bU_ HB.out) hb) ?_; clear HB; intro HB; clear hb))
 go_ret
 exact ⟨eW_, bU_ HB.out⟩

mutual
def transform_butterflies.f : Nat → Int → List Int → Int → Option (List Int)
 | 0, _, _, _ => none
 | k + 1, f, l, w => if l.length = 1 then some l else (field_Mul.f f w w).bind fun sq => (transform_butterflies.f k f (l.take (l.length / 2)) sq).bind fun lo => (transform_butterflies.f k f (l.drop (l.length / 2)) sq).bind fun hi => transform_butterflies.l0 k f w (l.length / 2) lo hi 1 0
def transform_butterflies.l0 : Nat → Int → Int → Nat → List Int → List Int → Int → Nat → Option (List Int)
 | 0, _, _, _, _, _, _, _ => none
 | k + 1, f, w, h, lo, hi, pw, i => if i < h then (field_Mul.f f pw (bco hi i)).bind fun t => (field_Add.f f (bco lo i) t).bind fun a => (field_Sub.f f (bco lo i) t).bind fun b => (field_Mul.f f pw w).bind fun p' => transform_butterflies.l0 k f w h (lo.set i a) (hi.set i b) p' (i + 1) else some (lo ++ hi)
end
theorem bf_len : ∀ k, (∀ f l w r, transform_butterflies.f k f l w = some r → r.length = l.length) ∧ (∀ f w h lo hi pw i r, transform_butterflies.l0 k f w h lo hi pw i = some r → r.length = lo.length + hi.length)
 | 0 => ⟨fun _ _ _ _ h => by simp [transform_butterflies.f] at h, fun _ _ _ _ _ _ _ _ h => by simp [transform_butterflies.l0] at h⟩
 | k + 1 => by
  obtain ⟨ih1, ih2⟩ := bf_len k
  refine ⟨fun f l w r h => ?_, fun f w m lo hi pw i r h => ?_⟩
  ·rw [transform_butterflies.f] at h
   split at h
   ·obtain rfl := Option.some.inj h; rfl
   obtain ⟨sq, _, h⟩ := Option.bind_eq_some_iff.mp h
   obtain ⟨lo, h1, h⟩ := Option.bind_eq_some_iff.mp h
   obtain ⟨hi, h2, h⟩ := Option.bind_eq_some_iff.mp h
   rw [ih2 _ _ _ _ _ _ _ _ h, ih1 _ _ _ _ h1, ih1 _ _ _ _ h2, List.length_take, List.length_drop]
   omega
  rw [transform_butterflies.l0] at h
  split at h
  ·obtain ⟨t, _, h⟩ := Option.bind_eq_some_iff.mp h
   obtain ⟨x, _, h⟩ := Option.bind_eq_some_iff.mp h
   obtain ⟨y, _, h⟩ := Option.bind_eq_some_iff.mp h
   obtain ⟨z, _, h⟩ := Option.bind_eq_some_iff.mp h
   rw [ih2 _ _ _ _ _ _ _ _ h]; simp
  obtain rfl := Option.some.inj h; simp
theorem bf_nil (f w : Int) : ∀ k, transform_butterflies.f k f [] w = none
 | 0 => by simp [transform_butterflies.f]
 | k + 1 => by
  rw [transform_butterflies.f, if_neg (by simp)]
  simp [bf_nil _ _ k]
set_option maxRecDepth 100000 in
set_option maxHeartbeats 4000000 in
theorem transform_butterflies.calls : ∀ (k : Nat) (a0 : Int) (B off n cap : Nat) (l : List Int) (a2 : Int) (r : List Int) (w : World) (_ : Fld w) (_ : NoTab B) (_ : Part w B off l) (_ : l.length = n) (_ : n ≤ cap) (_ : cap ≤ 9223372036854775807) (_ : transform_butterflies.f k a0 l a2 = some r),
  Calls Tryd.prog 94 #[.int .i64 a0, .slice (some ⟨B, off, none⟩) n cap, .int .u64 a2] w fun e w' => e = .returned (.tuple #[]) ∧ Turn B off r w w'
 | 0, a0, B, off, n, cap, l, a2, r, w, hG, hT, hP, hn, hc, hm, h => by simp [transform_butterflies.f] at h
 | k + 1, a0, B, off, n, cap, l, a2, r, w, hG, hT, hP, hn, hc, hm, h => by
  have HG := ak hG
  have HP := ak hP
  have HNT := ak hT
  clear hT
  have HN := ak hn
  clear hP hG
  by_cases c1 : n = 1
  ·have c1b : ((n : Int) == 1) = true := by simp; omega
   obtain rfl : l = r := by
    rw [transform_butterflies.f, if_pos (by omega)] at h
    exact Option.some.inj h
   clear h hn
   go_enter Tryd.func94, Tryd.ntmps94
   go_wp2
   exact bodyPost_ret (v := .tuple #[]) (by simp [results, Tryd.results94, go_sem]) rfl ⟨rfl, Turn.of_below HP.out (Below.refl _ _)⟩
  have c1b : ((n : Int) == 1) = false := by simp; omega
  rw [transform_butterflies.f, if_neg (by omega)] at h
  have hL : 2 ≤ n := by
   rcases Nat.eq_zero_or_pos n with q | q
   ·have : l = [] := List.eq_nil_of_length_eq_zero (by omega)
    subst this
    simp [bf_nil] at h
   omega
  rw [hn] at h
  obtain ⟨sq, hsq, h⟩ := Option.bind_eq_some_iff.mp h
  obtain ⟨lo, hlo, h⟩ := Option.bind_eq_some_iff.mp h
  obtain ⟨hi, hhi, h⟩ := Option.bind_eq_some_iff.mp h
  have n1 : lo.length = n / 2 := by rw [(bf_len k).1 _ _ _ _ hlo, List.length_take]; omega
  have n2 : hi.length = n - n / 2 := by rw [(bf_len k).1 _ _ _ _ hhi, List.length_drop]; omega
  have HSQ := ak hsq
  have HLO := ak hlo
  have HHI := ak hhi
  have HL0 := ak h
  have N1 := ak n1
  have N2 := ak n2
  clear hsq hlo hhi h n1 n2 hn
  have b1 : 0 ≤ (n : Int) / 2 := by omega
  have b2 : (n : Int) / 2 ≤ (cap : Int) := by omega
  have b3 : (n : Int) / 2 ≤ max ((n : Int) / 2) 0 := by omega
  have b4 : (n : Int) / 2 ≤ (n : Int) := by omega
  have b5 : (n : Int) ≤ (cap : Int) := by omega
  have b6 : ¬ n = n / 2 := by omega
  have t1 : ((n : Int) / 2).toNat = n / 2 := by omega
  have q1 : wrap64 ((n : Int) / 2) = (n : Int) / 2 := by unfold wrap64; omega
  go_enter Tryd.func94, Tryd.ntmps94
  go_wp2
  refine start_ (n := 14) (S := fun w' => True) (ds := []) (bv 14 0) (by kernel_rfl) rfl rfl trivial (fun hHeld => ?_)
  have HB := ak (below_drew1 (Below.refl w.heap.size w))
  have HT_ : Aside0 (rtab .any (opsOf Tryd.f94 2) = rtab .any (opsOf Tryd.f94 2)) := ⟨rfl⟩
  refine pq_ 0 17 14 1 HT_.out ?_
  refine pq_ 1 18 14 3 HT_.out ?_
  refine pq_ 2 19 14 7 HT_.out ?_
  refine pq_ 3 20 14 15 HT_.out ?_
  refine pq_ 4 21 14 31 HT_.out ?_
  refine pr_ (i := 5) (N := some 22) (v := .slice (some ⟨B, off, none⟩) (n / 2) (n / 2)) (a' := ?_) (bv 14 63) HT_.out ?_ ?_ ?_; rotate_left 1
  ·intro w'
   go_simp
  ·simp only [Act.put, s1_, s2_, s3_]
   rfl
  refine pq_ 6 23 14 127 HT_.out ?_
  refine pq_ 7 24 14 255 HT_.out ?_
  refine pq_ 8 25 14 511 HT_.out ?_
  refine pq_ 9 26 14 1023 HT_.out ?_
  refine pq_ 10 27 14 2047 HT_.out ?_
  refine pr_ (i := 11) (N := some 28) (v := .slice (some ⟨B, off + n / 2, none⟩) (n - n / 2) (n - n / 2)) (a' := ?_) (bv 14 4095) HT_.out ?_ ?_ ?_; rotate_left 1
  ·intro w'
   go_simp
  ·simp only [Act.put, s1_, s2_, s3_]
   rfl
  refine pq_ 12 7 14 8191 HT_.out ?_
  refine pq_ 13 8 14 16383 HT_.out ?_
  refine done_ (done_of HT_.out (by kernel_rfl)) ?_
  generalize w.drew = w0 at HB ⊢
  go_wp2_with (first | ((with_reducible refine gate_callee (f := 55) rfl ?_); refine gl_ (some 32) Tryd.func55 #[.int .i64 a0, .int .u64 a2, .int .u64 a2] ?_; (with_reducible refine (field_Mul.calls a0 a2 a2 sq _ ?side1 HSQ.out).mono ?_); (case side1 => exact fU_ HG.out HB.out); rintro e w1 ⟨rfl, hb⟩; refine ⟨_, rfl, ?_⟩; refine nx1_ (below_step (bU_ HB.out) hb) ?_; clear HB; intro HB; clear hb; have T0 := ak (Turn.of_below HP.out HB.out)) | ((with_reducible refine gate_callee (f := 94) rfl ?_); refine gl_ (some 36) Tryd.func94 #[.int .i64 a0, .slice (some ⟨B, off, none⟩) (n / 2) (n / 2), .int .u64 sq] ?_; refine (transform_butterflies.calls k a0 B off (n / 2) (n / 2) (l.take (n / 2)) sq lo _ (HG.out.turn T0.out HNT.out) HNT.out (T0.out.now.sub0 (by rw [List.length_take]; omega) (fun i hi => bco_take hi)) (by have := HN.out; rw [List.length_take]; omega) (Nat.le_refl _) (by omega) HLO.out).mono ?_; rintro e w2 ⟨rfl, u1⟩; refine ⟨_, rfl, ?_⟩; have T1 := ak (T0.out.low u1 HN.out N1.out (by omega))) | ((with_reducible refine gate_callee (f := 94) rfl ?_); refine gl_ (some 40) Tryd.func94 #[.int .i64 a0, .slice (some ⟨B, off + n / 2, none⟩) (n - n / 2) (n - n / 2), .int .u64 sq] ?_; refine (transform_butterflies.calls k a0 B (off + n / 2) (n - n / 2) (n - n / 2) (l.drop (n / 2)) sq hi _ (HG.out.turn T1.out HNT.out) HNT.out (T1.out.now.sub (by have := HN.out; have := N1.out; rw [List.length_append, List.length_drop]; omega) (fun _ _ => bco_app N1.out)) (by have := HN.out; rw [List.length_drop]; omega) (Nat.le_refl _) (by omega) HHI.out).mono ?_; rintro e w3 ⟨rfl, u2⟩; refine ⟨_, rfl, ?_⟩; have T2 := ak (T1.out.high u2 HN.out N1.out N2.out)))
  clear T0 T1 u1 u2 HHI HLO HSQ HT_ HP HB
  have H' := HL0
  clear HL0
  go_loopg [10, 43] k (fun kq v10 v43 w' => ∃ (pw : Int) (i : Nat) (lo' hi' : List Int), v10 = .int .u64 pw ∧ v43 = .int .i64 (i : Int) ∧ Aside0 (transform_butterflies.l0 kq a0 a2 (n / 2) lo' hi' pw i = some r) ∧ Aside0 (kq ≤ k) ∧ Aside0 (lo'.length = n / 2 ∧ hi'.length = n - n / 2) ∧ Aside0 (Turn B off (lo' ++ hi') w w'))
  case atStart => exact ⟨1, 0, lo, hi, rfl, rfl, H', ⟨Nat.le_refl _⟩, ⟨N1.out, N2.out⟩, T2⟩
  case round =>
   clear H' T2 N1 N2
   obtain ⟨pw, i, lo', hi', rfl, rfl, HA, HK, HLN, T⟩ := hrel
   cases gk with
   | zero => exact absurd HA.out (by simp [transform_butterflies.l0])
   | succ k1 =>
    have H := HA.out
    clear HA
    rw [transform_butterflies.l0] at H
    by_cases c2 : i < n / 2
    ·rw [if_pos c2] at H
     obtain ⟨t, ht, H⟩ := Option.bind_eq_some_iff.mp H
     obtain ⟨x, hx, H⟩ := Option.bind_eq_some_iff.mp H
     obtain ⟨y, hy, H⟩ := Option.bind_eq_some_iff.mp H
     obtain ⟨z, hz, H⟩ := Option.bind_eq_some_iff.mp H
     have A1 := ak ht
     have A2 := ak hx
     have A3 := ak hy
     have A4 := ak hz
     have H' := ak H
     clear ht hx hy hz H
     have e1 : decide ((i : Int) < (n : Int) / 2) = true := by simp; omega
     have e2 : (i : Int) < ((n - n / 2 : Nat) : Int) := by omega
     have e3 : (i : Int) < (n : Int) / 2 := by omega
     have e4 : (((i : Int) < (n : Int) / 2)) = True := eq_true e3
     have hc1 : wr.cell? ⟨B, off + n / 2 + i, none⟩ = some (.int .u64 (bco hi' i)) := by
      have := T.out.now.cell (i := n / 2 + i) (by have := HLN.out; simp; omega)
      rw [← Nat.add_assoc, ← bco_right HLN.out.1] at this
      exact this
     go_wp2_with ((with_reducible refine gate_callee (f := 55) rfl ?_); refine gl_ (some 52) Tryd.func55 #[.int .i64 a0, .int .u64 pw, .int .u64 (bco hi' i)] ?_; (with_reducible refine (field_Mul.calls a0 pw (bco hi' i) t _ ?side1 A1.out).mono ?_); (case side1 => exact HG.out.turn T.out HNT.out); rintro e w5 ⟨rfl, hb⟩; refine ⟨_, rfl, ?_⟩; refine nx1_ (T.out.below hb) ?_; clear T; intro T; clear hb hc1)
     refine start_ (n := 22) (S := fun w' => w'.cell? ⟨B, off + i, none⟩ = some (.int .u64 (bco lo' i))) (ds := [19, 21]) (bv 22 0) (by kernel_rfl) rfl rfl (low_cell (T.out.below (below_drew1 (Below.refl _ _))) HLN.out.1 c2) (fun hHeld => ?_)
     have HT_ : Aside0 (rtab .any (opsOf Tryd.f94 11) = rtab .any (opsOf Tryd.f94 11)) := ⟨rfl⟩
     have T' := ak (T.out.below (below_drew1 (Below.refl _ _)))
     clear T
     have T := T'
     clear T'
     generalize w5.drew = w6 at T hHeld ⊢
     refine pq_ 0 53 22 1 HT_.out ?_
     refine pq_ 1 54 22 3 HT_.out ?_
     refine pq_ 2 55 22 7 HT_.out ?_
     refine pq_ 3 56 22 15 HT_.out ?_
     refine pq_ 4 57 22 31 HT_.out ?_
     refine pq_ 5 58 22 63 HT_.out ?_
     refine pq_ 6 59 22 127 HT_.out ?_
     refine pq_ 7 60 22 255 HT_.out ?_
     refine take_ (i := 8) (N := some 61) (v := ?_) (a' := ?_) (bv 22 511) rfl rfl (take_of HT_.out (by kernel_rfl)) (fun _ _ _ h => h) (Or.inl ⟨by rfl, ?_⟩) hHeld ?_ ?_
     rotate_left
     ·intro w' s0
      go_simp
      with_reducible rfl
     rotate_left
     ·simp only [Act.put, s1_, s2_, s3_, i64_w, i32_w]
      rfl
     refine pq_ 9 62 22 1023 HT_.out ?_
     refine pq_ 11 64 22 3071 HT_.out ?_
     refine pq_ 12 65 22 7167 HT_.out ?_
     refine pq_ 13 66 22 15359 HT_.out ?_
     refine pq_ 14 67 22 31743 HT_.out ?_
     refine take_ (i := 15) (N := some 68) (v := ?_) (a' := ?_) (bv 22 64511) rfl rfl (take_of HT_.out (by kernel_rfl)) (fun _ _ _ h => h) (Or.inl ⟨by rfl, ?_⟩) hHeld ?_ ?_
     rotate_left
     ·intro w' s0
      go_simp
      with_reducible rfl
     rotate_left
     ·simp only [Act.put, s1_, s2_, s3_, i64_w, i32_w]
      rfl
     refine pq_ 16 69 22 130047 HT_.out ?_
     refine oq_ 10 63 22 131071 HT_.out fun K hK => ?_
     refine gs_ Tryd.func38 #[.int .i64 a0, .int .u64 (bco lo' i), .int .u64 t] ?_
     with_reducible refine (field_Add.calls a0 (bco lo' i) t x _ ?side1 A2.out).mono ?_
     (case side1 => exact HG.out.turn T.out HNT.out)
     rintro e w5 ⟨rfl, hb⟩
     refine ⟨_, rfl, ?_⟩
     refine nx1_ (T.out.below hb) ?_
     clear T
     intro T
     clear hb
     refine hK.out _ _ (low_cell T.out HLN.out.1 c2) (fun hHeld => ?_)
     clear hK K
     refine norm_ (a' := ?_) ?_ ?_
     rotate_left
     ·show Act.put _ (some 63) _ = _
      simp only [Act.put, s1_, s2_, s3_, i64_w, i32_w]
      rfl
     refine oq_ 17 70 22 262143 HT_.out fun K hK => ?_
     refine gs_ Tryd.func73 #[.int .i64 a0, .int .u64 (bco lo' i), .int .u64 t] ?_
     with_reducible refine (field_Sub.calls a0 (bco lo' i) t y _ ?side1 A3.out).mono ?_
     (case side1 => exact HG.out.turn T.out HNT.out)
     rintro e w5 ⟨rfl, hb⟩
     refine ⟨_, rfl, ?_⟩
     refine nx1_ (T.out.below hb) ?_
     clear T
     intro T
     clear hb
     refine hK.out _ _ (low_cell T.out HLN.out.1 c2) (fun hHeld => ?_)
     clear hK K
     refine norm_ (a' := ?_) ?_ ?_
     rotate_left
     ·show Act.put _ (some 70) _ = _
      simp only [Act.put, s1_, s2_, s3_, i64_w, i32_w]
      rfl
     refine pq_ 18 71 22 524287 HT_.out ?_
     have cz := high_cell T.out HLN.out.1 (show i < hi'.length by have := HLN.out; omega)
     have fz := T.out.now.frozen (off + i)
     refine last_ (i := 19) (N := none) (bv 22 1048575) rfl rfl (one_of HT_.out (by kernel_rfl)) (by decide) (fun K hK => ?_)
     refine skip_ (w1 := ?_) (by rfl) rfl ?_ ?_
     rotate_left
     ·go_simp
      rfl
     refine hK.out _ _ ?_
     clear hK K fz
     have T' := ak (T.out.put (i := i) (by have := HLN.out; rw [List.length_append]; omega) x)
     clear T
     have T := T'
     clear T'
     refine pq_ 20 72 22 2097151 HT_.out ?_
     have fz := T.out.now.frozen (off + n / 2 + i)
     refine last_ (i := 21) (N := none) (bv 22 4194303) rfl rfl (one_of HT_.out (by kernel_rfl)) (by decide) (fun K hK => ?_)
     refine skip_ (w1 := ?_) (by rfl) rfl ?_ ?_
     rotate_left
     ·go_simp
      rfl
     refine hK.out _ _ ?_
     clear hK K fz
     have T' := ak (T.out.put2 (i := i) (m := n / 2) (by have := HLN.out; rw [List.length_set, List.length_append]; omega) y)
     clear T
     have T := T'
     clear T'
     refine done_ (done_of HT_.out (by kernel_rfl)) ?_
     go_wp2_with ((with_reducible refine gate_callee (f := 55) rfl ?_); refine gl_ (some 76) Tryd.func55 #[.int .i64 a0, .int .u64 pw, .int .u64 a2] ?_; (with_reducible refine (field_Mul.calls a0 pw a2 z _ ?side1 A4.out).mono ?_); (case side1 => exact HG.out.turn T.out HNT.out); rintro e w7 ⟨rfl, hb⟩; refine ⟨_, rfl, ?_⟩; refine nx1_ (T.out.below hb) ?_; clear T; intro T; clear hb)
     go_roundg k1
     case measure => have := HK.out; omega
     case rel => exact ⟨z, i + 1, lo'.set i x, hi'.set i y, rfl, by simp, H', ⟨by have := HK.out; omega⟩, ⟨by have := HLN.out; simp; omega⟩, ⟨by rw [← set_two HLN.out.1 c2]; exact T.out⟩⟩
    rw [if_neg c2] at H
    obtain rfl := Option.some.inj H
    have e1 : decide ((i : Int) < (n : Int) / 2) = false := by simp; omega
    go_wp2
    go_end0
    exact ⟨rfl, T.out⟩
theorem transform_butterflies.mono_l : ∀ k, (∀ f l w, LeO (transform_butterflies.f k f l w) (transform_butterflies.f (k + 1) f l w)) ∧ (∀ f w h lo hi pw i, LeO (transform_butterflies.l0 k f w h lo hi pw i) (transform_butterflies.l0 (k + 1) f w h lo hi pw i))
 | 0 => ⟨fun _ _ _ r h => by simp [transform_butterflies.f] at h, fun _ _ _ _ _ _ _ r h => by simp [transform_butterflies.l0] at h⟩
 | k + 1 => by
  obtain ⟨ih1, ih2⟩ := transform_butterflies.mono_l k
  refine ⟨fun f l w => ?_, fun f w h lo hi pw i => ?_⟩
  ·rw [transform_butterflies.f, transform_butterflies.f]
   exact LeO.ite (LeO.refl _) (LeO.bind (LeO.refl _) fun _ => LeO.bind (ih1 _ _ _) fun _ => LeO.bind (ih1 _ _ _) fun _ => ih2 _ _ _ _ _ _ _)
  rw [transform_butterflies.l0, transform_butterflies.l0]
  exact LeO.ite (LeO.bind (LeO.refl _) fun _ => LeO.bind (LeO.refl _) fun _ => LeO.bind (LeO.refl _) fun _ => LeO.bind (LeO.refl _) fun _ => ih2 _ _ _ _ _ _ _) (LeO.refl _)
theorem transform_butterflies.mono : ∀ a0 l a2 k, LeO (transform_butterflies.f k a0 l a2) (transform_butterflies.f (k + 1) a0 l a2) := fun a0 l a2 k => (transform_butterflies.mono_l k).1 a0 l a2
theorem transform_butterflies.callsR (k : Nat) (a0 : Int) (e base : Nat) (ok : Nat → Prop) (v0 : Value) (l : List Int) (a2 : Int) (r : List Int) (w : World) (hG : Fld w) (hT : ∀ B, base ≤ B → NoTab B) (ho : Kd.R (Kd.int .u64) e w base ok v0 l) (h : transform_butterflies.f k a0 l a2 = some r) :
  Calls Tryd.prog 94 #[.int .i64 a0, v0, .int .u64 a2] w fun e' w' => e' = .returned (.tuple #[]) ∧ Kd.R (Kd.int .u64) e w' base ok v0 r ∧ Below base w w' := by
 have hp : 0 < l.length := by
  rcases Nat.eq_zero_or_pos l.length with q | q
  ·have : l = [] := List.eq_nil_of_length_eq_zero q
   subst this
   rw [bf_nil] at h; simp at h
  exact q
 obtain ⟨B, c, rfl, hb, _, _⟩ := Kd.R_form ho hp
 obtain ⟨p1, p2, p3, p4, _⟩ := R_part ho
 have hl := (bf_len k).1 _ _ _ _ h
 refine (transform_butterflies.calls k a0 B 0 l.length c l a2 r w hG (hT B hb) p1 rfl p3 ?_ h).mono ?_
 ·exact p4
 rintro e' w' ⟨rfl, T⟩
 exact ⟨rfl, R_turn ho T hl, T.belowB hb⟩

def transform_Values.f (k : Nat) (a0 : Int) (a1 : Int) (a2 : Int) (l3 : List Int) : Option (List Int × Int) := (field_Reduce.f a0 a2).bind fun t197 => (if t197 = 0 then (some (([] : List Int), 1)) else (if a1 < 0 then (some (([] : List Int), 2)) else ((transform_greatest.f a0).bind fun t198 => (if a1 > t198 then (some (([] : List Int), 2)) else ((poly_Shift.f k a0 l3 a2).bind fun t199 => (if 0 ≤ a1 then (if (t199.length : Int) > (shl .i64 1 a1) then (some (([] : List Int), 3)) else (if 0 ≤ (shl .i64 1 a1) then (if (shl .i64 1 a1 : Int).toNat ≤ 35184372088832 then ((transform_reordered.f k a0 (cpyAt (List.replicate (shl .i64 1 a1 : Int).toNat 0) 0 t199)).bind fun t207 => ((field_Root.f k a0 a1).bind fun t210 => ((transform_butterflies.f k a0 t207 t210).bind fun t207 => (some (t207, 0))))) else (none)) else (none))) else (none)))))))
theorem transform_Values.mono : ∀ a0 a1 a2 a3 k, LeO (transform_Values.f k a0 a1 a2 a3) (transform_Values.f (k + 1) a0 a1 a2 a3) := by
 intro a0 a1 a2 a3 k
 unfold transform_Values.f
 with_reducible repeat' first | apply field_Root.mono | apply poly_Shift.mono | apply transform_butterflies.mono | apply transform_reordered.mono | exact LeO.refl _ | exact LeO.none _ | refine LeO.ite ?_ ?_ | refine LeO.bind ?_ (fun _ => ?_)
set_option maxHeartbeats 8000000 in
set_option maxRecDepth 100000 in
theorem transform_Values.calls (k : Nat) (a0 : Int) (a1 : Int) (a2 : Int) (A3 : Option Addr) (c3 : Nat) (l3 : List Int) (r1 : List Int) (r2 : Int) (w : World) (hG : Fld w) (hr3 : Kd.C (Kd.int .u64) w A3 l3.length l3) (hc3 : l3.length ≤ c3) (h : transform_Values.f k a0 a1 a2 l3 = some (r1, r2)) :
  Calls Tryd.prog 64 #[.int .i64 a0, .int .i64 a1, .int .u64 a2, .slice A3 l3.length c3] w fun e w' => ∃ v0_ : Value, e = .returned (.tuple #[v0_, .int .i64 r2]) ∧ Kd.R (Kd.int .u64) 22 w' w.heap.size (fun _ => True) v0_ r1 ∧ Below w.heap.size w w' := by
 have HG := ak hG
 clear hG
 have HR3 := ak hr3
 have HC3 := ak hc3
 clear hr3 hc3
 have HB := ak (Below.refl w.heap.size w)
 have H := h
 clear h
 unfold transform_Values.f at H
 revert H
 refine bd_ fun t197 A5 H => ?_
 by_cases c6 : t197 = 0
 ·rw [if_pos c6] at H
  have c6b0 := beq_iff_eq.mpr c6
  have c6b1 := bne_eq_false_iff_eq.mpr c6
  clear c6
  simp only [Option.some.injEq, Prod.mk.injEq] at H
  obtain ⟨rfl, rfl⟩ := H
  go_enter Tryd.func64, Tryd.ntmps64
  go_wp2_with (first | ((with_reducible refine gate_callee (f := 65) rfl ?_); refine gl_ (some 15) Tryd.func65 #[.int .i64 a0, .int .u64 a2] ?_; (with_reducible refine (field_Reduce.calls a0 a2 t197 _ ?side1 A5.out).mono ?_); (case side1 => exact fU_ HG.out HB.out); rintro e w7 ⟨rfl, hb⟩; refine ⟨_, rfl, ?_⟩; refine nx1_ (below_step (bU_ HB.out) hb) ?_; clear HB; intro HB; clear hb))
  go_ret2
  exact ⟨_, eW_, by first | exact Kd.R_nil _ _ _ _ _ | exact Kd.N_nil _ _ _ _ _ | exact Kd.V_nil _ _ _ _ _ | exact Kd.Q_nil _ _ _ _ _ | exact Kd.S_nil _ _ _ _ _, bU_ HB.out⟩
 rw [if_neg c6] at H
 have c6b0 := beq_eq_false_iff_ne.mpr c6
 have c6b1 := bne_iff_ne.mpr c6
 by_cases c8 : a1 < 0
 ·rw [if_pos c8] at H
  have c8b0 := decide_eq_true c8
  clear c8
  simp only [Option.some.injEq, Prod.mk.injEq] at H
  obtain ⟨rfl, rfl⟩ := H
  go_enter Tryd.func64, Tryd.ntmps64
  go_wp2_with (first | ((with_reducible refine gate_callee (f := 65) rfl ?_); refine gl_ (some 15) Tryd.func65 #[.int .i64 a0, .int .u64 a2] ?_; (with_reducible refine (field_Reduce.calls a0 a2 t197 _ ?side1 A5.out).mono ?_); (case side1 => exact fU_ HG.out HB.out); rintro e w9 ⟨rfl, hb⟩; refine ⟨_, rfl, ?_⟩; refine nx1_ (below_step (bU_ HB.out) hb) ?_; clear HB; intro HB; clear hb))
  go_ret2
  exact ⟨_, eW_, by first | exact Kd.R_nil _ _ _ _ _ | exact Kd.N_nil _ _ _ _ _ | exact Kd.V_nil _ _ _ _ _ | exact Kd.Q_nil _ _ _ _ _ | exact Kd.S_nil _ _ _ _ _, bU_ HB.out⟩
 rw [if_neg c8] at H
 have c8b0 := decide_eq_false c8
 clear c8
 revert H
 refine bd_ fun t198 A10 H => ?_
 by_cases c11 : a1 > t198
 ·rw [if_pos c11] at H
  have c11b0 : decide (t198 < a1) = true := decide_eq_true c11
  clear c11
  simp only [Option.some.injEq, Prod.mk.injEq] at H
  obtain ⟨rfl, rfl⟩ := H
  go_enter Tryd.func64, Tryd.ntmps64
  go_wp2_with (first | ((with_reducible refine gate_callee (f := 65) rfl ?_); refine gl_ (some 15) Tryd.func65 #[.int .i64 a0, .int .u64 a2] ?_; (with_reducible refine (field_Reduce.calls a0 a2 t197 _ ?side1 A5.out).mono ?_); (case side1 => exact fU_ HG.out HB.out); rintro e w12 ⟨rfl, hb⟩; refine ⟨_, rfl, ?_⟩; refine nx1_ (below_step (bU_ HB.out) hb) ?_; clear HB; intro HB; clear hb) | (go_at_call 84; (with_reducible refine (transform_greatest.calls a0 t198 _ ?side1 A10.out).mono ?_); (case side1 => exact fU_ HG.out HB.out); rintro e w13 ⟨rfl, hb⟩; refine nx1_ (below_step (bU_ HB.out) hb) ?_; clear HB; intro HB; clear hb))
  go_ret2
  exact ⟨_, eW_, by first | exact Kd.R_nil _ _ _ _ _ | exact Kd.N_nil _ _ _ _ _ | exact Kd.V_nil _ _ _ _ _ | exact Kd.Q_nil _ _ _ _ _ | exact Kd.S_nil _ _ _ _ _, bU_ HB.out⟩
 rw [if_neg c11] at H
 have c11b0 : decide (t198 < a1) = false := decide_eq_false c11
 clear c11
 revert H
 refine bd_ fun t199 A14 H => ?_
 obtain ⟨c15, H⟩ : (0 ≤ a1) ∧ _ := it_ H
 have c15b0 := eq_true c15
 have c15b1 := decide_eq_true c15
 clear c15
 obtain ⟨ji16, hji16⟩ : ∃ j_ : Int, (shl .i64 1 a1) = j_ := ⟨_, rfl⟩
 first | rw [hji16] at H | simp only [hji16] at H
 (try rw [hji16] at A5)
 (try rw [hji16] at A10)
 (try rw [hji16] at A14)
 have hji16_ : (IntKind.i64.wrap (1 * 2 ^ min a1.toNat 64)) = ji16 := hji16
 have hji16z : a1 ≤ 64 → (IntKind.i64.wrap (1 * 2 ^ a1.toNat)) = ji16 := shl_small hji16
 have hji16u : (IntKind.i64.wrap (2 ^ min a1.toNat 64)) = ji16 := by have h_ := hji16_; rw [Int.one_mul] at h_; exact h_
 have hji16v : a1 ≤ 64 → (IntKind.i64.wrap (2 ^ a1.toNat)) = ji16 := fun hle_ => by have h_ := hji16z hle_; rw [Int.one_mul] at h_; exact h_
 have hji16y : (wrap64 (1 * 2 ^ min a1.toNat 64)) = ji16 := (i64_w _).symm.trans hji16_
 have hji16x : a1 ≤ 64 → (wrap64 (1 * 2 ^ a1.toNat)) = ji16 := fun h_ => (i64_w _).symm.trans (hji16z h_)
 by_cases c17 : (t199.length : Int) > (ji16)
 ·rw [if_pos c17] at H
  have c17b0 : decide ((ji16) < (t199.length : Int)) = true := decide_eq_true c17
  clear c17
  simp only [Option.some.injEq, Prod.mk.injEq] at H
  obtain ⟨rfl, rfl⟩ := H
  go_enter Tryd.func64, Tryd.ntmps64
  go_wp2_with (first | ((with_reducible refine gate_callee (f := 65) rfl ?_); refine gl_ (some 15) Tryd.func65 #[.int .i64 a0, .int .u64 a2] ?_; (with_reducible refine (field_Reduce.calls a0 a2 t197 _ ?side1 A5.out).mono ?_); (case side1 => exact fU_ HG.out HB.out); rintro e w18 ⟨rfl, hb⟩; refine ⟨_, rfl, ?_⟩; refine nx1_ (below_step (bU_ HB.out) hb) ?_; clear HB; intro HB; clear hb) | (go_at_call 84; (with_reducible refine (transform_greatest.calls a0 t198 _ ?side1 A10.out).mono ?_); (case side1 => exact fU_ HG.out HB.out); rintro e w19 ⟨rfl, hb⟩; refine nx1_ (below_step (bU_ HB.out) hb) ?_; clear HB; intro HB; clear hb) | ((with_reducible refine gate_callee (f := 92) rfl ?_); refine gl_ (some 29) Tryd.func92 #[.int .i64 a0, .slice A3 l3.length c3, .int .u64 a2] ?_; (with_reducible refine (poly_Shift.calls k a0 _ _ l3 a2 t199 _ ?side1 ?side2 ?side3 A14.out).mono ?_); (case side1 => exact fU_ HG.out HB.out); (case side2 => exact cU_ (C_below HR3.out HB.out)); (case side3 => exact HC3.out); rintro e w20 ⟨v200, rfl, ho0, hb⟩; refine ⟨_, rfl, ?_⟩; refine nx2_ (R_lower ho0 (below_size (bU_ HB.out))) (below_step (bU_ HB.out) hb) ?_; clear HB; intro HO201 HB; clear hb ho0; obtain ⟨Ao21, co21, eo21⟩ := R_slice HO201.out; subst eo21))
  go_ret2
  exact ⟨_, by first | rfl | (simp [errW_none, errW_some] <;> rfl) | (simp only [← hji16]; first | rfl | (simp [errW_none, errW_some] <;> rfl)) | (simp [*, errW_none, errW_some] <;> rfl), by first | exact Kd.R_nil _ _ _ _ _ | exact Kd.N_nil _ _ _ _ _ | exact Kd.V_nil _ _ _ _ _ | exact Kd.Q_nil _ _ _ _ _ | exact Kd.S_nil _ _ _ _ _, bU_ HB.out⟩
 rw [if_neg c17] at H
 have c17b0 : decide ((ji16) < (t199.length : Int)) = false := decide_eq_false c17
 clear c17
 have c22b0 := eq_true (od_ : 0 ≤ a1)
 obtain ⟨c24, H⟩ : (0 ≤ (ji16)) ∧ _ := it_ H
 have c24b0 := eq_true c24
 have c24b1 := decide_eq_true c24
 clear c24
 obtain ⟨c25, H⟩ : ((ji16 : Int).toNat ≤ 35184372088832) ∧ _ := it_ H
 have c25b0 := eq_true c25
 have c25b1 := decide_eq_true c25
 clear c25
 obtain ⟨y202, hy202⟩ : ∃ y_ : List Int, y_ = (List.replicate (ji16 : Int).toNat 0) := ⟨_, rfl⟩
 first | rw [Option.bind_some, ← hy202] at H | rw [← hy202] at H
 have Ny202 := ak hy202
 clear hy202
 obtain ⟨y205, hy205⟩ : ∃ y_ : List Int, y_ = (cpyAt y202 0 t199) := ⟨_, rfl⟩
 first | rw [Option.bind_some, ← hy205] at H | rw [← hy205] at H
 have Ny205 := ak hy205
 clear hy205
 revert H
 refine bd_ fun t207 A26 H => ?_
 revert H
 refine bd_ fun t210 A27 H => ?_
 revert H
 refine bd_ fun t207n A28 H => ?_
 simp only [Option.some.injEq, Prod.mk.injEq] at H
 obtain ⟨rfl, rfl⟩ := H
 go_enter Tryd.func64, Tryd.ntmps64
 go_wp2_with (first | ((with_reducible refine gate_callee (f := 65) rfl ?_); refine gl_ (some 15) Tryd.func65 #[.int .i64 a0, .int .u64 a2] ?_; (with_reducible refine (field_Reduce.calls a0 a2 t197 _ ?side1 A5.out).mono ?_); (case side1 => exact fU_ HG.out HB.out); rintro e w29 ⟨rfl, hb⟩; refine ⟨_, rfl, ?_⟩; refine nx1_ (below_step (bU_ HB.out) hb) ?_; clear HB; intro HB; clear hb) | (go_at_call 84; (with_reducible refine (transform_greatest.calls a0 t198 _ ?side1 A10.out).mono ?_); (case side1 => exact fU_ HG.out HB.out); rintro e w30 ⟨rfl, hb⟩; refine nx1_ (below_step (bU_ HB.out) hb) ?_; clear HB; intro HB; clear hb) | ((with_reducible refine gate_callee (f := 92) rfl ?_); refine gl_ (some 29) Tryd.func92 #[.int .i64 a0, .slice A3 l3.length c3, .int .u64 a2] ?_; (with_reducible refine (poly_Shift.calls k a0 _ _ l3 a2 t199 _ ?side1 ?side2 ?side3 A14.out).mono ?_); (case side1 => exact fU_ HG.out HB.out); (case side2 => exact cU_ (C_below HR3.out HB.out)); (case side3 => exact HC3.out); rintro e w31 ⟨v200, rfl, ho0, hb⟩; refine ⟨_, rfl, ?_⟩; refine nx2_ (R_lower ho0 (below_size (bU_ HB.out))) (below_step (bU_ HB.out) hb) ?_; clear HB; intro HO201 HB; clear hb ho0; obtain ⟨Ao32, co32, eo32⟩ := R_slice HO201.out; subst eo32) | ((with_reducible refine gate_dst (N := 37) rfl ?_); refine R_make (Kd.int .u64) _ 22 rfl (N := 37) rfl 33 _ _ rfl ji16 ?hx ?hy Tryd.underlying33 (.int .u64 0) 8 info22 rfl (by decide) (by omega) 0 (ok := fun _ => True) (okp := fun _ => True) rfl (fun _ hk => hk) trivial od_ (Nat.le_trans (Nat.mul_le_mul_right _ (od_ : ji16.toNat ≤ 35184372088832)) (by omega)) (Below.refl _ _) (Nat.le_refl _) ?_; (case hx => first | rfl | (simp only [hji16]; rfl)); (case hy => first | rfl | (simp only [hji16]; rfl)); intro v203 w33 ho34 hb hg_ hnew_; clear hg_ hnew_; (first | rw [← Ny202.out] at ho34 | (simp only [Int.reduceToNat] at ho34; rw [← Ny202.out] at ho34)); refine nx3_ (R_elder' (rU_ HO201.out) (R_base ho34) hb) (R_lower (R_new' ho34 (R_lt (rU_ HO201.out))) (below_size (bU_ HB.out))) (below_step (bU_ HB.out) hb) ?_; clear HO201 HB; intro HO201 HO204 HB; clear hb ho34; obtain ⟨Ao36, co36, eo36⟩ := R_slice HO204.out; subst eo36) | ((with_reducible refine gate_builtin (b := .copy) (xs := #[.tmp 38, .tmp 39]) rfl ?_); skip; refine copy_own_ .u64 (w0 := w) w.heap.size rfl (.tmp 38) (.tmp 39) 33 33 22 rfl Tryd.underlying33 (show (Tryd.prog.info? 22).map (·.size) = some 1 by kernel_rfl) (.slice Ao36 y202.length co36) y202 t199 _ _ _ (fun k_ => some k_ ≠ (.slice Ao32 t199.length co32 : Value).ownBlock) rfl rfl ?aO ?aR (fun _ _ h => h) ?aF ?aB ?aS ?_; (case aR => exact cU_ ((R_reads' HO201.out).2.2)); (case aB => exact (bU_ HB.out)); (case aF => exact (fun k_ hk => fresh' (R_lt (rU_ HO201.out)) k_ hk)); (case aO => exact (R_mono (rU_ HO204.out) (fun _ hk => hk.2))); (case aS => exact (below_size (bU_ HB.out))); intro w35 ho hb hg hat; rw [← Ny205.out] at ho; refine nx3_ (Kd.R_after (ok := (fun _ => True)) (rU_ HO201.out) hg (hat.imp_right False.elim)) (hb) (ho) ?_; clear HO201 HB HO204; intro HO201 HB HO206; clear ho hb hg hat) | ((with_reducible refine gate_callee (f := 93) rfl ?_); refine goesL_ (some 43) rfl rfl Tryd.func93 (by kernel_rfl) rfl #[.int .i64 a0, .slice Ao36 y205.length co36] rfl (by (try simp only [List.map_toArray, List.map_cons, List.map_nil]); first | done | (rw [show y205.length = y202.length from (R_reads' HO206.out).1.symm] <;> rfl) | rfl | (simp only [List.length_drop, List.length_take]; rfl)) ?_; (with_reducible refine (transform_reordered.calls k a0 _ _ y205 t207 _ ?side1 ?side2 ?side3 A26.out).mono ?_); (case side1 => exact fU_ HG.out HB.out); (case side2 => exact cU_ ((R_reads' HO206.out).2.2)); (case side3 => rw [show y205.length = y202.length from (R_reads' HO206.out).1.symm]; exact (R_reads' HO206.out).2.1); rintro e w37 ⟨v208, rfl, ho0, hb⟩; refine ⟨_, rfl, ?_⟩; refine nx4_ (R_elder' (rU_ HO201.out) (R_base ho0) hb) (R_elder' (rU_ HO206.out) (R_base ho0) hb) (R_lower (R_new' (R_new' ho0 (R_lt (rU_ HO201.out))) (R_lt (rU_ HO206.out))) (below_size (bU_ HB.out))) (below_step (bU_ HB.out) hb) ?_; clear HO201 HO206 HB; intro HO201 HO206 HO209 HB; clear hb ho0) | ((with_reducible refine gate_callee (f := 56) rfl ?_); refine gl_ (some 48) Tryd.func56 #[.int .i64 a0, .int .i64 a1] ?_; (with_reducible refine (field_Root.calls k a0 a1 t210 _ ?side1 A27.out).mono ?_); (case side1 => exact fU_ HG.out HB.out); rintro e w38 ⟨rfl, hb⟩; refine ⟨_, rfl, ?_⟩; refine nx4_ (R_below (rU_ HO201.out) hb) (R_below (rU_ HO206.out) hb) (R_below (rU_ HO209.out) hb) (below_step (bU_ HB.out) hb) ?_; clear HO201 HO206 HO209 HB; intro HO201 HO206 HO209 HB; clear hb) | ((with_reducible refine gate_callee (f := 94) rfl ?_); refine gl_ (some 49) Tryd.func94 #[.int .i64 a0, v208, .int .u64 t210] ?_; (refine (transform_butterflies.callsR k a0 _ _ _ _ t207 t210 t207n _ ?side1 ?side2 (rU_ HO209.out) A28.out).mono ?_); (case side1 => exact fU_ HG.out HB.out); (case side2 => exact HG.out.notab); rintro e w40 ⟨rfl, ho0, hb⟩; refine ⟨_, rfl, ?_⟩; have n0_ := ak ho0; have n1_ := ak ((bU_ HB.out).trans hb); clear HO209; clear HB; clear HO201; clear HO206; have HO209 := n0_; have HB := n1_; clear n0_ n1_ ho0 hb; obtain ⟨Ao39, co39, eo39⟩ := R_slice HO209.out; subst eo39))
 go_ret2
 exact ⟨_, by first | rfl | (simp [errW_none, errW_some] <;> rfl) | (simp only [← hji16]; first | rfl | (simp [errW_none, errW_some] <;> rfl)) | (simp [*, errW_none, errW_some] <;> rfl), R_mono (rU_ HO209.out) (fun _ hk => trivial), bU_ HB.out⟩

def transform_exponent.j0 : Nat → Int → Int → Bool → Option (Int × Bool)
 | 0, _, _, _ => none
 | k + 1, x0, x1, x15 => if x15 = true then (some (0, false)) else ((bits_TrailingZeros.f (IntKind.u64.wrap (x1))).bind fun t211 => ((transform_greatest.f x0).bind fun t212 => (some (t211, decide (t211 ≤ t212)))))
def transform_exponent.f (k : Nat) (a0 : Int) (a1 : Int) : Option (Int × Bool) := if a1 < 1 then (transform_exponent.j0 k a0 a1 true) else (transform_exponent.j0 k a0 a1 ((Go.bits .and .i64 a1 (wrap64 (a1 - 1))) != 0))
theorem transform_exponent.mono_l : ∀ k, (∀ y0 y1 y2, LeO (transform_exponent.j0 k y0 y1 y2) (transform_exponent.j0 (k + 1) y0 y1 y2))
 | 0 => fun _ _ _ r h => by simp [transform_exponent.j0] at h
 | k + 1 => by
  have ih0 := transform_exponent.mono_l k
  ·intro y0 y1 y2
   unfold transform_exponent.j0
   with_reducible repeat' first | apply ih0 | exact LeO.refl _ | exact LeO.none _ | refine LeO.ite ?_ ?_ | refine LeO.bind ?_ (fun _ => ?_)
theorem transform_exponent.mono : ∀ a0 a1 k, LeO (transform_exponent.f k a0 a1) (transform_exponent.f (k + 1) a0 a1) := by
 intro a0 a1 k
 have ih0 := transform_exponent.mono_l k
 unfold transform_exponent.f
 with_reducible repeat' first | apply ih0 | exact LeO.refl _ | exact LeO.none _ | refine LeO.ite ?_ ?_ | refine LeO.bind ?_ (fun _ => ?_)
set_option maxHeartbeats 8000000 in
set_option maxRecDepth 100000 in
theorem transform_exponent.calls (k : Nat) (a0 : Int) (a1 : Int) (r1 : Int) (r2 : Bool) (w : World) (hG : Fld w) (h : transform_exponent.f k a0 a1 = some (r1, r2)) :
  Calls Tryd.prog 83 #[.int .i64 a0, .int .i64 a1] w fun e w' => e = .returned (.tuple #[.int .i64 r1, .bool r2]) ∧ Below w.heap.size w w' := by
 have HG := ak hG
 clear hG
 have HB := ak (Below.refl w.heap.size w)
 have H := h
 clear h
 unfold transform_exponent.f at H
 have HC3 := ak H
 clear H
 go_enter Tryd.func83, Tryd.ntmps83
 go_upto_region 1 with (fail)
 go_cut [15] (fun v15 wc => ∃ (kq : Nat) (x15_2 : Bool), v15 = .bool x15_2 ∧ Aside0 (transform_exponent.j0 kq a0 a1 x15_2 = some (r1, r2)) ∧ Aside0 (kq ≤ k) ∧ Aside0 (Below w.heap.size w wc))
 case first =>
  have H := HC3.out
  clear HC3
  by_cases c4 : a1 < 1
  ·rw [if_pos c4] at H
   have c4b0 := decide_eq_true c4
   clear c4
   (first | rw [c4b0] | (simp only [i64_w, i32_w]; rw [c4b0]) | rw [c4b1] | skip)
   have H' := ak H
   clear H
   go_wp2
   go_meet
   case rel => exact ⟨_, (true), gb_, H', ⟨by first | omega | exact Nat.le_refl _⟩, ⟨bU_ HB.out⟩⟩
  rw [if_neg c4] at H
  have c4b0 := decide_eq_false c4
  clear c4
  (first | rw [c4b0] | (simp only [i64_w, i32_w]; rw [c4b0]) | rw [c4b1] | skip)
  have H' := ak H
  clear H
  go_wp2
  go_meet
  case rel => exact ⟨_, (((Go.bits .and .i64 a1 (wrap64 (a1 - 1))) != 0)), gb_, H', ⟨by first | omega | exact Nat.le_refl _⟩, ⟨bU_ HB.out⟩⟩
 case rest =>
  clear HC3
  (try clear p2); (try clear c4); (try clear c4b0); (try clear c4b1)
  obtain ⟨kq, x15_2, rfl, HA, HJ2, HB⟩ := hcut
  cases kq with
  | zero => exact absurd HA.out (by simp [transform_exponent.j0])
  | succ kj2 =>
   have H := HA.out
   clear HA
   simp only [transform_exponent.j0] at H
   by_cases c5 : x15_2 = true
   ·subst c5
    rw [if_pos rfl] at H
    simp only [Option.some.injEq, Prod.mk.injEq] at H
    obtain ⟨rfl, rfl⟩ := H
    go_wp2
    go_ret2
    exact ⟨eW_, bU_ HB.out⟩
   replace c5 := Bool.eq_false_iff.mpr c5
   subst c5
   rw [if_neg (show ¬ (false = true) by decide)] at H
   revert H
   refine bd_ fun t211 A6 H => ?_
   revert H
   refine bd_ fun t212 A7 H => ?_
   simp only [Option.some.injEq, Prod.mk.injEq] at H
   obtain ⟨rfl, rfl⟩ := H
   go_wp2_with (first | ((with_reducible refine gate_callee (f := 105) rfl ?_); refine gl_ (some 18) Tryd.func105 #[.int .u64 (IntKind.u64.wrap (a1))] ?_; (with_reducible refine (bits_TrailingZeros.calls (IntKind.u64.wrap (a1)) t211 _ ?side1 A6.out).mono ?_); (case side1 => exact fU_ HG.out HB.out); rintro e w8 ⟨rfl, hb⟩; refine ⟨_, rfl, ?_⟩; refine nx1_ (below_step (bU_ HB.out) hb) ?_; clear HB; intro HB; clear hb) | ((with_reducible refine gate_callee (f := 84) rfl ?_); refine gl_ (some 22) Tryd.func84 #[.int .i64 a0] ?_; (with_reducible refine (transform_greatest.calls a0 t212 _ ?side1 A7.out).mono ?_); (case side1 => exact fU_ HG.out HB.out); rintro e w9 ⟨rfl, hb⟩; refine ⟨_, rfl, ?_⟩; refine nx1_ (below_step (bU_ HB.out) hb) ?_; clear HB; intro HB; clear hb))
   go_ret2
   exact ⟨eW_, bU_ HB.out⟩

mutual
def field_Inv.j0 : Nat → Int → Int → Bool → Option (Int)
 | 0, _, _, _ => none
 | k + 1, x1, x5, x20 => if x20 = true then (some 0) else (if x5 = 0 then (none) else (field_Inv.l0 k x5 (wrap64 (x5)) (wrap64 (Int.tmod x1 x5)) 0 1))
def field_Inv.l0 : Nat → Int → Int → Int → Int → Int → Option (Int)
 | 0, _, _, _, _, _ => none
 | k + 1, x5, x6, x7, x8, x9 => if x7 = 0 then (if x8 < 0 then (some (IntKind.u64.wrap (wrap64 (x8 + (wrap64 (x5)))))) else (some (IntKind.u64.wrap (x8)))) else (field_Inv.l0 k x5 x7 (wrap64 (x6 - (wrap64 ((wrap64 (Int.tdiv x6 x7)) * x7)))) x9 (wrap64 (x8 - (wrap64 ((wrap64 (Int.tdiv x6 x7)) * x9)))))
end
def field_Inv.f (k : Nat) (a0 : Int) (a1 : Int) : Option (Int) := (field_P.f a0).bind fun t213 => (if t213 = 0 then (field_Inv.j0 k a1 t213 true) else (field_Inv.j0 k a1 t213 ((Int.tmod a1 t213) == 0)))
theorem field_Inv.mono_l : ∀ k, (∀ y0 y1 y2, LeO (field_Inv.j0 k y0 y1 y2) (field_Inv.j0 (k + 1) y0 y1 y2)) ∧ (∀ y0 y1 y2 y3 y4, LeO (field_Inv.l0 k y0 y1 y2 y3 y4) (field_Inv.l0 (k + 1) y0 y1 y2 y3 y4))
 | 0 => ⟨fun _ _ _ r h => by simp [field_Inv.j0] at h, fun _ _ _ _ _ r h => by simp [field_Inv.l0] at h⟩
 | k + 1 => by
  obtain ⟨ih0, ih1⟩ := field_Inv.mono_l k
  refine ⟨?_, ?_⟩
  ·intro y0 y1 y2
   unfold field_Inv.j0
   with_reducible repeat' first | apply ih0 | apply ih1 | exact LeO.refl _ | exact LeO.none _ | refine LeO.ite ?_ ?_ | refine LeO.bind ?_ (fun _ => ?_)
  intro y0 y1 y2 y3 y4
  unfold field_Inv.l0
  with_reducible repeat' first | apply ih0 | apply ih1 | exact LeO.refl _ | exact LeO.none _ | refine LeO.ite ?_ ?_ | refine LeO.bind ?_ (fun _ => ?_)
theorem field_Inv.mono : ∀ a0 a1 k, LeO (field_Inv.f k a0 a1) (field_Inv.f (k + 1) a0 a1) := by
 intro a0 a1 k
 obtain ⟨ih0, ih1⟩ := field_Inv.mono_l k
 unfold field_Inv.f
 with_reducible repeat' first | apply ih0 | apply ih1 | exact LeO.refl _ | exact LeO.none _ | refine LeO.ite ?_ ?_ | refine LeO.bind ?_ (fun _ => ?_)
set_option maxHeartbeats 8000000 in
set_option maxRecDepth 100000 in
theorem field_Inv.calls (k : Nat) (a0 : Int) (a1 : Int) (r : Int) (w : World) (hG : Fld w) (h : field_Inv.f k a0 a1 = some r) :
  Calls Tryd.prog 101 #[.int .i64 a0, .int .u64 a1] w fun e w' => e = .returned (.int .u64 r) ∧ Below w.heap.size w w' := by
 have HG := ak hG
 clear hG
 have HB := ak (Below.refl w.heap.size w)
 have H := h
 clear h
 unfold field_Inv.f at H
 revert H
 refine bd_ fun t213 A3 H => ?_
 have HC4 := ak H
 clear H
 go_enter Tryd.func101, Tryd.ntmps101
 go_upto_region 2 with (first | (go_at_call 51; (with_reducible refine (field_P.calls a0 t213 _ ?side1 A3.out).mono ?_); (case side1 => exact fU_ HG.out HB.out); rintro e w5 ⟨rfl, hb⟩; refine nx1_ (below_step (bU_ HB.out) hb) ?_; clear HB; intro HB; clear hb))
 repeat (go_quiet (first | (go_at_call 51; (with_reducible refine (field_P.calls a0 t213 _ ?side1 A3.out).mono ?_); (case side1 => exact fU_ HG.out HB.out); rintro e w5 ⟨rfl, hb⟩; refine nx1_ (below_step (bU_ HB.out) hb) ?_; clear HB; intro HB; clear hb)); go_upto_region 2 with (first | (go_at_call 51; (with_reducible refine (field_P.calls a0 t213 _ ?side1 A3.out).mono ?_); (case side1 => exact fU_ HG.out HB.out); rintro e w5 ⟨rfl, hb⟩; refine nx1_ (below_step (bU_ HB.out) hb) ?_; clear HB; intro HB; clear hb)))
 (try simp only [Act.put, s1_, s2_, s3_])
 go_cut [20] (fun v20 wc => ∃ (kq : Nat) (x20_3 : Bool), v20 = .bool x20_3 ∧ Aside0 (field_Inv.j0 kq a1 t213 x20_3 = some r) ∧ Aside0 (kq ≤ k) ∧ Aside0 (Below w.heap.size w wc))
 case first =>
  have H := HC4.out
  clear HC4
  by_cases c6 : t213 = 0
  ·rw [if_pos c6] at H
   have c6b0 := beq_iff_eq.mpr c6
   have c6b1 := bne_eq_false_iff_eq.mpr c6
   clear c6
   (first | rw [c6b0] | (simp only [i64_w, i32_w]; rw [c6b0]) | rw [c6b1] | skip)
   have H' := ak H
   clear H
   go_wp2
   repeat (go_quiet (fail); try go_wp2)
   go_meet
   case rel => exact ⟨_, (true), gb_, H', ⟨by first | omega | exact Nat.le_refl _⟩, ⟨bU_ HB.out⟩⟩
  rw [if_neg c6] at H
  have c6b0 := beq_eq_false_iff_ne.mpr c6
  have c6b1 := bne_iff_ne.mpr c6
  (first | rw [c6b0] | (simp only [i64_w, i32_w]; rw [c6b0]) | rw [c6b1] | skip)
  have H' := ak H
  clear H
  go_wp2
  repeat (go_quiet (fail); try go_wp2)
  go_meet
  case rel => exact ⟨_, (((Int.tmod a1 t213) == 0)), gb_, H', ⟨by first | omega | exact Nat.le_refl _⟩, ⟨bU_ HB.out⟩⟩
 case rest =>
  clear HC4
  (try clear c1); (try clear p2); (try clear c6); (try clear c6b0); (try clear c6b1)
  obtain ⟨kq, x20_3, rfl, HA, HJ3, HB⟩ := hcut
  cases kq with
  | zero => exact absurd HA.out (by simp [field_Inv.j0])
  | succ kj3 =>
   have H := HA.out
   clear HA
   simp only [field_Inv.j0] at H
   by_cases c7 : x20_3 = true
   ·subst c7
    rw [if_pos rfl] at H
    obtain rfl := Option.some.inj H
    go_wp2
    repeat (go_quiet (fail); try go_wp2)
    go_ret
    exact ⟨eW_, bU_ HB.out⟩
   replace c7 := Bool.eq_false_iff.mpr c7
   subst c7
   rw [if_neg (show ¬ (false = true) by decide)] at H
   by_cases c8 : t213 = 0
   ·rw [if_pos c8] at H
    exact absurd H (by simp)
   rw [if_neg c8] at H
   have c8b0 := beq_eq_false_iff_ne.mpr c8
   have c8b1 := bne_iff_ne.mpr c8
   have H' := ak H
   clear H
   go_wp2
   repeat (go_quiet (fail); try go_wp2)
   go_loopg [6, 7, 8, 9] kj3 (fun kq v6 v7 v8 v9 w' => ∃ (x6_2 : Int) (x7_2 : Int) (x8_2 : Int) (x9_2 : Int), v6 = .int .i64 x6_2 ∧ v7 = .int .i64 x7_2 ∧ v8 = .int .i64 x8_2 ∧ v9 = .int .i64 x9_2 ∧ Aside0 (field_Inv.l0 kq t213 x6_2 x7_2 x8_2 x9_2 = some r) ∧ Aside0 (kq ≤ kj3) ∧ Aside0 (Below w.heap.size w w'))
   case atStart => exact ⟨(wrap64 (t213)), (wrap64 (Int.tmod a1 t213)), (0), (1), gb_, gb_, gb_, gb_, H', ⟨Nat.le_refl _⟩, ⟨bU_ HB.out⟩⟩
   case round =>
    clear H'
    (try clear c1); (try clear p2); (try clear c6); (try clear c6b0); (try clear c6b1); (try clear p6); (try clear c7); (try clear c8); (try clear c8b0); (try clear c8b1)
    obtain ⟨x6_2, x7_2, x8_2, x9_2, rfl, rfl, rfl, rfl, HA, HK2, HB⟩ := hrel
    cases gk with
    | zero => exact absurd HA.out (by simp [field_Inv.l0])
    | succ k2 =>
     have H := HA.out
     clear HA
     simp only [field_Inv.l0] at H
     by_cases c9 : x7_2 = 0
     ·rw [if_pos c9] at H
      have c9b0 := beq_iff_eq.mpr c9
      have c9b1 := bne_eq_false_iff_eq.mpr c9
      clear c9
      by_cases c10 : x8_2 < 0
      ·rw [if_pos c10] at H
       have c10b0 := decide_eq_true c10
       clear c10
       obtain rfl := Option.some.inj H
       go_wp2
       repeat (go_quiet (fail); try go_wp2)
       go_ret
       exact ⟨eW_, bU_ HB.out⟩
      rw [if_neg c10] at H
      have c10b0 := decide_eq_false c10
      clear c10
      obtain rfl := Option.some.inj H
      go_wp2
      repeat (go_quiet (fail); try go_wp2)
      go_ret
      exact ⟨eW_, bU_ HB.out⟩
     rw [if_neg c9] at H
     have c9b0 := beq_eq_false_iff_ne.mpr c9
     have c9b1 := bne_iff_ne.mpr c9
     have H' := ak H
     clear H
     go_wp2
     repeat (go_quiet (fail); try go_wp2)
     go_roundg k2
     case measure => have := HJ3.out; have := HK2.out; omega
     case rel => exact ⟨(x7_2), (wrap64 (x6_2 - (wrap64 ((wrap64 (Int.tdiv x6_2 x7_2)) * x7_2)))), (x9_2), (wrap64 (x8_2 - (wrap64 ((wrap64 (Int.tdiv x6_2 x7_2)) * x9_2)))), gb_, gb_, gb_, gb_, H', ⟨by have := HJ3.out; have := HK2.out; omega⟩, ⟨bU_ HB.out⟩⟩

def transform_Coefficients.l0 : Nat → Int → List Int → Int → Int → Int → Int → Option (List Int × Int)
 | 0, _, _, _, _, _, _ => none
 | k + 1, x0, x10, x11, x12, x47, x48 => if x48 < x47 then (if 0 ≤ x48 then (if x48 < (x10.length : Int) then ((field_Mul.f x0 (rd x10 x48) x11).bind fun t225 => ((field_Mul.f x0 x11 x12).bind fun t227 => (transform_Coefficients.l0 k x0 (x10.set (x48 : Int).toNat t225) t227 x12 x47 (wrap64 (x48 + 1))))) else (none)) else (none)) else (some (x10, 0))
def transform_Coefficients.f (k : Nat) (a0 : Int) (a1 : Int) (l2 : List Int) : Option (List Int × Int) := (field_Reduce.f a0 a1).bind fun t214 => (if t214 = 0 then (some (([] : List Int), 1)) else ((transform_exponent.f k a0 (l2.length : Int)).bind fun bt215 => (if bt215.2 = true then ((transform_reordered.f k a0 l2).bind fun t217 => ((field_Root.f k a0 bt215.1).bind fun t220 => ((field_Inv.f k a0 t220).bind fun t221 => ((transform_butterflies.f k a0 t217 t221).bind fun t217 => ((field_Inv.f k a0 (IntKind.u64.wrap ((l2.length : Int)))).bind fun t222 => ((field_Inv.f k a0 a1).bind fun t223 => (transform_Coefficients.l0 k a0 t217 t222 t223 (t217.length : Int) 0))))))) else (some (([] : List Int), 2)))))
theorem transform_Coefficients.mono_l : ∀ k, (∀ y0 y1 y2 y3 y4 y5, LeO (transform_Coefficients.l0 k y0 y1 y2 y3 y4 y5) (transform_Coefficients.l0 (k + 1) y0 y1 y2 y3 y4 y5))
 | 0 => fun _ _ _ _ _ _ r h => by simp [transform_Coefficients.l0] at h
 | k + 1 => by
  have ih0 := transform_Coefficients.mono_l k
  ·intro y0 y1 y2 y3 y4 y5
   unfold transform_Coefficients.l0
   with_reducible repeat' first | apply ih0 | apply field_Inv.mono | apply field_Root.mono | apply transform_butterflies.mono | apply transform_exponent.mono | apply transform_reordered.mono | exact LeO.refl _ | exact LeO.none _ | refine LeO.ite ?_ ?_ | refine LeO.bind ?_ (fun _ => ?_)
theorem transform_Coefficients.mono : ∀ a0 a1 a2 k, LeO (transform_Coefficients.f k a0 a1 a2) (transform_Coefficients.f (k + 1) a0 a1 a2) := by
 intro a0 a1 a2 k
 have ih0 := transform_Coefficients.mono_l k
 unfold transform_Coefficients.f
 with_reducible repeat' first | apply ih0 | apply field_Inv.mono | apply field_Root.mono | apply transform_butterflies.mono | apply transform_exponent.mono | apply transform_reordered.mono | exact LeO.refl _ | exact LeO.none _ | refine LeO.ite ?_ ?_ | refine LeO.bind ?_ (fun _ => ?_)
set_option maxHeartbeats 8000000 in
set_option maxRecDepth 100000 in
theorem transform_Coefficients.calls (k : Nat) (a0 : Int) (a1 : Int) (A2 : Option Addr) (c2 : Nat) (l2 : List Int) (r1 : List Int) (r2 : Int) (w : World) (hG : Fld w) (hr2 : Kd.C (Kd.int .u64) w A2 l2.length l2) (hc2 : l2.length ≤ c2) (h : transform_Coefficients.f k a0 a1 l2 = some (r1, r2)) :
  Calls Tryd.prog 69 #[.int .i64 a0, .int .u64 a1, .slice A2 l2.length c2] w fun e w' => ∃ v0_ : Value, e = .returned (.tuple #[v0_, .int .i64 r2]) ∧ Kd.R (Kd.int .u64) 22 w' w.heap.size (fun _ => True) v0_ r1 ∧ Below w.heap.size w w' := by
 have HG := ak hG
 clear hG
 have HR2 := ak hr2
 have HC2 := ak hc2
 clear hr2 hc2
 have HB := ak (Below.refl w.heap.size w)
 have H := h
 clear h
 unfold transform_Coefficients.f at H
 revert H
 refine bd_ fun t214 A4 H => ?_
 by_cases c5 : t214 = 0
 ·rw [if_pos c5] at H
  have c5b0 := beq_iff_eq.mpr c5
  have c5b1 := bne_eq_false_iff_eq.mpr c5
  clear c5
  simp only [Option.some.injEq, Prod.mk.injEq] at H
  obtain ⟨rfl, rfl⟩ := H
  go_enter Tryd.func69, Tryd.ntmps69
  go_wp2_with (first | ((with_reducible refine gate_callee (f := 65) rfl ?_); refine gl_ (some 16) Tryd.func65 #[.int .i64 a0, .int .u64 a1] ?_; (with_reducible refine (field_Reduce.calls a0 a1 t214 _ ?side1 A4.out).mono ?_); (case side1 => exact fU_ HG.out HB.out); rintro e w6 ⟨rfl, hb⟩; refine ⟨_, rfl, ?_⟩; refine nx1_ (below_step (bU_ HB.out) hb) ?_; clear HB; intro HB; clear hb))
  go_ret2
  exact ⟨_, eW_, by first | exact Kd.R_nil _ _ _ _ _ | exact Kd.N_nil _ _ _ _ _ | exact Kd.V_nil _ _ _ _ _ | exact Kd.Q_nil _ _ _ _ _ | exact Kd.S_nil _ _ _ _ _, bU_ HB.out⟩
 rw [if_neg c5] at H
 have c5b0 := beq_eq_false_iff_ne.mpr c5
 have c5b1 := bne_iff_ne.mpr c5
 revert H
 refine bd2_ fun t215 t216 A7 H => ?_
 try dsimp only at H
 by_cases c8 : t216 = true
 ·subst c8
  rw [if_pos rfl] at H
  revert H
  refine bd_ fun t217 A9 H => ?_
  revert H
  refine bd_ fun t220 A10 H => ?_
  revert H
  refine bd_ fun t221 A11 H => ?_
  revert H
  refine bd_ fun t217n A12 H => ?_
  revert H
  refine bd_ fun t222 A13 H => ?_
  revert H
  refine bd_ fun t223 A14 H => ?_
  have H' := ak H
  clear H
  go_enter Tryd.func69, Tryd.ntmps69
  go_wp2_with (first | ((with_reducible refine gate_callee (f := 65) rfl ?_); refine gl_ (some 16) Tryd.func65 #[.int .i64 a0, .int .u64 a1] ?_; (with_reducible refine (field_Reduce.calls a0 a1 t214 _ ?side1 A4.out).mono ?_); (case side1 => exact fU_ HG.out HB.out); rintro e w15 ⟨rfl, hb⟩; refine ⟨_, rfl, ?_⟩; refine nx1_ (below_step (bU_ HB.out) hb) ?_; clear HB; intro HB; clear hb) | ((with_reducible refine gate_callee (f := 83) rfl ?_); refine gl_ (some 22) Tryd.func83 #[.int .i64 a0, .int .i64 (l2.length : Int)] ?_; (with_reducible refine (transform_exponent.calls k a0 (l2.length : Int) t215 true _ ?side1 A7.out).mono ?_); (case side1 => exact fU_ HG.out HB.out); rintro e w16 ⟨rfl, hb⟩; refine ⟨_, rfl, ?_⟩; refine nx1_ (below_step (bU_ HB.out) hb) ?_; clear HB; intro HB; clear hb) | ((with_reducible refine gate_callee (f := 93) rfl ?_); refine gl_ (some 29) Tryd.func93 #[.int .i64 a0, .slice A2 l2.length c2] ?_; (with_reducible refine (transform_reordered.calls k a0 _ _ l2 t217 _ ?side1 ?side2 ?side3 A9.out).mono ?_); (case side1 => exact fU_ HG.out HB.out); (case side2 => exact cU_ (C_below HR2.out HB.out)); (case side3 => exact HC2.out); rintro e w17 ⟨v218, rfl, ho0, hb⟩; refine ⟨_, rfl, ?_⟩; refine nx2_ (R_lower ho0 (below_size (bU_ HB.out))) (below_step (bU_ HB.out) hb) ?_; clear HB; intro HO219 HB; clear hb ho0) | ((with_reducible refine gate_callee (f := 56) rfl ?_); refine gl_ (some 35) Tryd.func56 #[.int .i64 a0, .int .i64 t215] ?_; (with_reducible refine (field_Root.calls k a0 t215 t220 _ ?side1 A10.out).mono ?_); (case side1 => exact fU_ HG.out HB.out); rintro e w18 ⟨rfl, hb⟩; refine ⟨_, rfl, ?_⟩; refine nx2_ (R_below (rU_ HO219.out) hb) (below_step (bU_ HB.out) hb) ?_; clear HO219 HB; intro HO219 HB; clear hb) | ((with_reducible refine gate_callee (f := 101) rfl ?_); refine gl_ (some 36) Tryd.func101 #[.int .i64 a0, .int .u64 t220] ?_; (with_reducible refine (field_Inv.calls k a0 t220 t221 _ ?side1 A11.out).mono ?_); (case side1 => exact fU_ HG.out HB.out); rintro e w19 ⟨rfl, hb⟩; refine ⟨_, rfl, ?_⟩; refine nx2_ (R_below (rU_ HO219.out) hb) (below_step (bU_ HB.out) hb) ?_; clear HO219 HB; intro HO219 HB; clear hb) | ((with_reducible refine gate_callee (f := 94) rfl ?_); refine gl_ (some 37) Tryd.func94 #[.int .i64 a0, v218, .int .u64 t221] ?_; (refine (transform_butterflies.callsR k a0 _ _ _ _ t217 t221 t217n _ ?side1 ?side2 (rU_ HO219.out) A12.out).mono ?_); (case side1 => exact fU_ HG.out HB.out); (case side2 => exact HG.out.notab); rintro e w21 ⟨rfl, ho0, hb⟩; refine ⟨_, rfl, ?_⟩; have n0_ := ak ho0; have n1_ := ak ((bU_ HB.out).trans hb); clear HO219; clear HB; have HO219 := n0_; have HB := n1_; clear n0_ n1_ ho0 hb; obtain ⟨Ao20, co20, eo20⟩ := R_slice HO219.out; subst eo20) | ((with_reducible refine gate_callee (f := 101) rfl ?_); refine gl_ (some 42) Tryd.func101 #[.int .i64 a0, .int .u64 (IntKind.u64.wrap ((l2.length : Int)))] ?_; (with_reducible refine (field_Inv.calls k a0 (IntKind.u64.wrap ((l2.length : Int))) t222 _ ?side1 A13.out).mono ?_); (case side1 => exact fU_ HG.out HB.out); rintro e w22 ⟨rfl, hb⟩; refine ⟨_, rfl, ?_⟩; refine nx2_ (R_below (rU_ HO219.out) hb) (below_step (bU_ HB.out) hb) ?_; clear HO219 HB; intro HO219 HB; clear hb) | ((with_reducible refine gate_callee (f := 101) rfl ?_); refine gl_ (some 45) Tryd.func101 #[.int .i64 a0, .int .u64 a1] ?_; (with_reducible refine (field_Inv.calls k a0 a1 t223 _ ?side1 A14.out).mono ?_); (case side1 => exact fU_ HG.out HB.out); rintro e w23 ⟨rfl, hb⟩; refine ⟨_, rfl, ?_⟩; refine nx2_ (R_below (rU_ HO219.out) hb) (below_step (bU_ HB.out) hb) ?_; clear HO219 HB; intro HO219 HB; clear hb))
  go_loopg [11, 48] k (fun kq v11 v48 w' => ∃ (x10_1 : List Int) (x11_1 : Int) (x48_1 : Int), v11 = .int .u64 x11_1 ∧ v48 = .int .i64 x48_1 ∧ Aside0 (transform_Coefficients.l0 kq a0 x10_1 x11_1 t223 (t217n.length : Int) x48_1 = some (r1, r2)) ∧ Aside0 (kq ≤ k) ∧ Aside0 (Kd.R (Kd.int .u64) 22 w' w.heap.size (fun _ => True) (.slice Ao20 t217n.length co20) x10_1) ∧ Aside0 (Below w.heap.size w w'))
  case atStart => exact ⟨(t217n), (t222), (0), gb_, gb_, H', ⟨Nat.le_refl _⟩, ⟨rU_ HO219.out⟩, ⟨bU_ HB.out⟩⟩
  case round =>
   clear H'
   (try clear c1); (try clear c2); (try clear p2); (try clear c5); (try clear c5b0); (try clear c5b1); (try clear c6); (try clear c8); (try clear c9); (try clear c10)
   obtain ⟨x10_1, x11_1, x48_1, rfl, rfl, HA, HK1, HO_10, HB⟩ := hrel
   have hl10_1 := (R_reads' HO_10.out).1
   rw [hl10_1] at HO_10
   (try simp only [hl10_1])
   cases gk with
   | zero => exact absurd HA.out (by simp [transform_Coefficients.l0])
   | succ k1 =>
    have H := HA.out
    clear HA
    simp only [transform_Coefficients.l0] at H
    by_cases c24 : x48_1 < (t217n.length : Int)
    ·rw [if_pos c24] at H
     have c24b0 := decide_eq_true c24
     (try (have c24b0r0 := c24b0; simp only [hl10_1] at c24b0r0))
     clear c24
     obtain ⟨c25, H⟩ : (0 ≤ x48_1) ∧ _ := it_ H
     have c25b0 := decide_eq_true c25
     clear c25
     obtain ⟨c26, H⟩ : (x48_1 < (x10_1.length : Int)) ∧ _ := it_ H
     have c26b0 := decide_eq_true c26
     clear c26
     revert H
     refine bd_ fun t225 A27 H => ?_
     obtain ⟨y226, hy226⟩ : ∃ y_ : List Int, y_ = (x10_1.set (x48_1 : Int).toNat t225) := ⟨_, rfl⟩
     first | rw [Option.bind_some, ← hy226] at H | rw [← hy226] at H
     have Ny226 := ak hy226
     clear hy226
     revert H
     refine bd_ fun t227 A29 H => ?_
     have H' := ak H
     clear H
     have pfr30 : 0 ≤ (x48_1 : Int) := od_
     have qfr30 : (x48_1 : Int) < ((x10_1.length : Int) : Int) := od_
     obtain ⟨gofr30, cofr30, eofr30, gbfr30, glfr30, clfr30, HGfr30⟩ := Kd.R_form HO_10.out (by omega)
     (first | cases eofr30 | (injection eofr30 with ea_ en_ ec_; (first | subst ea_ | (injection ea_ with ea_; subst ea_)); subst ec_; clear en_))
     have GBfr30 := ak gbfr30
     have GGfr30 := ak HGfr30
     clear gbfr30 glfr30 HGfr30
     clear pfr30 qfr30
     have p224 : 0 ≤ (x48_1 : Int) := od_
     have q224 : x48_1 < (x10_1.length : Int) := od_
     obtain ⟨ad224, e224, hx224_0⟩ := Kd.at_int (R_reads' HO_10.out).2.2 x48_1 p224 q224
     obtain rfl : (⟨gofr30, 0, none⟩ : Addr) = ad224 := (by injection e224)
     (first | simp only [add_plain] at hx224_0 | simp only [add_at] at hx224_0 | simp only [Addr.add, Nat.zero_add] at hx224_0 | skip)
     replace p224 := eq_true p224
     replace q224 := eq_true q224
     go_wp2_with (first | ((with_reducible refine gate_callee (f := 55) rfl ?_); refine gl_ (some 59) Tryd.func55 #[.int .i64 a0, .int .u64 (rd x10_1 x48_1), .int .u64 x11_1] ?_; (with_reducible refine (field_Mul.calls a0 (rd x10_1 x48_1) x11_1 t225 _ ?side1 A27.out).mono ?_); (case side1 => exact fU_ HG.out HB.out); rintro e w31 ⟨rfl, hb⟩; refine ⟨_, rfl, ?_⟩; refine nx2_ (R_below (rU_ HO_10.out) hb) (below_step (bU_ HB.out) hb) ?_; clear HO_10 HB; intro HO_10 HB; clear hb; have p28 : 0 ≤ (x48_1 : Int) := od_; have q28 : (x48_1 : Int) < ((x10_1.length : Int) : Int) := od_; obtain ⟨hx28_0, hf28_0⟩ := Kd.R_celln 0 HO_10.out (x48_1 : Int) p28 q28; replace p28 := eq_true p28; replace q28 := eq_true q28; obtain ⟨hy32_, hz32_⟩ := Kd.R_celln 0 HO_10.out (x48_1 : Int) od_ od_; have HP32 := Kd.R_putg HO_10.out (x48_1 : Int) t225) | ((with_reducible refine gate_store (t := 22) (p := 60) rfl ?_); refine store_event (t := 22) (p := 60) (v := ?vo_w33) (w1 := (w31.setCell ⟨gofr30, (x48_1 : Int).toNat, none⟩ (.int .u64 t225))) ?hg ?ho ?hn ?hr ?_; (case ho => rfl); (case hg => rfl); (case hn => rfl); (case hr => first | (go_simp; done) | (go_simp; rfl)); intro w33 hw; have hg : w31.grownBy w33 (some gofr30) := (by rw [hw]; exact HP32.2); have hp_ : Kd.R (Kd.int .u64) 22 w33 w.heap.size (fun _ => True) (.slice (some ⟨gofr30, 0, none⟩) x10_1.length co20) y226 := (by rw [hw, Ny226.out]; exact HP32.1); clear HP32; refine nx2_ (hp_) ((by rw [hw]; exact below_set (HB.out) GBfr30.out : Below w.heap.size w w33)) ?_; clear HO_10 HB; intro HO_10 HB; clear hg hw hp_) | ((with_reducible refine gate_callee (f := 55) rfl ?_); refine gl_ (some 64) Tryd.func55 #[.int .i64 a0, .int .u64 x11_1, .int .u64 t223] ?_; (with_reducible refine (field_Mul.calls a0 x11_1 t223 t227 _ ?side1 A29.out).mono ?_); (case side1 => exact fU_ HG.out HB.out); rintro e w34 ⟨rfl, hb⟩; refine ⟨_, rfl, ?_⟩; refine nx2_ (R_below (rU_ HO_10.out) hb) (below_step (bU_ HB.out) hb) ?_; clear HO_10 HB; intro HO_10 HB; clear hb))
     (try simp only [← hl10_1])
     go_roundg k1
     case measure => have := HK1.out; omega
     case rel => exact ⟨(y226), (t227), (wrap64 (x48_1 + 1)), gb_, gb_, H', ⟨by have := HK1.out; omega⟩, ⟨by (try simp only [hl10_1]); (with_reducible repeat (first | apply Kd.R_alloc | apply Kd.R_drewN | apply R_drew)); exact HO_10.out⟩, ⟨bU_ HB.out⟩⟩
    rw [if_neg c24] at H
    have c24b0 := decide_eq_false c24
    (try (have c24b0r0 := c24b0; simp only [hl10_1] at c24b0r0))
    clear c24
    simp only [Option.some.injEq, Prod.mk.injEq] at H
    obtain ⟨rfl, rfl⟩ := H
    go_wp2
    go_ret2
    exact ⟨_, eW_, rU_ HO_10.out, bU_ HB.out⟩
 replace c8 := Bool.eq_false_iff.mpr c8
 subst c8
 rw [if_neg (show ¬ (false = true) by decide)] at H
 simp only [Option.some.injEq, Prod.mk.injEq] at H
 obtain ⟨rfl, rfl⟩ := H
 go_enter Tryd.func69, Tryd.ntmps69
 go_wp2_with (first | ((with_reducible refine gate_callee (f := 65) rfl ?_); refine gl_ (some 16) Tryd.func65 #[.int .i64 a0, .int .u64 a1] ?_; (with_reducible refine (field_Reduce.calls a0 a1 t214 _ ?side1 A4.out).mono ?_); (case side1 => exact fU_ HG.out HB.out); rintro e w35 ⟨rfl, hb⟩; refine ⟨_, rfl, ?_⟩; refine nx1_ (below_step (bU_ HB.out) hb) ?_; clear HB; intro HB; clear hb) | ((with_reducible refine gate_callee (f := 83) rfl ?_); refine gl_ (some 22) Tryd.func83 #[.int .i64 a0, .int .i64 (l2.length : Int)] ?_; (with_reducible refine (transform_exponent.calls k a0 (l2.length : Int) t215 false _ ?side1 A7.out).mono ?_); (case side1 => exact fU_ HG.out HB.out); rintro e w36 ⟨rfl, hb⟩; refine ⟨_, rfl, ?_⟩; refine nx1_ (below_step (bU_ HB.out) hb) ?_; clear HB; intro HB; clear hb))
 go_ret2
 exact ⟨_, eW_, by first | exact Kd.R_nil _ _ _ _ _ | exact Kd.N_nil _ _ _ _ _ | exact Kd.V_nil _ _ _ _ _ | exact Kd.Q_nil _ _ _ _ _ | exact Kd.S_nil _ _ _ _ _, bU_ HB.out⟩

def transform_Widen.j0 : Nat → Int → List Int → Int → Int → Bool → Option (List Int × Int)
 | 0, _, _, _, _, _ => none
 | k + 1, x0, x1, x2, x8, x35 => if x35 = true then (some (([] : List Int), 2)) else ((transform_Coefficients.f k x0 1 x1).bind fun bt232 => ((field_Generator.f x0).bind fun t236 => ((transform_Values.f k x0 (wrap64 (x8 + x2)) t236 bt232.1).bind fun bt237 => (some (bt237.1, bt237.2)))))
def transform_Widen.f (k : Nat) (a0 : Int) (l1 : List Int) (a2 : Int) : Option (List Int × Int) := (field_Valid.f a0).bind fun t228 => (if t228 = true then ((transform_exponent.f k a0 (l1.length : Int)).bind fun bt229 => (if bt229.2 = true then (if a2 < 0 then (transform_Widen.j0 k a0 l1 a2 bt229.1 true) else ((transform_greatest.f a0).bind fun t231 => (transform_Widen.j0 k a0 l1 a2 bt229.1 (decide (a2 > (wrap64 (t231 - bt229.1))))))) else (transform_Widen.j0 k a0 l1 a2 bt229.1 true))) else (some (([] : List Int), 1)))
theorem transform_Widen.mono_l : ∀ k, (∀ y0 y1 y2 y3 y4, LeO (transform_Widen.j0 k y0 y1 y2 y3 y4) (transform_Widen.j0 (k + 1) y0 y1 y2 y3 y4))
 | 0 => fun _ _ _ _ _ r h => by simp [transform_Widen.j0] at h
 | k + 1 => by
  have ih0 := transform_Widen.mono_l k
  ·intro y0 y1 y2 y3 y4
   unfold transform_Widen.j0
   with_reducible repeat' first | apply ih0 | apply transform_Coefficients.mono | apply transform_Values.mono | apply transform_exponent.mono | exact LeO.refl _ | exact LeO.none _ | refine LeO.ite ?_ ?_ | refine LeO.bind ?_ (fun _ => ?_)
theorem transform_Widen.mono : ∀ a0 a1 a2 k, LeO (transform_Widen.f k a0 a1 a2) (transform_Widen.f (k + 1) a0 a1 a2) := by
 intro a0 a1 a2 k
 have ih0 := transform_Widen.mono_l k
 unfold transform_Widen.f
 with_reducible repeat' first | apply ih0 | apply transform_Coefficients.mono | apply transform_Values.mono | apply transform_exponent.mono | exact LeO.refl _ | exact LeO.none _ | refine LeO.ite ?_ ?_ | refine LeO.bind ?_ (fun _ => ?_)
set_option maxHeartbeats 8000000 in
set_option maxRecDepth 100000 in
theorem transform_Widen.calls (k : Nat) (a0 : Int) (A1 : Option Addr) (c1 : Nat) (l1 : List Int) (a2 : Int) (r1 : List Int) (r2 : Int) (w : World) (hG : Fld w) (hr1 : Kd.C (Kd.int .u64) w A1 l1.length l1) (hc1 : l1.length ≤ c1) (h : transform_Widen.f k a0 l1 a2 = some (r1, r2)) :
  Calls Tryd.prog 60 #[.int .i64 a0, .slice A1 l1.length c1, .int .i64 a2] w fun e w' => ∃ v0_ : Value, e = .returned (.tuple #[v0_, .int .i64 r2]) ∧ Kd.R (Kd.int .u64) 22 w' w.heap.size (fun _ => True) v0_ r1 ∧ Below w.heap.size w w' := by
 have HG := ak hG
 clear hG
 have HR1 := ak hr1
 have HC1 := ak hc1
 clear hr1 hc1
 have HB := ak (Below.refl w.heap.size w)
 have H := h
 clear h
 unfold transform_Widen.f at H
 revert H
 refine bd_ fun t228 A4 H => ?_
 by_cases c5 : t228 = true
 ·subst c5
  rw [if_pos rfl] at H
  revert H
  refine bd2_ fun t229 t230 A6 H => ?_
  try dsimp only at H
  have HC7 := ak H
  clear H
  go_enter Tryd.func60, Tryd.ntmps60
  go_upto_region 4 with (first | ((with_reducible refine gate_callee (f := 49) rfl ?_); refine gl_ (some 13) Tryd.func49 #[.int .i64 a0] ?_; (with_reducible refine (field_Valid.calls a0 true _ A4.out).mono ?_); rintro e w' ⟨rfl, ⟨nd, rfl⟩⟩; refine ⟨_, rfl, ?_⟩) | ((with_reducible refine gate_callee (f := 83) rfl ?_); refine gl_ (some 19) Tryd.func83 #[.int .i64 a0, .int .i64 (l1.length : Int)] ?_; (with_reducible refine (transform_exponent.calls k a0 (l1.length : Int) t229 t230 _ ?side1 A6.out).mono ?_); (case side1 => exact fU_ HG.out HB.out); rintro e w8 ⟨rfl, hb⟩; refine ⟨_, rfl, ?_⟩; refine nx1_ (below_step (bU_ HB.out) hb) ?_; clear HB; intro HB; clear hb))
  (try simp only [Act.put, s1_, s2_, s3_])
  go_cut [35] (fun v35 wc => ∃ (kq : Nat) (x35_6 : Bool), v35 = .bool x35_6 ∧ Aside0 (transform_Widen.j0 kq a0 l1 a2 t229 x35_6 = some (r1, r2)) ∧ Aside0 (kq ≤ k) ∧ Aside0 (Below w.heap.size w wc))
  case first =>
   have H := HC7.out
   clear HC7
   by_cases c9 : t230 = true
   ·subst c9
    rw [if_pos rfl] at H
    by_cases c10 : a2 < 0
    ·rw [if_pos c10] at H
     have c10b0 := decide_eq_true c10
     clear c10
     (first | rw [c10b0] | (simp only [i64_w, i32_w]; rw [c10b0]) | rw [c10b1] | skip)
     have H' := ak H
     clear H
     go_wp2
     go_meet
     case rel => exact ⟨_, (true), gb_, H', ⟨by first | omega | exact Nat.le_refl _⟩, ⟨bU_ HB.out⟩⟩
    rw [if_neg c10] at H
    have c10b0 := decide_eq_false c10
    clear c10
    (first | rw [c10b0] | (simp only [i64_w, i32_w]; rw [c10b0]) | rw [c10b1] | skip)
    revert H
    refine bd_ fun t231 A11 H => ?_
    have H' := ak H
    clear H
    go_wp2_with (first | (go_at_call 84; (with_reducible refine (transform_greatest.calls a0 t231 _ ?side1 A11.out).mono ?_); (case side1 => exact fU_ HG.out HB.out); rintro e w12 ⟨rfl, hb⟩; refine nx1_ (below_step (bU_ HB.out) hb) ?_; clear HB; intro HB; clear hb))
    go_meet
    case rel => exact ⟨_, (decide (a2 > (wrap64 (t231 - t229)))), gb_, H', ⟨by first | omega | exact Nat.le_refl _⟩, ⟨bU_ HB.out⟩⟩
   replace c9 := Bool.eq_false_iff.mpr c9
   subst c9
   rw [if_neg (show ¬ (false = true) by decide)] at H
   have H' := ak H
   clear H
   go_wp2
   go_meet
   case rel => exact ⟨_, (true), gb_, H', ⟨by first | omega | exact Nat.le_refl _⟩, ⟨bU_ HB.out⟩⟩
  case rest =>
   clear HC7
   (try clear c1); (try clear p2); (try clear c4); (try clear c5); (try clear c6); (try clear p6); (try clear c8); (try clear c9); (try clear c10); (try clear c10b0); (try clear c10b1)
   obtain ⟨kq, x35_6, rfl, HA, HJ6, HB⟩ := hcut
   cases kq with
   | zero => exact absurd HA.out (by simp [transform_Widen.j0])
   | succ kj6 =>
    have H := HA.out
    clear HA
    simp only [transform_Widen.j0] at H
    by_cases c13 : x35_6 = true
    ·subst c13
     rw [if_pos rfl] at H
     simp only [Option.some.injEq, Prod.mk.injEq] at H
     obtain ⟨rfl, rfl⟩ := H
     go_wp2
     go_ret2
     exact ⟨_, eW_, by first | exact Kd.R_nil _ _ _ _ _ | exact Kd.N_nil _ _ _ _ _ | exact Kd.V_nil _ _ _ _ _ | exact Kd.Q_nil _ _ _ _ _ | exact Kd.S_nil _ _ _ _ _, bU_ HB.out⟩
    replace c13 := Bool.eq_false_iff.mpr c13
    subst c13
    rw [if_neg (show ¬ (false = true) by decide)] at H
    revert H
    refine bd2_ fun t232 t233 A14 H => ?_
    try dsimp only at H
    revert H
    refine bd_ fun t236 A15 H => ?_
    revert H
    refine bd2_ fun t237 t238 A16 H => ?_
    try dsimp only at H
    simp only [Option.some.injEq, Prod.mk.injEq] at H
    obtain ⟨rfl, rfl⟩ := H
    go_wp2_with (first | ((with_reducible refine gate_callee (f := 69) rfl ?_); refine gl_ (some 39) Tryd.func69 #[.int .i64 a0, .int .u64 1, .slice A1 l1.length c1] ?_; (with_reducible refine (transform_Coefficients.calls kj6 a0 1 _ _ l1 t232 t233 _ ?side1 ?side2 ?side3 A14.out).mono ?_); (case side1 => exact fU_ HG.out HB.out); (case side2 => exact cU_ (C_below HR1.out HB.out)); (case side3 => exact HC1.out); rintro e w17 ⟨v234, rfl, ho0, hb⟩; refine ⟨_, rfl, ?_⟩; refine nx2_ (R_lower ho0 (below_size (bU_ HB.out))) (below_step (bU_ HB.out) hb) ?_; clear HB; intro HO235 HB; clear hb ho0) | ((with_reducible refine gate_callee (f := 58) rfl ?_); refine gl_ (some 47) Tryd.func58 #[.int .i64 a0] ?_; (with_reducible refine (field_Generator.calls a0 t236 _ ?side1 A15.out).mono ?_); (case side1 => exact fU_ HG.out HB.out); rintro e w18 ⟨rfl, hb⟩; refine ⟨_, rfl, ?_⟩; refine nx2_ (R_below (rU_ HO235.out) hb) (below_step (bU_ HB.out) hb) ?_; clear HO235 HB; intro HO235 HB; clear hb; obtain ⟨Ao19, co19, eo19⟩ := R_slice HO235.out; subst eo19) | ((with_reducible refine gate_callee (f := 64) rfl ?_); refine gl_ (some 49) Tryd.func64 #[.int .i64 a0, .int .i64 (wrap64 (t229 + a2)), .int .u64 t236, .slice Ao19 t232.length co19] ?_; (with_reducible refine (transform_Values.calls kj6 a0 (wrap64 (t229 + a2)) t236 _ _ t232 t237 t238 _ ?side1 ?side2 ?side3 A16.out).mono ?_); (case side1 => exact fU_ HG.out HB.out); (case side2 => exact cU_ ((R_reads' HO235.out).2.2)); (case side3 => exact (R_reads' HO235.out).2.1); rintro e w20 ⟨v239, rfl, ho0, hb⟩; refine ⟨_, rfl, ?_⟩; refine nx3_ (R_elder' (rU_ HO235.out) (R_base ho0) hb) (R_lower (R_new' ho0 (R_lt (rU_ HO235.out))) (below_size (bU_ HB.out))) (below_step (bU_ HB.out) hb) ?_; clear HO235 HB; intro HO235 HO240 HB; clear hb ho0))
    go_ret2
    exact ⟨_, eW_, R_mono (rU_ HO240.out) (fun _ hk => trivial), bU_ HB.out⟩
 replace c5 := Bool.eq_false_iff.mpr c5
 subst c5
 rw [if_neg (show ¬ (false = true) by decide)] at H
 simp only [Option.some.injEq, Prod.mk.injEq] at H
 obtain ⟨rfl, rfl⟩ := H
 go_enter Tryd.func60, Tryd.ntmps60
 go_wp2_with (first | ((with_reducible refine gate_callee (f := 49) rfl ?_); refine gl_ (some 13) Tryd.func49 #[.int .i64 a0] ?_; (with_reducible refine (field_Valid.calls a0 false _ A4.out).mono ?_); rintro e w' ⟨rfl, ⟨nd, rfl⟩⟩; refine ⟨_, rfl, ?_⟩))
 go_ret2
 exact ⟨_, eW_, by first | exact Kd.R_nil _ _ _ _ _ | exact Kd.N_nil _ _ _ _ _ | exact Kd.V_nil _ _ _ _ _ | exact Kd.Q_nil _ _ _ _ _ | exact Kd.S_nil _ _ _ _ _, bU_ HB.out⟩

mutual
def code_Extend.l0 : Nat → Int → List (List Int) → Int → List (List Int) → Int → Int → Option ((List (List Int)) × Int)
 | 0, _, _, _, _, _, _ => none
 | k + 1, x0, x1, x2, x18, x19, x20 => if x20 < x19 then (if 0 ≤ x20 then (if x20 < (x18.length : Int) then (if 0 < (x1.length : Int) then (if ((rd_L1 x18 x20).length : Int) = ((rd_L1 x1 0).length : Int) then (code_Extend.l0 k x0 x1 x2 x18 x19 (wrap64 (x20 + 1))) else (some (([] : List (List Int)), 1))) else (none)) else (none)) else (none)) else (if 0 ≤ (x1.length : Int) then (if ((x1.length : Int) : Int).toNat ≤ 11728124029610 then (code_Extend.l1 k x0 x2 (List.replicate ((x1.length : Int) : Int).toNat []) x1 (x1.length : Int) 0) else (none)) else (none))
def code_Extend.l1 : Nat → Int → Int → List (List Int) → List (List Int) → Int → Int → Option ((List (List Int)) × Int)
 | 0, _, _, _, _, _, _ => none
 | k + 1, x0, x2, x10, x35, x36, x37 => if x37 < x36 then (if 0 ≤ x37 then (if x37 < (x35.length : Int) then ((transform_Widen.f k x0 (rd_L1 x35 x37) x2).bind fun bt248 => (if bt248.2 = 0 then (if x37 < (x10.length : Int) then (code_Extend.l1 k x0 x2 (x10.set (x37 : Int).toNat bt248.1) x35 x36 (wrap64 (x37 + 1))) else (none)) else (some (([] : List (List Int)), bt248.2)))) else (none)) else (none)) else (some (x10, 0))
end
def code_Extend.f (k : Nat) (a0 : Int) (l1 : List (List Int)) (a2 : Int) : Option ((List (List Int)) × Int) := (field_Valid.f a0).bind fun t241 => (if t241 = true then (code_Extend.l0 k a0 l1 a2 l1 (l1.length : Int) 0) else (some (([] : List (List Int)), 1)))
theorem code_Extend.mono_l : ∀ k, (∀ y0 y1 y2 y3 y4 y5, LeO (code_Extend.l0 k y0 y1 y2 y3 y4 y5) (code_Extend.l0 (k + 1) y0 y1 y2 y3 y4 y5)) ∧ (∀ y0 y1 y2 y3 y4 y5, LeO (code_Extend.l1 k y0 y1 y2 y3 y4 y5) (code_Extend.l1 (k + 1) y0 y1 y2 y3 y4 y5))
 | 0 => ⟨fun _ _ _ _ _ _ r h => by simp [code_Extend.l0] at h, fun _ _ _ _ _ _ r h => by simp [code_Extend.l1] at h⟩
 | k + 1 => by
  obtain ⟨ih0, ih1⟩ := code_Extend.mono_l k
  refine ⟨?_, ?_⟩
  ·intro y0 y1 y2 y3 y4 y5
   unfold code_Extend.l0
   with_reducible repeat' first | apply ih0 | apply ih1 | apply transform_Widen.mono | exact LeO.refl _ | exact LeO.none _ | refine LeO.ite ?_ ?_ | refine LeO.bind ?_ (fun _ => ?_)
  intro y0 y1 y2 y3 y4 y5
  unfold code_Extend.l1
  with_reducible repeat' first | apply ih0 | apply ih1 | apply transform_Widen.mono | exact LeO.refl _ | exact LeO.none _ | refine LeO.ite ?_ ?_ | refine LeO.bind ?_ (fun _ => ?_)
theorem code_Extend.mono : ∀ a0 a1 a2 k, LeO (code_Extend.f k a0 a1 a2) (code_Extend.f (k + 1) a0 a1 a2) := by
 intro a0 a1 a2 k
 obtain ⟨ih0, ih1⟩ := code_Extend.mono_l k
 unfold code_Extend.f
 with_reducible repeat' first | apply ih0 | apply ih1 | apply transform_Widen.mono | exact LeO.refl _ | exact LeO.none _ | refine LeO.ite ?_ ?_ | refine LeO.bind ?_ (fun _ => ?_)
set_option maxHeartbeats 8000000 in
set_option maxRecDepth 100000 in
theorem code_Extend.calls (k : Nat) (a0 : Int) (A1 : Option Addr) (c1 : Nat) (l1 : List (List Int)) (a2 : Int) (r1 : List (List Int)) (r2 : Int) (w : World) (hG : Fld w) (hr1 : Kd.C (Kd.slice 22 (Kd.int .u64)) w A1 l1.length l1) (hc1 : l1.length ≤ c1) (h : code_Extend.f k a0 l1 a2 = some (r1, r2)) :
  Calls Tryd.prog 25 #[.int .i64 a0, .slice A1 l1.length c1, .int .i64 a2] w fun e w' => ∃ v0_ : Value, e = .returned (.tuple #[v0_, .int .i64 r2]) ∧ Kd.S (Kd.slice 22 (Kd.int .u64)) 33 w' w.heap.size (fun _ => True) v0_ r1 ∧ Below w.heap.size w w' := by
 have HG := ak hG
 clear hG
 have HR1 := ak hr1
 have HC1 := ak hc1
 clear hr1 hc1
 have HB := ak (Below.refl w.heap.size w)
 have H := h
 clear h
 unfold code_Extend.f at H
 revert H
 refine bd_ fun t241 A4 H => ?_
 by_cases c5 : t241 = true
 ·subst c5
  rw [if_pos rfl] at H
  have H' := ak H
  clear H
  go_enter Tryd.func25, Tryd.ntmps25
  go_wp2_with (first | ((with_reducible refine gate_callee (f := 49) rfl ?_); refine gl_ (some 16) Tryd.func49 #[.int .i64 a0] ?_; (with_reducible refine (field_Valid.calls a0 true _ A4.out).mono ?_); rintro e w' ⟨rfl, ⟨nd, rfl⟩⟩; refine ⟨_, rfl, ?_⟩))
  go_loopg [20] k (fun kq v20 w' => ∃ (x20_1 : Int), v20 = .int .i64 x20_1 ∧ Aside0 (code_Extend.l0 kq a0 l1 a2 l1 (l1.length : Int) x20_1 = some (r1, r2)) ∧ Aside0 (kq ≤ k) ∧ Aside0 (Below w.heap.size w w'))
  case atStart => exact ⟨(0), gb_, H', ⟨Nat.le_refl _⟩, ⟨bU_ HB.out⟩⟩
  case round =>
   clear H'
   (try clear c1); (try clear c2); (try clear p2); (try clear c4); (try clear c5)
   obtain ⟨x20_1, rfl, HA, HK1, HB⟩ := hrel
   cases gk with
   | zero => exact absurd HA.out (by simp [code_Extend.l0])
   | succ k1 =>
    have H := HA.out
    clear HA
    simp only [code_Extend.l0] at H
    by_cases c6 : x20_1 < (l1.length : Int)
    ·rw [if_pos c6] at H
     have c6b0 := decide_eq_true c6
     clear c6
     obtain ⟨c7, H⟩ : (0 ≤ x20_1) ∧ _ := it_ H
     have c7b0 := decide_eq_true c7
     clear c7
     obtain ⟨c8, H⟩ : (x20_1 < (l1.length : Int)) ∧ _ := it_ H
     have c8b0 := decide_eq_true c8
     clear c8
     obtain ⟨c9, H⟩ : (0 < (l1.length : Int)) ∧ _ := it_ H
     have c9b0 := decide_eq_true c9
     have c9b1 : decide (0 < l1.length) = true := decide_eq_true (by omega)
     clear c9
     by_cases c10 : ((rd_L1 l1 x20_1).length : Int) = ((rd_L1 l1 0).length : Int)
     ·rw [if_pos c10] at H
      have c10b0 := beq_iff_eq.mpr c10
      have c10b1 := bne_eq_false_iff_eq.mpr c10
      have c10b2 : ((rd_L1 l1 x20_1).length == (rd_L1 l1 0).length) = true := by first | simpa using c10 | (simp at c10 ⊢; omega)
      clear c10
      have H' := ak H
      clear H
      have p242 : 0 ≤ (x20_1 : Int) := od_
      have q242 : x20_1 < (l1.length : Int) := od_
      obtain ⟨ad242, A242_0, c242_0, e242, hx242_0, hl242_0, hi242_0⟩ := at_L1 HR1.out x20_1 p242 q242
      cases e242
      replace hx242_0 := (HB.out.cell (World.block_lt_of_cell? w _ hx242_0)).trans hx242_0
      have HR242_0 := ak hi242_0
      have HC242_0 := ak hl242_0
      clear hi242_0 hl242_0
      replace p242 := eq_true p242
      replace q242 := eq_true q242
      have p243 : 0 ≤ (0 : Int) := (by omega)
      have q243 : 0 < (l1.length : Int) := od_
      obtain ⟨ad243, A243_0, c243_0, e243, hx243_0, hl243_0, hi243_0⟩ := at_L1 HR1.out 0 p243 q243
      obtain rfl : ad242 = ad243 := (by injection e243)
      have qi243 : (0 < l1.length) = True := eq_true (by omega)
      (try rw [show ((0 : Int)).toNat = 0 from rfl] at hx243_0)
      (try rw [Addr.add_zero'] at hx243_0)
      replace hx243_0 := (HB.out.cell (World.block_lt_of_cell? w _ hx243_0)).trans hx243_0
      have HR243_0 := ak hi243_0
      have HC243_0 := ak hl243_0
      clear hi243_0 hl243_0
      replace p243 := eq_true p243
      replace q243 := eq_true q243
      go_wp2
      go_roundg k1
      case measure => have := HK1.out; omega
      case rel => exact ⟨(wrap64 (x20_1 + 1)), gb_, H', ⟨by have := HK1.out; omega⟩, ⟨bU_ HB.out⟩⟩
     rw [if_neg c10] at H
     have c10b0 := beq_eq_false_iff_ne.mpr c10
     have c10b1 := bne_iff_ne.mpr c10
     have c10b2 : ((rd_L1 l1 x20_1).length == (rd_L1 l1 0).length) = false := by first | simpa using c10 | (simp at c10 ⊢; omega)
     simp only [Option.some.injEq, Prod.mk.injEq] at H
     obtain ⟨rfl, rfl⟩ := H
     have p242 : 0 ≤ (x20_1 : Int) := od_
     have q242 : x20_1 < (l1.length : Int) := od_
     obtain ⟨ad242, A242_0, c242_0, e242, hx242_0, hl242_0, hi242_0⟩ := at_L1 HR1.out x20_1 p242 q242
     cases e242
     replace hx242_0 := (HB.out.cell (World.block_lt_of_cell? w _ hx242_0)).trans hx242_0
     have HR242_0 := ak hi242_0
     have HC242_0 := ak hl242_0
     clear hi242_0 hl242_0
     replace p242 := eq_true p242
     replace q242 := eq_true q242
     have p243 : 0 ≤ (0 : Int) := (by omega)
     have q243 : 0 < (l1.length : Int) := od_
     obtain ⟨ad243, A243_0, c243_0, e243, hx243_0, hl243_0, hi243_0⟩ := at_L1 HR1.out 0 p243 q243
     obtain rfl : ad242 = ad243 := (by injection e243)
     have qi243 : (0 < l1.length) = True := eq_true (by omega)
     (try rw [show ((0 : Int)).toNat = 0 from rfl] at hx243_0)
     (try rw [Addr.add_zero'] at hx243_0)
     replace hx243_0 := (HB.out.cell (World.block_lt_of_cell? w _ hx243_0)).trans hx243_0
     have HR243_0 := ak hi243_0
     have HC243_0 := ak hl243_0
     clear hi243_0 hl243_0
     replace p243 := eq_true p243
     replace q243 := eq_true q243
     go_wp2
     go_ret2
     exact ⟨_, eW_, by first | exact Kd.S_nil _ _ _ _ _ | exact Kd.N_nil _ _ _ _ _ | exact Kd.V_nil _ _ _ _ _ | exact Kd.Q_nil _ _ _ _ _ | exact Kd.R_nil _ _ _ _ _, bU_ HB.out⟩
    rw [if_neg c6] at H
    have c6b0 := decide_eq_false c6
    clear c6
    obtain ⟨c11, H⟩ : (0 ≤ (l1.length : Int)) ∧ _ := it_ H
    have c11b0 := eq_true c11
    have c11b1 := decide_eq_true c11
    clear c11
    obtain ⟨c12, H⟩ : (((l1.length : Int) : Int).toNat ≤ 11728124029610) ∧ _ := it_ H
    have c12b0 := eq_true c12
    have c12b1 := decide_eq_true c12
    clear c12
    obtain ⟨y244, hy244⟩ : ∃ y_ : List (List Int), y_ = (List.replicate ((l1.length : Int) : Int).toNat []) := ⟨_, rfl⟩
    replace H : (code_Extend.l1 k1 a0 a2 y244 l1 (l1.length : Int) 0) = some (r1, r2) := by first | (rw [hy244]; with_reducible exact H) | (have H2_ := (Option.bind_some _ _).symm.trans H; rw [hy244]; with_reducible exact H2_) | (have H2_ := (Option.bind_some _ _).symm.trans H; with_reducible exact H2_) | with_reducible exact H | (rw [hy244]; exact H) | exact H
    have Ny244 := ak hy244
    clear hy244
    have H' := ak H
    clear H
    go_wp2_with (first | ((with_reducible refine gate_dst (N := 34) rfl ?_); refine Kd.S_make (Kd.slice 22 (Kd.int .u64)) _ 33 rfl (N := 34) rfl 37 _ _ rfl (l1.length : Int) ?hx ?hy Tryd.underlying37 (.slice none 0 0) 24 info33 rfl (by decide) (by omega) [] (ok := fun _ => True) (okp := fun _ => True) ⟨_, rfl, Kd.R_nil _ _ _ _ _⟩ (fun _ hk => hk) trivial od_ (Nat.le_trans (Nat.mul_le_mul_right _ (od_ : (l1.length : Int).toNat ≤ 11728124029610)) (by omega)) (Below.refl _ _) (Nat.le_refl _) ?_; (case hx => first | rfl); (case hy => first | rfl); intro v245 w13 ho14 hb hg_ hnew_; clear hg_ hnew_; (first | rw [← Ny244.out] at ho14 | (simp only [Int.reduceToNat] at ho14; rw [← Ny244.out] at ho14)); refine nx2_ (Kd.S_lower ho14 (below_size (bU_ HB.out))) (below_step (bU_ HB.out) hb) ?_; clear HB; intro HO246 HB; clear hb ho14))
    go_loopg [37] k1 (fun kq v37 w' => ∃ (x10_2 : List (List Int)) (x37_2 : Int), v37 = .int .i64 x37_2 ∧ Aside0 (code_Extend.l1 kq a0 a2 x10_2 l1 (l1.length : Int) x37_2 = some (r1, r2)) ∧ Aside0 (kq ≤ k1) ∧ Aside0 (Kd.S (Kd.slice 22 (Kd.int .u64)) 33 w' w.heap.size (fun _ => True) v245 x10_2) ∧ Aside0 (Below w.heap.size w w'))
    case atStart => exact ⟨(y244), (0), gb_, H', ⟨Nat.le_refl _⟩, ⟨by (with_reducible repeat (first | apply Kd.S_alloc | apply Kd.S_drewN | apply Kd.S_drew)); exact HO246.out⟩, ⟨bU_ HB.out⟩⟩
    case round =>
     clear H'
     (try clear c1); (try clear c2); (try clear p2); (try clear q2); (try clear hx2); (try clear qi2); (try clear c4); (try clear c5); (try clear c6); (try clear c6b0); (try clear p6); (try clear c7); (try clear c7b0); (try clear c8); (try clear c8b0); (try clear c9); (try clear c9b0); (try clear c9b1); (try clear c10); (try clear c10b0); (try clear c10b1); (try clear c10b2); (try clear c11); (try clear c11b0); (try clear c11b1); (try clear c12); (try clear c12b0); (try clear c12b1); (try clear hx242_0); (try clear hx243_0); (try clear p242); (try clear p243); (try clear q242); (try clear q243)
     obtain ⟨x10_2, x37_2, rfl, HA, HK2, HO_10, HB⟩ := hrel
     cases gk with
     | zero => exact absurd HA.out (by simp [code_Extend.l1])
     | succ k2 =>
      have H := HA.out
      clear HA
      simp only [code_Extend.l1] at H
      by_cases c15 : x37_2 < (l1.length : Int)
      ·rw [if_pos c15] at H
       have c15b0 := decide_eq_true c15
       clear c15
       obtain ⟨c16, H⟩ : (0 ≤ x37_2) ∧ _ := it_ H
       have c16b0 := decide_eq_true c16
       clear c16
       obtain ⟨c17, H⟩ : (x37_2 < (l1.length : Int)) ∧ _ := it_ H
       have c17b0 := decide_eq_true c17
       clear c17
       revert H
       refine bd2_ fun t248 t249 A18 H => ?_
       try dsimp only at H
       by_cases c19 : t249 = 0
       ·rw [if_pos c19] at H
        have c19b0 := beq_iff_eq.mpr c19
        have c19b1 := bne_eq_false_iff_eq.mpr c19
        clear c19
        obtain ⟨c20, H⟩ : (x37_2 < (x10_2.length : Int)) ∧ _ := it_ H
        have c20b0 := decide_eq_true c20
        clear c20
        obtain ⟨y252, hy252⟩ : ∃ y_ : List (List Int), y_ = (x10_2.set (x37_2 : Int).toNat t248) := ⟨_, rfl⟩
        replace H : (code_Extend.l1 k2 a0 a2 y252 l1 (l1.length : Int) (wrap64 (x37_2 + 1))) = some (r1, r2) := by first | (rw [hy252]; with_reducible exact H) | (have H2_ := (Option.bind_some _ _).symm.trans H; rw [hy252]; with_reducible exact H2_) | (have H2_ := (Option.bind_some _ _).symm.trans H; with_reducible exact H2_) | with_reducible exact H | (rw [hy252]; exact H) | exact H
        have Ny252 := ak hy252
        clear hy252
        have H' := ak H
        clear H
        have p247 : 0 ≤ (x37_2 : Int) := od_
        have q247 : x37_2 < (l1.length : Int) := od_
        obtain ⟨ad247, A247_0, c247_0, e247, hx247_0, hl247_0, hi247_0⟩ := at_L1 HR1.out x37_2 p247 q247
        cases e247
        replace hx247_0 := (HB.out.cell (World.block_lt_of_cell? w _ hx247_0)).trans hx247_0
        have HR247_0 := ak hi247_0
        have HC247_0 := ak hl247_0
        clear hi247_0 hl247_0
        replace p247 := eq_true p247
        replace q247 := eq_true q247
        go_wp2_with (first | ((with_reducible refine gate_callee (f := 60) rfl ?_); refine gl_ (some 46) Tryd.func60 #[.int .i64 a0, .slice A247_0 (rd_L1 l1 x37_2).length c247_0, .int .i64 a2] ?_; (with_reducible refine (transform_Widen.calls k2 a0 _ _ (rd_L1 l1 x37_2) a2 t248 t249 _ ?side1 ?side2 ?side3 A18.out).mono ?_); (case side1 => exact fU_ HG.out HB.out); (case side2 => exact cU_ (C_below HR247_0.out HB.out)); (case side3 => exact HC247_0.out); rintro e w22 ⟨v250, rfl, ho0, hb⟩; refine ⟨_, rfl, ?_⟩; refine nx3_ (Kd.S_elder' (by (with_reducible repeat (first | apply Kd.S_alloc | apply Kd.S_drewN | apply Kd.S_drew)); exact HO_10.out) (R_base ho0) hb) (R_lower ho0 (below_size (bU_ HB.out))) (below_step (bU_ HB.out) hb) ?_; clear HO_10 HB; intro HO_10 HO251 HB; clear hb ho0; obtain ⟨Av250, cv250, ev250⟩ := R_slice HO251.out; subst ev250; have p21 : 0 ≤ (x37_2 : Int) := od_; have q21 : (x37_2 : Int) < ((x10_2.length : Int) : Int) := od_; obtain ⟨go21, co21, eo21, gb21, gl21, cl21, HG21⟩ := Kd.S_form HO_10.out (by omega); (first | cases eo21 | (injection eo21 with ea_ en_ ec_; (first | subst ea_ | (injection ea_ with ea_; subst ea_)); subst ec_; clear en_)); have GB21 := ak gb21; have GG21 := ak HG21; clear gb21 gl21 HG21; obtain ⟨_, ce21, hcl21, hM21, hcc21, hfr21, _, _⟩ := Kd.S_elem HO_10.out [] (x37_2 : Int) p21 q21; obtain ⟨ve21_0, rfl, ge21_0⟩ := hM21; have hx21_0 := hcc21 0 _ rfl; have hf21_0 := hfr21 0; (try simp only [show ((Kd.slice 22 (Kd.int .u64))).sz = 1 from rfl, Nat.mul_one, Nat.add_zero] at hx21_0); (try simp only [show ((Kd.slice 22 (Kd.int .u64))).sz = 1 from rfl, Nat.mul_one, Nat.add_zero] at hf21_0); clear hcl21 hcc21 hfr21; (try clear hM21); replace p21 := eq_true p21; replace q21 := eq_true q21; have n_ := ak (Kd.S_mono (ok' := (fun k_ => some k_ ≠ (.slice Av250 t248.length cv250 : Value).ownBlock)) HO_10.out (fun k_ hk => hk.2)); clear HO_10; have HO_10 := n_; clear n_; have HX23 := ak (show Kd.S (Kd.slice 22 (Kd.int .u64)) 33 w22 w.heap.size (fun k_ => ((fun _ => True)) k_ ∧ ¬ ((fun k_ => some k_ = (.slice Av250 t248.length cv250 : Value).ownBlock)) k_) (.slice (some ⟨go21, 0, none⟩) x10_2.length co21) x10_2 from (by (with_reducible repeat (first | apply Kd.S_alloc | apply Kd.S_drewN | apply Kd.S_drew)); exact Kd.S_mono HO_10.out (fun k_ hk => ⟨trivial, fun e_ => hk e_⟩))); obtain ⟨oki23, ce23, hcl23, hM23, hcc23, hfr23, hoki23, hH23⟩ := Kd.S_elem HX23.out [] (x37_2 : Int) od_ (by have h_ : (x37_2 : Int) < ((x10_2.length : Int) : Int) := od_; first | exact h_ | (have e_ := (Kd.S_reads' HO_10.out).1; omega) | simpa using h_); obtain ⟨ve23_0, rfl, ge23_0⟩ := hM23; have HP23 := Kd.S_seg hH23 od_ (by have h_ : (x37_2 : Int) < ((x10_2.length : Int) : Int) := od_; first | exact h_ | (have e_ := (Kd.S_reads' HO_10.out).1; omega) | simpa using h_) (seg := [(.slice Av250 t248.length cv250 : Value)]) (j := 0) (show 1 ≤ 1 from by decide) (x' := t248) (Kd.M_row (R_mono (R_tight rfl (R_mono (ok' := fun k_ => ((fun _ => True)) k_ ∧ k_ ≠ go21) (Kd.R_apart' (HO251.out) (Kd.S_typed HO_10.out) (by decide)) (fun k_ hk => ⟨trivial, fun e_ => (hk.2) (by rw [e_]; rfl)⟩))) (fun _ h_ => Or.inr (h_)))) (fun _ hk => hk) (fun k_ hk_ => ((R_mono (ok' := fun k_ => ((fun _ => True)) k_ ∧ k_ ≠ go21) (Kd.R_apart' (HO251.out) (Kd.S_typed HO_10.out) (by decide)) (fun k_ hk => ⟨trivial, fun e_ => (hk.2) (by rw [e_]; rfl)⟩))).1 k_ hk_.symm); have hx23_0 := hcc23 0 _ rfl; (try simp only [show ((Kd.slice 22 (Kd.int .u64))).sz = 1 from rfl, Nat.mul_one, Nat.add_zero] at hx23_0); have hf23_0 := hfr23 0; (try simp only [show ((Kd.slice 22 (Kd.int .u64))).sz = 1 from rfl, Nat.mul_one, Nat.add_zero] at hf23_0); clear hcl23 hcc23 hfr23 hoki23 hH23; (try clear hM23); (try simp only [show ((Kd.slice 22 (Kd.int .u64))).sz = 1 from rfl, Nat.mul_one, Nat.add_zero] at HP23)) | ((with_reducible refine gate_store (t := 33) (p := 55) rfl ?_); refine store_event (t := 33) (p := 55) (v := ?vo_w24) (w1 := (w22.setCell ⟨go21, (x37_2 : Int).toNat, none⟩ ((.slice Av250 t248.length cv250 : Value)))) ?hg ?ho ?hn ?hr ?_; (case ho => rfl); (case hg => rfl); (case hn => rfl); (case hr => first | (go_simp; done) | (go_simp; rfl)); intro w24 hw; have hg : w22.grownBy w24 (some go21) := (by rw [hw]; exact HP23.2); have hp_ : Kd.S (Kd.slice 22 (Kd.int .u64)) 33 w24 w.heap.size (fun _ => True) (.slice (some ⟨go21, 0, none⟩) x10_2.length co21) y252 := (by rw [hw, Ny252.out]; exact HP23.1); clear HP23; refine nx2_ (hp_) ((by rw [hw]; exact below_set (HB.out) GB21.out : Below w.heap.size w w24)) ?_; clear HO_10 HB HO251; intro HO_10 HB; clear hg hw hp_))
        go_roundg k2
        case measure => have := HK1.out; have := HK2.out; omega
        case rel => exact ⟨(y252), (wrap64 (x37_2 + 1)), gb_, H', ⟨by have := HK1.out; have := HK2.out; omega⟩, ⟨by (with_reducible repeat (first | apply Kd.S_alloc | apply Kd.S_drewN | apply Kd.S_drew)); exact HO_10.out⟩, ⟨bU_ HB.out⟩⟩
       rw [if_neg c19] at H
       have c19b0 := beq_eq_false_iff_ne.mpr c19
       have c19b1 := bne_iff_ne.mpr c19
       simp only [Option.some.injEq, Prod.mk.injEq] at H
       obtain ⟨rfl, rfl⟩ := H
       have p247 : 0 ≤ (x37_2 : Int) := od_
       have q247 : x37_2 < (l1.length : Int) := od_
       obtain ⟨ad247, A247_0, c247_0, e247, hx247_0, hl247_0, hi247_0⟩ := at_L1 HR1.out x37_2 p247 q247
       cases e247
       replace hx247_0 := (HB.out.cell (World.block_lt_of_cell? w _ hx247_0)).trans hx247_0
       have HR247_0 := ak hi247_0
       have HC247_0 := ak hl247_0
       clear hi247_0 hl247_0
       replace p247 := eq_true p247
       replace q247 := eq_true q247
       go_wp2_with (first | ((with_reducible refine gate_callee (f := 60) rfl ?_); refine gl_ (some 46) Tryd.func60 #[.int .i64 a0, .slice A247_0 (rd_L1 l1 x37_2).length c247_0, .int .i64 a2] ?_; (with_reducible refine (transform_Widen.calls k2 a0 _ _ (rd_L1 l1 x37_2) a2 t248 t249 _ ?side1 ?side2 ?side3 A18.out).mono ?_); (case side1 => exact fU_ HG.out HB.out); (case side2 => exact cU_ (C_below HR247_0.out HB.out)); (case side3 => exact HC247_0.out); rintro e w25 ⟨v250, rfl, ho0, hb⟩; refine ⟨_, rfl, ?_⟩; refine nx3_ (Kd.S_elder' (by (with_reducible repeat (first | apply Kd.S_alloc | apply Kd.S_drewN | apply Kd.S_drew)); exact HO_10.out) (R_base ho0) hb) (R_lower ho0 (below_size (bU_ HB.out))) (below_step (bU_ HB.out) hb) ?_; clear HO_10 HB; intro HO_10 HO251 HB; clear hb ho0))
       go_ret2
       exact ⟨_, eW_, by first | exact Kd.S_nil _ _ _ _ _ | exact Kd.N_nil _ _ _ _ _ | exact Kd.V_nil _ _ _ _ _ | exact Kd.Q_nil _ _ _ _ _ | exact Kd.R_nil _ _ _ _ _, bU_ HB.out⟩
      rw [if_neg c15] at H
      have c15b0 := decide_eq_false c15
      clear c15
      simp only [Option.some.injEq, Prod.mk.injEq] at H
      obtain ⟨rfl, rfl⟩ := H
      go_wp2
      go_ret2
      exact ⟨_, eW_, by (with_reducible repeat (first | apply Kd.S_alloc | apply Kd.S_drewN | apply Kd.S_drew)); exact HO_10.out, bU_ HB.out⟩
 replace c5 := Bool.eq_false_iff.mpr c5
 subst c5
 rw [if_neg (show ¬ (false = true) by decide)] at H
 simp only [Option.some.injEq, Prod.mk.injEq] at H
 obtain ⟨rfl, rfl⟩ := H
 go_enter Tryd.func25, Tryd.ntmps25
 go_wp2_with (first | ((with_reducible refine gate_callee (f := 49) rfl ?_); refine gl_ (some 16) Tryd.func49 #[.int .i64 a0] ?_; (with_reducible refine (field_Valid.calls a0 false _ A4.out).mono ?_); rintro e w' ⟨rfl, ⟨nd, rfl⟩⟩; refine ⟨_, rfl, ?_⟩))
 go_ret2
 exact ⟨_, eW_, by first | exact Kd.S_nil _ _ _ _ _ | exact Kd.N_nil _ _ _ _ _ | exact Kd.V_nil _ _ _ _ _ | exact Kd.Q_nil _ _ _ _ _ | exact Kd.R_nil _ _ _ _ _, bU_ HB.out⟩

def code_isWord.f (a0_0 : Int) (a0_1 : Int) (a0_2 : Int) (l1 : List Int) : Option (Bool) := (code_Valid.f a0_0 a0_1 a0_2).bind fun t254 => (if t254 = true then ((code_Size.f a0_0 a0_1 a0_2).bind fun t255 => (some ((l1.length : Int) == t255))) else (some false))
set_option maxHeartbeats 8000000 in
set_option maxRecDepth 100000 in
theorem code_isWord.calls (a0_0 : Int) (a0_1 : Int) (a0_2 : Int) (A1 : Option Addr) (c1 : Nat) (l1 : List Int) (r : Bool) (w : World) (hG : Fld w) (hr1 : Kd.C (Kd.int .u64) w A1 l1.length l1) (hc1 : l1.length ≤ c1) (h : code_isWord.f a0_0 a0_1 a0_2 l1 = some r) :
  Calls Tryd.prog 62 #[.agg #[.int .i64 a0_0, .int .i64 a0_1, .int .u64 a0_2], .slice A1 l1.length c1] w fun e w' => e = .returned (.bool r) ∧ Below w.heap.size w w' := by
 have hu24 := Tryd.underlying24
 have HG := ak hG
 clear hG
 have HR1 := ak hr1
 have HC1 := ak hc1
 clear hr1 hc1
 have HB := ak (Below.refl w.heap.size w)
 have H := h
 clear h
 unfold code_isWord.f at H
 revert H
 refine bd_ fun t254 A3 H => ?_
 by_cases c4 : t254 = true
 ·subst c4
  rw [if_pos rfl] at H
  revert H
  refine bd_ fun t255 A5 H => ?_
  obtain rfl := Option.some.inj H
  go_enter Tryd.func62, Tryd.ntmps62
  go_wp2_with (first | ((with_reducible refine gate_dst (N := 2) rfl ?_); (try (refine gate_guard (by rfl) ?_; dsimp only)); refine bx_ 2 24 #[.int .i64 a0_0, .int .i64 a0_1, .int .u64 a0_2] ?_; intro gb253 hg w6 hbox hb; refine nx4_ (below_step (bU_ HB.out) hb) (hbox) ((hs_ hg (below_size (bU_ HB.out)))) ((hs_ hg (below_size (bU_ HB.out)))) ?_; clear HB; intro HB BK253 GW253 GE253; clear hb hbox hg; have hcz7_0 := bc0_ BK253.out; have hcz7_1 := bc1_ BK253.out; have hcz7_2 := bc2_ BK253.out; have hfz7_0 := blk_frozen BK253.out 0; have hfz7_1 := blk_frozen BK253.out 1; have hfz7_2 := blk_frozen BK253.out 2) | ((with_reducible refine gate_callee (f := 11) rfl ?_); refine gl_ (some 6) Tryd.func11 #[.agg #[.int .i64 a0_0, .int .i64 a0_1, .int .u64 a0_2]] ?_; (with_reducible refine (code_Valid.calls a0_0 a0_1 a0_2 true _ ?side1 A3.out).mono ?_); (case side1 => repeat (first | with_reducible exact HG.out | with_reducible exact (Fld.below HG.out HB.out) | exact (Fld.below HG.out sU_) | (with_reducible refine Fld.alloc ?_ _) | (with_reducible refine Fld.drewN ?_ _) | (with_reducible refine Fld.drew ?_))); rintro e w8 ⟨rfl, hb⟩; refine ⟨_, rfl, ?_⟩; refine nx2_ (blk_below (kU_ BK253.out) hb) (below_step sU_ hb) ?_; clear BK253 HB; intro BK253 HB; clear hb; have hcz9_0 := bc0_ BK253.out; have hcz9_1 := bc1_ BK253.out; have hcz9_2 := bc2_ BK253.out; have hfz9_0 := blk_frozen BK253.out 0; have hfz9_1 := blk_frozen BK253.out 1; have hfz9_2 := blk_frozen BK253.out 2) | (go_at_call 13; (with_reducible refine (code_Size.calls a0_0 a0_1 a0_2 t255 _ ?side1 A5.out).mono ?_); (case side1 => repeat (first | with_reducible exact HG.out | with_reducible exact (Fld.below HG.out HB.out) | exact (Fld.below HG.out sU_) | (with_reducible refine Fld.alloc ?_ _) | (with_reducible refine Fld.drewN ?_ _) | (with_reducible refine Fld.drew ?_))); rintro e w10 ⟨rfl, hb⟩; refine nx2_ (blk_below (kU_ BK253.out) hb) (below_step sU_ hb) ?_; clear BK253 HB; intro BK253 HB; clear hb))
  go_ret
  exact ⟨eW_, sU_⟩
 replace c4 := Bool.eq_false_iff.mpr c4
 subst c4
 rw [if_neg (show ¬ (false = true) by decide)] at H
 obtain rfl := Option.some.inj H
 go_enter Tryd.func62, Tryd.ntmps62
 go_wp2_with (first | ((with_reducible refine gate_dst (N := 2) rfl ?_); (try (refine gate_guard (by rfl) ?_; dsimp only)); refine bx_ 2 24 #[.int .i64 a0_0, .int .i64 a0_1, .int .u64 a0_2] ?_; intro gb253 hg w11 hbox hb; refine nx4_ (below_step (bU_ HB.out) hb) (hbox) ((hs_ hg (below_size (bU_ HB.out)))) ((hs_ hg (below_size (bU_ HB.out)))) ?_; clear HB; intro HB BK253 GW253 GE253; clear hb hbox hg; have hcz12_0 := bc0_ BK253.out; have hcz12_1 := bc1_ BK253.out; have hcz12_2 := bc2_ BK253.out; have hfz12_0 := blk_frozen BK253.out 0; have hfz12_1 := blk_frozen BK253.out 1; have hfz12_2 := blk_frozen BK253.out 2) | ((with_reducible refine gate_callee (f := 11) rfl ?_); refine gl_ (some 6) Tryd.func11 #[.agg #[.int .i64 a0_0, .int .i64 a0_1, .int .u64 a0_2]] ?_; (with_reducible refine (code_Valid.calls a0_0 a0_1 a0_2 false _ ?side1 A3.out).mono ?_); (case side1 => repeat (first | with_reducible exact HG.out | with_reducible exact (Fld.below HG.out HB.out) | exact (Fld.below HG.out sU_) | (with_reducible refine Fld.alloc ?_ _) | (with_reducible refine Fld.drewN ?_ _) | (with_reducible refine Fld.drew ?_))); rintro e w13 ⟨rfl, hb⟩; refine ⟨_, rfl, ?_⟩; refine nx2_ (blk_below (kU_ BK253.out) hb) (below_step sU_ hb) ?_; clear BK253 HB; intro BK253 HB; clear hb))
 go_ret
 exact ⟨eW_, sU_⟩

def poly_Eval.l0 : Nat → Int → List Int → Int → Int → Int → Int → Option (Int)
 | 0, _, _, _, _, _, _ => none
 | k + 1, x0, x1, x2, x7, x10, x11 => if x11 < x10 then ((field_Mul.f x0 x7 x2).bind fun t256 => (if 0 ≤ (wrap64 ((wrap64 ((x1.length : Int) - 1)) - x11)) then (if (wrap64 ((wrap64 ((x1.length : Int) - 1)) - x11)) < (x1.length : Int) then ((field_Add.f x0 t256 (rd x1 (wrap64 ((wrap64 ((x1.length : Int) - 1)) - x11)))).bind fun t258 => (poly_Eval.l0 k x0 x1 x2 t258 x10 (wrap64 (x11 + 1)))) else (none)) else (none))) else (some x7)
def poly_Eval.f (k : Nat) (a0 : Int) (l1 : List Int) (a2 : Int) : Option (Int) := poly_Eval.l0 k a0 l1 a2 0 (l1.length : Int) 0
theorem poly_Eval.mono_l : ∀ k, (∀ y0 y1 y2 y3 y4 y5, LeO (poly_Eval.l0 k y0 y1 y2 y3 y4 y5) (poly_Eval.l0 (k + 1) y0 y1 y2 y3 y4 y5))
 | 0 => fun _ _ _ _ _ _ r h => by simp [poly_Eval.l0] at h
 | k + 1 => by
  have ih0 := poly_Eval.mono_l k
  ·intro y0 y1 y2 y3 y4 y5
   unfold poly_Eval.l0
   with_reducible repeat' first | apply ih0 | exact LeO.refl _ | exact LeO.none _ | refine LeO.ite ?_ ?_ | refine LeO.bind ?_ (fun _ => ?_)
theorem poly_Eval.mono : ∀ a0 a1 a2 k, LeO (poly_Eval.f k a0 a1 a2) (poly_Eval.f (k + 1) a0 a1 a2) := by
 intro a0 a1 a2 k
 have ih0 := poly_Eval.mono_l k
 unfold poly_Eval.f
 with_reducible repeat' first | apply ih0 | exact LeO.refl _ | exact LeO.none _ | refine LeO.ite ?_ ?_ | refine LeO.bind ?_ (fun _ => ?_)
def poly_Eval.T5 : Bool × List (List Nat × List Nat) := (true, [([], []), ([], []), ([], []), ([], []), ([1, 2, 3], [1, 2, 3]), ([], []), ([], []), ([6], [6]), ([7], [7]), ([], []), ([8, 9], [8, 9]), ([5, 10], [5, 10]), ([11], [11]), ([0, 4, 12, 4], [0, 4, 12]), ([13, 13, 0, 1, 2, 3, 4, 5, 6, 7, 8, 9, 10, 11, 12, 13], [2, 13])])
def poly_Eval.B5 : List Nat := [0, 0, 0, 0, 14, 0, 0, 64, 192, 0, 960, 2016, 4064, 8191, 16383]
theorem poly_Eval.tab5 : rtab .any (opsOf Tryd.f46 5) = poly_Eval.T5 := by kernel_rfl
theorem poly_Eval.bits5 : waitsOk poly_Eval.T5.2 poly_Eval.B5 = true := by kernel_rfl
set_option maxHeartbeats 8000000 in
set_option maxRecDepth 100000 in
theorem poly_Eval.calls (k : Nat) (a0 : Int) (A1 : Option Addr) (c1 : Nat) (l1 : List Int) (a2 : Int) (r : Int) (w : World) (hG : Fld w) (hr1 : Kd.C (Kd.int .u64) w A1 l1.length l1) (hc1 : l1.length ≤ c1) (h : poly_Eval.f k a0 l1 a2 = some r) :
  Calls Tryd.prog 46 #[.int .i64 a0, .slice A1 l1.length c1, .int .u64 a2] w fun e w' => e = .returned (.int .u64 r) ∧ Below w.heap.size w w' := by
 have HG := ak hG
 clear hG
 have HR1 := ak hr1
 have HC1 := ak hc1
 clear hr1 hc1
 have HB := ak (Below.refl w.heap.size w)
 have H : (poly_Eval.l0 k a0 l1 a2 0 (l1.length : Int) 0) = some r := h
 clear h
 have H' := ak H
 clear H
 go_enter Tryd.func46, Tryd.ntmps46
 go_wp2
 go_loopg [7, 11] k (fun kq v7 v11 w' => ∃ (x7_1 : Int) (x11_1 : Int), v7 = .int .u64 x7_1 ∧ v11 = .int .i64 x11_1 ∧ Aside0 (poly_Eval.l0 kq a0 l1 a2 x7_1 (l1.length : Int) x11_1 = some r) ∧ Aside0 (kq ≤ k) ∧ Aside0 (Below w.heap.size w w'))
 case atStart => exact ⟨(0), (0), gb_, gb_, H', ⟨Nat.le_refl _⟩, ⟨bU_ HB.out⟩⟩
 case round =>
  clear H'
  (try clear c1); (try clear p2)
  obtain ⟨x7_1, x11_1, rfl, rfl, HA, HK1, HB⟩ := hrel
  cases gk with
  | zero => exact absurd HA.out (by simp [poly_Eval.l0])
  | succ k1 =>
   have H := HA.out
   clear HA
   simp only [poly_Eval.l0] at H
   by_cases c4 : x11_1 < (l1.length : Int)
   ·rw [if_pos c4] at H
    have c4b0 := decide_eq_true c4
    clear c4
    revert H
    refine bd_ fun t256 A5 H => ?_
    obtain ⟨ji6, hji6⟩ : ∃ j_ : Int, (wrap64 ((wrap64 ((l1.length : Int) - 1)) - x11_1)) = j_ := ⟨_, rfl⟩
    first | rw [hji6] at H | simp only [hji6] at H
    (try rw [hji6] at A5)
    have hji6w : (IntKind.i64.wrap ((wrap64 ((l1.length : Int) - 1)) - x11_1)) = ji6 := (i64_w _).trans hji6
    obtain ⟨c7, H⟩ : (0 ≤ (ji6)) ∧ _ := it_ H
    have c7b0 := decide_eq_true c7
    clear c7
    obtain ⟨c8, H⟩ : ((ji6) < (l1.length : Int)) ∧ _ := it_ H
    have c8b0 := decide_eq_true c8
    clear c8
    revert H
    refine bd_ fun t258 A9 H => ?_
    have H' := ak H
    clear H
    try go_wp2
    refine nx1_ (below_drew1 HB.out) ?_
    clear HB
    intro HB
    have p257 : 0 ≤ ((ji6) : Int) := od_
    have q257 : (ji6) < (l1.length : Int) := od_
    obtain ⟨ad257, e257, hx257_0⟩ := Kd.at_int HR1.out (ji6) p257 q257
    have hw257_0 := hx257_0
    cases e257
    replace hx257_0 := (HB.out.cell (World.block_lt_of_cell? w _ hx257_0)).trans hx257_0
    replace p257 := eq_true p257
    replace q257 := eq_true q257
    refine start_ (n := 15) (S := fun w' => w'.cell? (ad257.add ((ji6)).toNat) = some (.int .u64 (rd l1 (ji6)))) (ds := []) (bv 15 0) (by kernel_rfl) rfl rfl (((HB.out.cell (World.block_lt_of_cell? w _ hw257_0)).trans hw257_0)) (fun hHeld => ?_); refine with_tabW poly_Eval.tab5 poly_Eval.bits5 (fun HT_ HW_ => ?_)
    generalize wr.drew = w10 at HB hx257_0 hHeld ⊢
    refine pq_ 0 14 15 1 HT_.out ?_
    refine pq_ 1 15 15 3 HT_.out ?_
    refine pq_ 2 16 15 7 HT_.out ?_
    refine pq_ 3 17 15 15 HT_.out ?_
    refine pq_ 5 19 15 47 HT_.out ?_
    refine pq_ 6 20 15 111 HT_.out ?_
    refine pq_ 7 21 15 239 HT_.out ?_
    refine pq_ 8 22 15 495 HT_.out ?_
    refine pq_ 9 23 15 1007 HT_.out ?_
    refine pq_ 10 24 15 2031 HT_.out ?_
    refine pq_ 11 25 15 4079 HT_.out ?_
    refine take_ (i := 12) (N := some 26) (v := ?_) (a' := ?_) (bv 15 8175) rfl rfl (take_ofW HT_.out HW_.out (by kernel_rfl)) (fun _ _ _ h => h) (Or.inl ⟨by rfl, ?_⟩) hHeld ?_ ?_
    rotate_left
    ·intro w' s0
     go_simp
     with_reducible rfl
    rotate_left
    ·simp only [Act.put, s1_, s2_, s3_, i64_w, i32_w]
     rfl
    refine oq_ 4 18 15 8191 HT_.out fun K hK => ?_
    refine gs_ Tryd.func55 #[.int .i64 a0, .int .u64 x7_1, .int .u64 a2] ?_
    with_reducible refine (field_Mul.calls a0 x7_1 a2 t256 _ ?side1 A5.out).mono ?_
    (case side1 => exact fU_ HG.out HB.out)
    rintro e w11 ⟨rfl, hb⟩
    refine ⟨_, rfl, ?_⟩
    refine nx1_ (below_step (bU_ HB.out) hb) ?_
    clear HB
    intro HB
    (try clear hb)
    (try clear hb2)
    (try clear hk)
    (try clear hi)
    refine hK.out _ _ (((HB.out.cell (World.block_lt_of_cell? w _ hw257_0)).trans hw257_0)) (fun hHeld => ?_)
    clear hK K
    refine norm_ (a' := ?_) ?_ ?_
    rotate_left
    ·show Act.put _ (some 18) _ = _
     simp only [Act.put, s1_, s2_, s3_, i64_w, i32_w]
     rfl
    refine oq_ 13 27 15 16383 HT_.out fun K hK => ?_
    refine goes_ Tryd.func38 (by kernel_rfl) rfl #[.int .i64 a0, .int .u64 t256, .int .u64 (rd l1 (ji6))] (by rfl) rfl rfl (by (try simp only [List.map_toArray, List.map_cons, List.map_nil]); first | done | (simp only [hji6]; rfl) | rfl | (simp only [List.length_drop, List.length_take]; rfl)) ?_
    with_reducible refine (field_Add.calls a0 t256 (rd l1 (ji6)) t258 _ ?side1 A9.out).mono ?_
    (case side1 => exact fU_ HG.out HB.out)
    rintro e w12 ⟨rfl, hb⟩
    refine ⟨_, rfl, ?_⟩
    refine nx1_ (below_step (bU_ HB.out) hb) ?_
    clear HB
    intro HB
    (try clear hb)
    (try clear hb2)
    (try clear hk)
    (try clear hi)
    refine hK.out _ _ (((HB.out.cell (World.block_lt_of_cell? w _ hw257_0)).trans hw257_0)) (fun hHeld => ?_)
    clear hK K
    refine norm_ (a' := ?_) ?_ ?_
    rotate_left
    ·show Act.put _ (some 27) _ = _
     simp only [Act.put, s1_, s2_, s3_, i64_w, i32_w]
     rfl
    refine pq_ 14 7 15 32767 HT_.out ?_
    refine done_ (done_of HT_.out (by kernel_rfl)) ?_
    try go_wp2
    go_roundg k1
    case measure => have := HK1.out; omega
    case rel => exact ⟨(t258), (wrap64 (x11_1 + 1)), gb_, gb_, H', ⟨by have := HK1.out; omega⟩, ⟨bU_ HB.out⟩⟩
   rw [if_neg c4] at H
   have c4b0 := decide_eq_false c4
   clear c4
   obtain rfl := Option.some.inj H
   go_wp2
   go_ret
   exact ⟨eW_, bU_ HB.out⟩


def field_Div.f (k : Nat) (a0 : Int) (a1 : Int) (a2 : Int) : Option (Int) := (field_Inv.f k a0 a2).bind fun t259 => ((field_Mul.f a0 a1 t259).bind fun t260 => (some t260))
theorem field_Div.mono : ∀ a0 a1 a2 k, LeO (field_Div.f k a0 a1 a2) (field_Div.f (k + 1) a0 a1 a2) := by
 intro a0 a1 a2 k
 unfold field_Div.f
 with_reducible repeat' first | apply field_Inv.mono | exact LeO.refl _ | exact LeO.none _ | refine LeO.ite ?_ ?_ | refine LeO.bind ?_ (fun _ => ?_)
set_option maxHeartbeats 8000000 in
set_option maxRecDepth 100000 in
theorem field_Div.calls (k : Nat) (a0 : Int) (a1 : Int) (a2 : Int) (r : Int) (w : World) (hG : Fld w) (h : field_Div.f k a0 a1 a2 = some r) :
  Calls Tryd.prog 88 #[.int .i64 a0, .int .u64 a1, .int .u64 a2] w fun e w' => e = .returned (.int .u64 r) ∧ Below w.heap.size w w' := by
 have HG := ak hG
 clear hG
 have HB := ak (Below.refl w.heap.size w)
 have H : ((field_Inv.f k a0 a2).bind fun t259 => ((field_Mul.f a0 a1 t259).bind fun t260 => (some t260))) = some r := h
 clear h
 revert H
 refine bd_ fun t259 A4 H => ?_
 revert H
 refine bd_ fun t260 A5 H => ?_
 obtain rfl := Option.some.inj H
 go_enter Tryd.func88, Tryd.ntmps88
 go_wp2_with (first | ((with_reducible refine gate_callee (f := 101) rfl ?_); refine gl_ (some 11) Tryd.func101 #[.int .i64 a0, .int .u64 a2] ?_; (with_reducible refine (field_Inv.calls k a0 a2 t259 _ ?side1 A4.out).mono ?_); (case side1 => exact fU_ HG.out HB.out); rintro e w6 ⟨rfl, hb⟩; refine ⟨_, rfl, ?_⟩; refine nx1_ (below_step (bU_ HB.out) hb) ?_; clear HB; intro HB; clear hb) | ((with_reducible refine gate_callee (f := 55) rfl ?_); refine gl_ (some 12) Tryd.func55 #[.int .i64 a0, .int .u64 a1, .int .u64 t259] ?_; (with_reducible refine (field_Mul.calls a0 a1 t259 t260 _ ?side1 A5.out).mono ?_); (case side1 => exact fU_ HG.out HB.out); rintro e w7 ⟨rfl, hb⟩; refine ⟨_, rfl, ?_⟩; refine nx1_ (below_step (bU_ HB.out) hb) ?_; clear HB; intro HB; clear hb))
 go_ret
 exact ⟨eW_, bU_ HB.out⟩

def poly_Normal.l0 : Nat → Int → List Int → Int → Int → Option (List Int)
 | 0, _, _, _, _ => none
 | k + 1, x0, x5, x17, x18 => if x18 < x17 then (if 0 ≤ x18 then (if x18 < (x5.length : Int) then ((field_Reduce.f x0 (rd x5 x18)).bind fun t268 => (poly_Normal.l0 k x0 (x5.set (x18 : Int).toNat t268) x17 (wrap64 (x18 + 1)))) else (none)) else (none)) else ((poly_trim.f k x5).bind fun t270 => (some t270))
def poly_Normal.f (k : Nat) (a0 : Int) (l1 : List Int) : Option (List Int) := (field_Valid.f a0).bind fun t261 => (if t261 = true then (if 0 ≤ (l1.length : Int) then (if ((l1.length : Int) : Int).toNat ≤ 35184372088832 then ((some (List.replicate ((l1.length : Int) : Int).toNat 0 : List Int)).bind fun y262 => (poly_Normal.l0 k a0 (cpyAt y262 0 l1) (y262.length : Int) 0)) else (none)) else (none)) else (some ([] : List Int)))
theorem poly_Normal.mono_l : ∀ k, (∀ y0 y1 y2 y3, LeO (poly_Normal.l0 k y0 y1 y2 y3) (poly_Normal.l0 (k + 1) y0 y1 y2 y3))
 | 0 => fun _ _ _ _ r h => by simp [poly_Normal.l0] at h
 | k + 1 => by
  have ih0 := poly_Normal.mono_l k
  ·intro y0 y1 y2 y3
   unfold poly_Normal.l0
   with_reducible repeat' first | apply ih0 | apply poly_trim.mono | exact LeO.refl _ | exact LeO.none _ | refine LeO.ite ?_ ?_ | refine LeO.bind ?_ (fun _ => ?_)
theorem poly_Normal.mono : ∀ a0 a1 k, LeO (poly_Normal.f k a0 a1) (poly_Normal.f (k + 1) a0 a1) := by
 intro a0 a1 k
 have ih0 := poly_Normal.mono_l k
 unfold poly_Normal.f
 with_reducible repeat' first | apply ih0 | apply poly_trim.mono | exact LeO.refl _ | exact LeO.none _ | refine LeO.ite ?_ ?_ | refine LeO.bind ?_ (fun _ => ?_)
set_option maxHeartbeats 8000000 in
set_option maxRecDepth 100000 in
theorem poly_Normal.calls (k : Nat) (a0 : Int) (A1 : Option Addr) (c1 : Nat) (l1 : List Int) (r : List Int) (w : World) (hG : Fld w) (hr1 : Kd.C (Kd.int .u64) w A1 l1.length l1) (hc1 : l1.length ≤ c1) (h : poly_Normal.f k a0 l1 = some r) :
  Calls Tryd.prog 34 #[.int .i64 a0, .slice A1 l1.length c1] w fun e w' => ∃ v0_ : Value, e = .returned (v0_) ∧ Kd.R (Kd.int .u64) 22 w' w.heap.size (fun _ => True) v0_ r ∧ Below w.heap.size w w' := by
 have HG := ak hG
 clear hG
 have HR1 := ak hr1
 have HC1 := ak hc1
 clear hr1 hc1
 have HB := ak (Below.refl w.heap.size w)
 have H := h
 clear h
 unfold poly_Normal.f at H
 revert H
 refine bd_ fun t261 A3 H => ?_
 by_cases c4 : t261 = true
 ·subst c4
  rw [if_pos rfl] at H
  obtain ⟨c5, H⟩ : (0 ≤ (l1.length : Int)) ∧ _ := it_ H
  have c5b0 := eq_true c5
  have c5b1 := decide_eq_true c5
  clear c5
  obtain ⟨c6, H⟩ : (((l1.length : Int) : Int).toNat ≤ 35184372088832) ∧ _ := it_ H
  have c6b0 := eq_true c6
  have c6b1 := decide_eq_true c6
  clear c6
  obtain ⟨y262, hy262⟩ : ∃ y_ : List Int, y_ = (List.replicate ((l1.length : Int) : Int).toNat 0) := ⟨_, rfl⟩
  first | rw [Option.bind_some, ← hy262] at H | rw [← hy262] at H
  have Ny262 := ak hy262
  clear hy262
  obtain ⟨y265, hy265⟩ : ∃ y_ : List Int, y_ = (cpyAt y262 0 l1) := ⟨_, rfl⟩
  first | rw [Option.bind_some, ← hy265] at H | rw [← hy265] at H
  have Ny265 := ak hy265
  clear hy265
  have H' := ak H
  clear H
  go_enter Tryd.func34, Tryd.ntmps34
  go_wp2_with (first | ((with_reducible refine gate_callee (f := 49) rfl ?_); refine gl_ (some 8) Tryd.func49 #[.int .i64 a0] ?_; (with_reducible refine (field_Valid.calls a0 true _ A3.out).mono ?_); rintro e w' ⟨rfl, ⟨nd, rfl⟩⟩; refine ⟨_, rfl, ?_⟩) | ((with_reducible refine gate_dst (N := 12) rfl ?_); refine R_make (Kd.int .u64) _ 22 rfl (N := 12) rfl 33 _ _ rfl (l1.length : Int) ?hx ?hy Tryd.underlying33 (.int .u64 0) 8 info22 rfl (by decide) (by omega) 0 (ok := fun _ => True) (okp := fun _ => True) rfl (fun _ hk => hk) trivial od_ (Nat.le_trans (Nat.mul_le_mul_right _ (od_ : (l1.length : Int).toNat ≤ 35184372088832)) (by omega)) (Below.refl _ _) (Nat.le_refl _) ?_; (case hx => first | rfl); (case hy => first | rfl); intro v263 w7 ho8 hb hg_ hnew_; clear hg_ hnew_; (first | rw [← Ny262.out] at ho8 | (simp only [Int.reduceToNat] at ho8; rw [← Ny262.out] at ho8)); refine nx2_ (R_lower ho8 (below_size (bU_ HB.out))) (below_step (bU_ HB.out) hb) ?_; clear HB; intro HO264 HB; clear hb ho8; obtain ⟨Ao10, co10, eo10⟩ := R_slice HO264.out; subst eo10) | ((with_reducible refine gate_builtin (b := .copy) (xs := #[.tmp 13, .tmp 14]) rfl ?_); skip; refine copy_own_ .u64 (w0 := w) w.heap.size rfl (.tmp 13) (.tmp 14) 33 33 22 rfl Tryd.underlying33 (show (Tryd.prog.info? 22).map (·.size) = some 1 by kernel_rfl) (.slice Ao10 y262.length co10) y262 l1 _ _ _ (fun _ => True) rfl rfl ?aO ?aR (fun _ _ h => h) ?aF ?aB ?aS ?_; (case aR => exact cU_ (C_below HR1.out HB.out)); (case aB => exact (bU_ HB.out)); (case aF => exact (fun _ _ => trivial)); (case aO => exact (rU_ HO264.out)); (case aS => exact (below_size (bU_ HB.out))); intro w9 ho hb hg hat; rw [← Ny265.out] at ho; refine nx2_ (hb) (ho) ?_; clear HB HO264; intro HB HO266; clear ho hb hg hat))
  go_loopg [18] k (fun kq v18 w' => ∃ (x5_1 : List Int) (x18_1 : Int), v18 = .int .i64 x18_1 ∧ Aside0 (poly_Normal.l0 kq a0 x5_1 (y262.length : Int) x18_1 = some r) ∧ Aside0 (kq ≤ k) ∧ Aside0 (Kd.R (Kd.int .u64) 22 w' w.heap.size (fun _ => True) (.slice Ao10 y262.length co10) x5_1) ∧ Aside0 (Below w.heap.size w w'))
  case atStart => exact ⟨(y265), (0), gb_, H', ⟨Nat.le_refl _⟩, ⟨rU_ HO266.out⟩, ⟨bU_ HB.out⟩⟩
  case round =>
   clear H'
   (try clear c1); (try clear p2); (try clear c3); (try clear c4); (try clear c5); (try clear c5b0); (try clear c5b1); (try clear c6); (try clear c6b0); (try clear c6b1)
   obtain ⟨x5_1, x18_1, rfl, HA, HK1, HO_5, HB⟩ := hrel
   have hl5_1 := (R_reads' HO_5.out).1
   rw [hl5_1] at HO_5
   (try simp only [hl5_1])
   cases gk with
   | zero => exact absurd HA.out (by simp [poly_Normal.l0])
   | succ k1 =>
    have H := HA.out
    clear HA
    simp only [poly_Normal.l0] at H
    by_cases c11 : x18_1 < (y262.length : Int)
    ·rw [if_pos c11] at H
     have c11b0 := decide_eq_true c11
     (try (have c11b0r0 := c11b0; simp only [hl5_1] at c11b0r0))
     clear c11
     obtain ⟨c12, H⟩ : (0 ≤ x18_1) ∧ _ := it_ H
     have c12b0 := decide_eq_true c12
     clear c12
     obtain ⟨c13, H⟩ : (x18_1 < (x5_1.length : Int)) ∧ _ := it_ H
     have c13b0 := decide_eq_true c13
     clear c13
     revert H
     refine bd_ fun t268 A14 H => ?_
     obtain ⟨y269, hy269⟩ : ∃ y_ : List Int, y_ = (x5_1.set (x18_1 : Int).toNat t268) := ⟨_, rfl⟩
     first | rw [Option.bind_some, ← hy269] at H | rw [← hy269] at H
     have Ny269 := ak hy269
     clear hy269
     have H' := ak H
     clear H
     have pfr16 : 0 ≤ (x18_1 : Int) := od_
     have qfr16 : (x18_1 : Int) < ((x5_1.length : Int) : Int) := od_
     obtain ⟨gofr16, cofr16, eofr16, gbfr16, glfr16, clfr16, HGfr16⟩ := Kd.R_form HO_5.out (by omega)
     (first | cases eofr16 | (injection eofr16 with ea_ en_ ec_; (first | subst ea_ | (injection ea_ with ea_; subst ea_)); subst ec_; clear en_))
     have GBfr16 := ak gbfr16
     have GGfr16 := ak HGfr16
     clear gbfr16 glfr16 HGfr16
     clear pfr16 qfr16
     have p267 : 0 ≤ (x18_1 : Int) := od_
     have q267 : x18_1 < (x5_1.length : Int) := od_
     obtain ⟨ad267, e267, hx267_0⟩ := Kd.at_int (R_reads' HO_5.out).2.2 x18_1 p267 q267
     obtain rfl : (⟨gofr16, 0, none⟩ : Addr) = ad267 := (by injection e267)
     (first | simp only [add_plain] at hx267_0 | simp only [add_at] at hx267_0 | simp only [Addr.add, Nat.zero_add] at hx267_0 | skip)
     replace p267 := eq_true p267
     replace q267 := eq_true q267
     go_wp2_with (first | ((with_reducible refine gate_callee (f := 65) rfl ?_); refine gl_ (some 28) Tryd.func65 #[.int .i64 a0, .int .u64 (rd x5_1 x18_1)] ?_; (with_reducible refine (field_Reduce.calls a0 (rd x5_1 x18_1) t268 _ ?side1 A14.out).mono ?_); (case side1 => exact fU_ HG.out HB.out); rintro e w17 ⟨rfl, hb⟩; refine ⟨_, rfl, ?_⟩; refine nx2_ (R_below (rU_ HO_5.out) hb) (below_step (bU_ HB.out) hb) ?_; clear HO_5 HB; intro HO_5 HB; clear hb; have p15 : 0 ≤ (x18_1 : Int) := od_; have q15 : (x18_1 : Int) < ((x5_1.length : Int) : Int) := od_; obtain ⟨hx15_0, hf15_0⟩ := Kd.R_celln 0 HO_5.out (x18_1 : Int) p15 q15; replace p15 := eq_true p15; replace q15 := eq_true q15; obtain ⟨hy18_, hz18_⟩ := Kd.R_celln 0 HO_5.out (x18_1 : Int) od_ od_; have HP18 := Kd.R_putg HO_5.out (x18_1 : Int) t268) | ((with_reducible refine gate_store (t := 22) (p := 29) rfl ?_); refine store_event (t := 22) (p := 29) (v := ?vo_w19) (w1 := (w17.setCell ⟨gofr16, (x18_1 : Int).toNat, none⟩ (.int .u64 t268))) ?hg ?ho ?hn ?hr ?_; (case ho => rfl); (case hg => rfl); (case hn => rfl); (case hr => first | (go_simp; done) | (go_simp; rfl)); intro w19 hw; have hg : w17.grownBy w19 (some gofr16) := (by rw [hw]; exact HP18.2); have hp_ : Kd.R (Kd.int .u64) 22 w19 w.heap.size (fun _ => True) (.slice (some ⟨gofr16, 0, none⟩) x5_1.length co10) y269 := (by rw [hw, Ny269.out]; exact HP18.1); clear HP18; refine nx2_ (hp_) ((by rw [hw]; exact below_set (HB.out) GBfr16.out : Below w.heap.size w w19)) ?_; clear HO_5 HB; intro HO_5 HB; clear hg hw hp_))
     (try simp only [← hl5_1])
     go_roundg k1
     case measure => have := HK1.out; omega
     case rel => exact ⟨(y269), (wrap64 (x18_1 + 1)), gb_, H', ⟨by have := HK1.out; omega⟩, ⟨by (try simp only [hl5_1]); (with_reducible repeat (first | apply Kd.R_alloc | apply Kd.R_drewN | apply R_drew)); exact HO_5.out⟩, ⟨bU_ HB.out⟩⟩
    rw [if_neg c11] at H
    have c11b0 := decide_eq_false c11
    (try (have c11b0r0 := c11b0; simp only [hl5_1] at c11b0r0))
    clear c11
    revert H
    refine bd_ fun t270 A20 H => ?_
    obtain rfl := Option.some.inj H
    go_wp2_with (first | ((with_reducible refine gate_callee (f := 72) rfl ?_); refine gl_ (some 32) Tryd.func72 #[.slice Ao10 x5_1.length co10] ?_; (with_reducible refine (poly_trim.calls k1 (fun k_ => some k_ = (.slice Ao10 x5_1.length co10 : Value).ownBlock) (.slice Ao10 x5_1.length co10) x5_1 t270 w _ ?side1 ?side2 A20.out).mono ?_); (case side1 => repeat (first | (with_reducible first | exact HB.out | apply below_alloc | apply pw_below_drewN | apply below_drew1) | exact HB.out)); (case side2 => exact R_tight rfl HO_5.out); rintro e w21 ⟨v271, rfl, ho0, hb, hkp⟩; refine ⟨_, rfl, ?_⟩; refine nx2_ (R_mono (ok' := fun k_ => True) ho0 (fun k_ hk_ => trivial)) (hb) ?_; clear HB HO_5; intro HO272 HB; clear hb hkp ho0))
    go_ret
    exact ⟨_, eW_, rU_ HO272.out, bU_ HB.out⟩
 replace c4 := Bool.eq_false_iff.mpr c4
 subst c4
 rw [if_neg (show ¬ (false = true) by decide)] at H
 obtain rfl := Option.some.inj H
 go_enter Tryd.func34, Tryd.ntmps34
 go_wp2_with (first | ((with_reducible refine gate_callee (f := 49) rfl ?_); refine gl_ (some 8) Tryd.func49 #[.int .i64 a0] ?_; (with_reducible refine (field_Valid.calls a0 false _ A3.out).mono ?_); rintro e w' ⟨rfl, ⟨nd, rfl⟩⟩; refine ⟨_, rfl, ?_⟩))
 go_ret
 exact ⟨_, eW_, by first | exact Kd.R_nil _ _ _ _ _ | exact Kd.N_nil _ _ _ _ _ | exact Kd.V_nil _ _ _ _ _ | exact Kd.Q_nil _ _ _ _ _ | exact Kd.S_nil _ _ _ _ _, bU_ HB.out⟩

def poly_Add_yes.l0 : Nat → Int → List Int → List Int → Int → Int → Option (List Int)
 | 0, _, _, _, _, _ => none
 | k + 1, x0, x7, x23, x24, x25 => if x25 < x24 then (if 0 ≤ x25 then (if x25 < (x23.length : Int) then (if x25 < (x7.length : Int) then ((field_Add.f x0 (rd x7 x25) (rd x23 x25)).bind fun t280 => (poly_Add_yes.l0 k x0 (x7.set (x25 : Int).toNat t280) x23 x24 (wrap64 (x25 + 1)))) else (none)) else (none)) else (none)) else ((poly_Normal.f k x0 x7).bind fun t282 => (some t282))
def poly_Add_yes.f (k : Nat) (a0 : Int) (l1 : List Int) (l2 : List Int) : Option (List Int) := if 0 ≤ (l2.length : Int) then (if ((l2.length : Int) : Int).toNat ≤ 35184372088832 then (poly_Add_yes.l0 k a0 (cpyAt (List.replicate ((l2.length : Int) : Int).toNat 0) 0 l2) l1 (l1.length : Int) 0) else (none)) else (none)
theorem poly_Add_yes.mono_l : ∀ k, (∀ y0 y1 y2 y3 y4, LeO (poly_Add_yes.l0 k y0 y1 y2 y3 y4) (poly_Add_yes.l0 (k + 1) y0 y1 y2 y3 y4))
 | 0 => fun _ _ _ _ _ r h => by simp [poly_Add_yes.l0] at h
 | k + 1 => by
  have ih0 := poly_Add_yes.mono_l k
  ·intro y0 y1 y2 y3 y4
   unfold poly_Add_yes.l0
   with_reducible repeat' first | apply ih0 | apply poly_Normal.mono | exact LeO.refl _ | exact LeO.none _ | refine LeO.ite ?_ ?_ | refine LeO.bind ?_ (fun _ => ?_)
theorem poly_Add_yes.mono : ∀ a0 a1 a2 k, LeO (poly_Add_yes.f k a0 a1 a2) (poly_Add_yes.f (k + 1) a0 a1 a2) := by
 intro a0 a1 a2 k
 have ih0 := poly_Add_yes.mono_l k
 unfold poly_Add_yes.f
 with_reducible repeat' first | apply ih0 | apply poly_Normal.mono | exact LeO.refl _ | exact LeO.none _ | refine LeO.ite ?_ ?_ | refine LeO.bind ?_ (fun _ => ?_)
set_option maxHeartbeats 8000000 in
set_option maxRecDepth 100000 in
theorem poly_Add_yes.calls (k : Nat) (a0 : Int) (A1 : Option Addr) (c1 : Nat) (l1 : List Int) (A2 : Option Addr) (c2 : Nat) (l2 : List Int) (r : List Int) (w : World) (hX : (l1.length : Int) < (l2.length : Int)) (hG : Fld w) (hr1 : Kd.C (Kd.int .u64) w A1 l1.length l1) (hc1 : l1.length ≤ c1) (hr2 : Kd.C (Kd.int .u64) w A2 l2.length l2) (hc2 : l2.length ≤ c2) (h : poly_Add_yes.f k a0 l1 l2 = some r) :
  Calls Tryd.prog 89 #[.int .i64 a0, .slice A1 l1.length c1, .slice A2 l2.length c2] w fun e w' => ∃ v0_ : Value, e = .returned (v0_) ∧ Kd.R (Kd.int .u64) 22 w' w.heap.size (fun _ => True) v0_ r ∧ Below w.heap.size w w' := by
 have HG := ak hG
 clear hG
 have hXb0 : decide ((l1.length : Int) < (l2.length : Int)) = true := decide_eq_true hX
 have hXb1 : decide (l1.length < l2.length) = true := decide_eq_true (Int.ofNat_lt.mp hX)
 clear hX
 have HR1 := ak hr1
 have HC1 := ak hc1
 clear hr1 hc1
 have HR2 := ak hr2
 have HC2 := ak hc2
 clear hr2 hc2
 have HB := ak (Below.refl w.heap.size w)
 have H := h
 clear h
 unfold poly_Add_yes.f at H
 obtain ⟨c4, H⟩ : (0 ≤ (l2.length : Int)) ∧ _ := it_ H
 have c4b0 := eq_true c4
 have c4b1 := decide_eq_true c4
 clear c4
 obtain ⟨c5, H⟩ : (((l2.length : Int) : Int).toNat ≤ 35184372088832) ∧ _ := it_ H
 have c5b0 := eq_true c5
 have c5b1 := decide_eq_true c5
 clear c5
 obtain ⟨y273, hy273⟩ : ∃ y_ : List Int, y_ = (List.replicate ((l2.length : Int) : Int).toNat 0) := ⟨_, rfl⟩
 first | rw [Option.bind_some, ← hy273] at H | rw [← hy273] at H
 have Ny273 := ak hy273
 clear hy273
 obtain ⟨y276, hy276⟩ : ∃ y_ : List Int, y_ = (cpyAt y273 0 l2) := ⟨_, rfl⟩
 first | rw [Option.bind_some, ← hy276] at H | rw [← hy276] at H
 have Ny276 := ak hy276
 clear hy276
 have H' := ak H
 clear H
 go_enter Tryd.func89, Tryd.ntmps89
 go_wp2_with (first | ((with_reducible refine gate_dst (N := 19) rfl ?_); refine R_make (Kd.int .u64) _ 22 rfl (N := 19) rfl 33 _ _ rfl (l2.length : Int) ?hx ?hy Tryd.underlying33 (.int .u64 0) 8 info22 rfl (by decide) (by omega) 0 (ok := fun _ => True) (okp := fun _ => True) rfl (fun _ hk => hk) trivial od_ (Nat.le_trans (Nat.mul_le_mul_right _ (od_ : (l2.length : Int).toNat ≤ 35184372088832)) (by omega)) (Below.refl _ _) (Nat.le_refl _) ?_; (case hx => first | rfl); (case hy => first | rfl); intro v274 w6 ho7 hb hg_ hnew_; clear hg_ hnew_; (first | rw [← Ny273.out] at ho7 | (simp only [Int.reduceToNat] at ho7; rw [← Ny273.out] at ho7)); refine nx2_ (R_lower ho7 (below_size (bU_ HB.out))) (below_step (bU_ HB.out) hb) ?_; clear HB; intro HO275 HB; clear hb ho7; obtain ⟨Ao9, co9, eo9⟩ := R_slice HO275.out; subst eo9) | ((with_reducible refine gate_builtin (b := .copy) (xs := #[.tmp 20, .tmp 21]) rfl ?_); skip; refine copy_own_ .u64 (w0 := w) w.heap.size rfl (.tmp 20) (.tmp 21) 33 33 22 rfl Tryd.underlying33 (show (Tryd.prog.info? 22).map (·.size) = some 1 by kernel_rfl) (.slice Ao9 y273.length co9) y273 l2 _ _ _ (fun _ => True) rfl rfl ?aO ?aR (fun _ _ h => h) ?aF ?aB ?aS ?_; (case aR => exact cU_ (C_below HR2.out HB.out)); (case aB => exact (bU_ HB.out)); (case aF => exact (fun _ _ => trivial)); (case aO => exact (rU_ HO275.out)); (case aS => exact (below_size (bU_ HB.out))); intro w8 ho hb hg hat; rw [← Ny276.out] at ho; refine nx2_ (hb) (ho) ?_; clear HB HO275; intro HB HO277; clear ho hb hg hat))
 go_loopg [25] k (fun kq v25 w' => ∃ (x7_1 : List Int) (x25_1 : Int), v25 = .int .i64 x25_1 ∧ Aside0 (poly_Add_yes.l0 kq a0 x7_1 l1 (l1.length : Int) x25_1 = some r) ∧ Aside0 (kq ≤ k) ∧ Aside0 (Kd.R (Kd.int .u64) 22 w' w.heap.size (fun _ => True) (.slice Ao9 y273.length co9) x7_1) ∧ Aside0 (Below w.heap.size w w'))
 case atStart => exact ⟨(y276), (0), gb_, H', ⟨Nat.le_refl _⟩, ⟨rU_ HO277.out⟩, ⟨bU_ HB.out⟩⟩
 case round =>
  clear H'
  (try clear c1); (try clear c2); (try clear p2); (try clear c4); (try clear c4b0); (try clear c4b1); (try clear c5); (try clear c5b0); (try clear c5b1); (try clear c8)
  obtain ⟨x7_1, x25_1, rfl, HA, HK1, HO_7, HB⟩ := hrel
  have hl7_1 := (R_reads' HO_7.out).1
  rw [hl7_1] at HO_7
  (try simp only [hl7_1])
  cases gk with
  | zero => exact absurd HA.out (by simp [poly_Add_yes.l0])
  | succ k1 =>
   have H := HA.out
   clear HA
   simp only [poly_Add_yes.l0] at H
   by_cases c10 : x25_1 < (l1.length : Int)
   ·rw [if_pos c10] at H
    have c10b0 := decide_eq_true c10
    clear c10
    obtain ⟨c11, H⟩ : (0 ≤ x25_1) ∧ _ := it_ H
    have c11b0 := decide_eq_true c11
    clear c11
    obtain ⟨c12, H⟩ : (x25_1 < (l1.length : Int)) ∧ _ := it_ H
    have c12b0 := decide_eq_true c12
    clear c12
    obtain ⟨c13, H⟩ : (x25_1 < (x7_1.length : Int)) ∧ _ := it_ H
    have c13b0 := decide_eq_true c13
    clear c13
    revert H
    refine bd_ fun t280 A14 H => ?_
    obtain ⟨y281, hy281⟩ : ∃ y_ : List Int, y_ = (x7_1.set (x25_1 : Int).toNat t280) := ⟨_, rfl⟩
    first | rw [Option.bind_some, ← hy281] at H | rw [← hy281] at H
    have Ny281 := ak hy281
    clear hy281
    have H' := ak H
    clear H
    have p278 : 0 ≤ (x25_1 : Int) := od_
    have q278 : x25_1 < (l1.length : Int) := od_
    obtain ⟨ad278, e278, hx278_0⟩ := Kd.at_int HR1.out x25_1 p278 q278
    cases e278
    replace hx278_0 := (HB.out.cell (World.block_lt_of_cell? w _ hx278_0)).trans hx278_0
    replace p278 := eq_true p278
    replace q278 := eq_true q278
    have pfr16 : 0 ≤ (x25_1 : Int) := od_
    have qfr16 : (x25_1 : Int) < ((x7_1.length : Int) : Int) := od_
    obtain ⟨gofr16, cofr16, eofr16, gbfr16, glfr16, clfr16, HGfr16⟩ := Kd.R_form HO_7.out (by omega)
    (first | cases eofr16 | (injection eofr16 with ea_ en_ ec_; (first | subst ea_ | (injection ea_ with ea_; subst ea_)); subst ec_; clear en_))
    have GBfr16 := ak gbfr16
    have GGfr16 := ak HGfr16
    clear gbfr16 glfr16 HGfr16
    clear pfr16 qfr16
    have p279 : 0 ≤ (x25_1 : Int) := od_
    have q279 : x25_1 < (x7_1.length : Int) := od_
    obtain ⟨ad279, e279, hx279_0⟩ := Kd.at_int (R_reads' HO_7.out).2.2 x25_1 p279 q279
    obtain rfl : (⟨gofr16, 0, none⟩ : Addr) = ad279 := (by injection e279)
    (first | simp only [add_plain] at hx279_0 | simp only [add_at] at hx279_0 | simp only [Addr.add, Nat.zero_add] at hx279_0 | skip)
    replace p279 := eq_true p279
    replace q279 := eq_true q279
    go_wp2_with (first | ((with_reducible refine gate_callee (f := 38) rfl ?_); refine gl_ (some 38) Tryd.func38 #[.int .i64 a0, .int .u64 (rd x7_1 x25_1), .int .u64 (rd l1 x25_1)] ?_; (with_reducible refine (field_Add.calls a0 (rd x7_1 x25_1) (rd l1 x25_1) t280 _ ?side1 A14.out).mono ?_); (case side1 => exact fU_ HG.out HB.out); rintro e w17 ⟨rfl, hb⟩; refine ⟨_, rfl, ?_⟩; refine nx2_ (R_below (rU_ HO_7.out) hb) (below_step (bU_ HB.out) hb) ?_; clear HO_7 HB; intro HO_7 HB; clear hb; have p15 : 0 ≤ (x25_1 : Int) := od_; have q15 : (x25_1 : Int) < ((x7_1.length : Int) : Int) := od_; obtain ⟨hx15_0, hf15_0⟩ := Kd.R_celln 0 HO_7.out (x25_1 : Int) p15 q15; replace p15 := eq_true p15; replace q15 := eq_true q15; obtain ⟨hy18_, hz18_⟩ := Kd.R_celln 0 HO_7.out (x25_1 : Int) od_ od_; have HP18 := Kd.R_putg HO_7.out (x25_1 : Int) t280) | ((with_reducible refine gate_store (t := 22) (p := 39) rfl ?_); refine store_event (t := 22) (p := 39) (v := ?vo_w19) (w1 := (w17.setCell ⟨gofr16, (x25_1 : Int).toNat, none⟩ (.int .u64 t280))) ?hg ?ho ?hn ?hr ?_; (case ho => rfl); (case hg => rfl); (case hn => rfl); (case hr => first | (go_simp; done) | (go_simp; rfl)); intro w19 hw; have hg : w17.grownBy w19 (some gofr16) := (by rw [hw]; exact HP18.2); have hp_ : Kd.R (Kd.int .u64) 22 w19 w.heap.size (fun _ => True) (.slice (some ⟨gofr16, 0, none⟩) x7_1.length co9) y281 := (by rw [hw, Ny281.out]; exact HP18.1); clear HP18; refine nx2_ (hp_) ((by rw [hw]; exact below_set (HB.out) GBfr16.out : Below w.heap.size w w19)) ?_; clear HO_7 HB; intro HO_7 HB; clear hg hw hp_))
    (try simp only [← hl7_1])
    go_roundg k1
    case measure => have := HK1.out; omega
    case rel => exact ⟨(y281), (wrap64 (x25_1 + 1)), gb_, H', ⟨by have := HK1.out; omega⟩, ⟨by (try simp only [hl7_1]); (with_reducible repeat (first | apply Kd.R_alloc | apply Kd.R_drewN | apply R_drew)); exact HO_7.out⟩, ⟨bU_ HB.out⟩⟩
   rw [if_neg c10] at H
   have c10b0 := decide_eq_false c10
   clear c10
   revert H
   refine bd_ fun t282 A20 H => ?_
   obtain rfl := Option.some.inj H
   go_wp2_with (first | ((with_reducible refine gate_callee (f := 34) rfl ?_); refine gl_ (some 43) Tryd.func34 #[.int .i64 a0, .slice Ao9 x7_1.length co9] ?_; (with_reducible refine (poly_Normal.calls k1 a0 _ _ x7_1 t282 _ ?side1 ?side2 ?side3 A20.out).mono ?_); (case side1 => exact fU_ HG.out HB.out); (case side2 => exact cU_ ((R_reads' HO_7.out).2.2)); (case side3 => exact (R_reads' HO_7.out).2.1); rintro e w21 ⟨v283, rfl, ho0, hb⟩; refine ⟨_, rfl, ?_⟩; refine nx3_ (R_elder' (rU_ HO_7.out) (R_base ho0) hb) (R_lower (R_new' ho0 (R_lt (rU_ HO_7.out))) (below_size (bU_ HB.out))) (below_step (bU_ HB.out) hb) ?_; clear HO_7 HB; intro HO_7 HO284 HB; clear hb ho0))
   go_ret
   exact ⟨_, eW_, R_mono (rU_ HO284.out) (fun _ hk => trivial), bU_ HB.out⟩

def poly_Add_no.l0 : Nat → Int → List Int → List Int → Int → Int → Option (List Int)
 | 0, _, _, _, _, _ => none
 | k + 1, x0, x7, x23, x24, x25 => if x25 < x24 then (if 0 ≤ x25 then (if x25 < (x23.length : Int) then (if x25 < (x7.length : Int) then ((field_Add.f x0 (rd x7 x25) (rd x23 x25)).bind fun t292 => (poly_Add_no.l0 k x0 (x7.set (x25 : Int).toNat t292) x23 x24 (wrap64 (x25 + 1)))) else (none)) else (none)) else (none)) else ((poly_Normal.f k x0 x7).bind fun t294 => (some t294))
def poly_Add_no.f (k : Nat) (a0 : Int) (l1 : List Int) (l2 : List Int) : Option (List Int) := if 0 ≤ (l1.length : Int) then (if ((l1.length : Int) : Int).toNat ≤ 35184372088832 then (poly_Add_no.l0 k a0 (cpyAt (List.replicate ((l1.length : Int) : Int).toNat 0) 0 l1) l2 (l2.length : Int) 0) else (none)) else (none)
theorem poly_Add_no.mono_l : ∀ k, (∀ y0 y1 y2 y3 y4, LeO (poly_Add_no.l0 k y0 y1 y2 y3 y4) (poly_Add_no.l0 (k + 1) y0 y1 y2 y3 y4))
 | 0 => fun _ _ _ _ _ r h => by simp [poly_Add_no.l0] at h
 | k + 1 => by
  have ih0 := poly_Add_no.mono_l k
  ·intro y0 y1 y2 y3 y4
   unfold poly_Add_no.l0
   with_reducible repeat' first | apply ih0 | apply poly_Normal.mono | exact LeO.refl _ | exact LeO.none _ | refine LeO.ite ?_ ?_ | refine LeO.bind ?_ (fun _ => ?_)
theorem poly_Add_no.mono : ∀ a0 a1 a2 k, LeO (poly_Add_no.f k a0 a1 a2) (poly_Add_no.f (k + 1) a0 a1 a2) := by
 intro a0 a1 a2 k
 have ih0 := poly_Add_no.mono_l k
 unfold poly_Add_no.f
 with_reducible repeat' first | apply ih0 | apply poly_Normal.mono | exact LeO.refl _ | exact LeO.none _ | refine LeO.ite ?_ ?_ | refine LeO.bind ?_ (fun _ => ?_)
set_option maxHeartbeats 8000000 in
set_option maxRecDepth 100000 in
theorem poly_Add_no.calls (k : Nat) (a0 : Int) (A1 : Option Addr) (c1 : Nat) (l1 : List Int) (A2 : Option Addr) (c2 : Nat) (l2 : List Int) (r : List Int) (w : World) (hX : ¬ ((l1.length : Int) < (l2.length : Int))) (hG : Fld w) (hr1 : Kd.C (Kd.int .u64) w A1 l1.length l1) (hc1 : l1.length ≤ c1) (hr2 : Kd.C (Kd.int .u64) w A2 l2.length l2) (hc2 : l2.length ≤ c2) (h : poly_Add_no.f k a0 l1 l2 = some r) :
  Calls Tryd.prog 89 #[.int .i64 a0, .slice A1 l1.length c1, .slice A2 l2.length c2] w fun e w' => ∃ v0_ : Value, e = .returned (v0_) ∧ Kd.R (Kd.int .u64) 22 w' w.heap.size (fun _ => True) v0_ r ∧ Below w.heap.size w w' := by
 have HG := ak hG
 clear hG
 have hXb0 : decide ((l1.length : Int) < (l2.length : Int)) = false := decide_eq_false hX
 have hXb1 : decide (l1.length < l2.length) = false := decide_eq_false (fun h => hX (Int.ofNat_lt.mpr h))
 clear hX
 have HR1 := ak hr1
 have HC1 := ak hc1
 clear hr1 hc1
 have HR2 := ak hr2
 have HC2 := ak hc2
 clear hr2 hc2
 have HB := ak (Below.refl w.heap.size w)
 have H := h
 clear h
 unfold poly_Add_no.f at H
 obtain ⟨c4, H⟩ : (0 ≤ (l1.length : Int)) ∧ _ := it_ H
 have c4b0 := eq_true c4
 have c4b1 := decide_eq_true c4
 clear c4
 obtain ⟨c5, H⟩ : (((l1.length : Int) : Int).toNat ≤ 35184372088832) ∧ _ := it_ H
 have c5b0 := eq_true c5
 have c5b1 := decide_eq_true c5
 clear c5
 obtain ⟨y285, hy285⟩ : ∃ y_ : List Int, y_ = (List.replicate ((l1.length : Int) : Int).toNat 0) := ⟨_, rfl⟩
 first | rw [Option.bind_some, ← hy285] at H | rw [← hy285] at H
 have Ny285 := ak hy285
 clear hy285
 obtain ⟨y288, hy288⟩ : ∃ y_ : List Int, y_ = (cpyAt y285 0 l1) := ⟨_, rfl⟩
 first | rw [Option.bind_some, ← hy288] at H | rw [← hy288] at H
 have Ny288 := ak hy288
 clear hy288
 have H' := ak H
 clear H
 go_enter Tryd.func89, Tryd.ntmps89
 go_wp2_with (first | ((with_reducible refine gate_dst (N := 19) rfl ?_); refine R_make (Kd.int .u64) _ 22 rfl (N := 19) rfl 33 _ _ rfl (l1.length : Int) ?hx ?hy Tryd.underlying33 (.int .u64 0) 8 info22 rfl (by decide) (by omega) 0 (ok := fun _ => True) (okp := fun _ => True) rfl (fun _ hk => hk) trivial od_ (Nat.le_trans (Nat.mul_le_mul_right _ (od_ : (l1.length : Int).toNat ≤ 35184372088832)) (by omega)) (Below.refl _ _) (Nat.le_refl _) ?_; (case hx => first | rfl); (case hy => first | rfl); intro v286 w6 ho7 hb hg_ hnew_; clear hg_ hnew_; (first | rw [← Ny285.out] at ho7 | (simp only [Int.reduceToNat] at ho7; rw [← Ny285.out] at ho7)); refine nx2_ (R_lower ho7 (below_size (bU_ HB.out))) (below_step (bU_ HB.out) hb) ?_; clear HB; intro HO287 HB; clear hb ho7; obtain ⟨Ao9, co9, eo9⟩ := R_slice HO287.out; subst eo9) | ((with_reducible refine gate_builtin (b := .copy) (xs := #[.tmp 20, .tmp 21]) rfl ?_); skip; refine copy_own_ .u64 (w0 := w) w.heap.size rfl (.tmp 20) (.tmp 21) 33 33 22 rfl Tryd.underlying33 (show (Tryd.prog.info? 22).map (·.size) = some 1 by kernel_rfl) (.slice Ao9 y285.length co9) y285 l1 _ _ _ (fun _ => True) rfl rfl ?aO ?aR (fun _ _ h => h) ?aF ?aB ?aS ?_; (case aR => exact cU_ (C_below HR1.out HB.out)); (case aB => exact (bU_ HB.out)); (case aF => exact (fun _ _ => trivial)); (case aO => exact (rU_ HO287.out)); (case aS => exact (below_size (bU_ HB.out))); intro w8 ho hb hg hat; rw [← Ny288.out] at ho; refine nx2_ (hb) (ho) ?_; clear HB HO287; intro HB HO289; clear ho hb hg hat))
 go_loopg [25] k (fun kq v25 w' => ∃ (x7_1 : List Int) (x25_1 : Int), v25 = .int .i64 x25_1 ∧ Aside0 (poly_Add_no.l0 kq a0 x7_1 l2 (l2.length : Int) x25_1 = some r) ∧ Aside0 (kq ≤ k) ∧ Aside0 (Kd.R (Kd.int .u64) 22 w' w.heap.size (fun _ => True) (.slice Ao9 y285.length co9) x7_1) ∧ Aside0 (Below w.heap.size w w'))
 case atStart => exact ⟨(y288), (0), gb_, H', ⟨Nat.le_refl _⟩, ⟨rU_ HO289.out⟩, ⟨bU_ HB.out⟩⟩
 case round =>
  clear H'
  (try clear c1); (try clear c2); (try clear p2); (try clear c4); (try clear c4b0); (try clear c4b1); (try clear c5); (try clear c5b0); (try clear c5b1); (try clear c8)
  obtain ⟨x7_1, x25_1, rfl, HA, HK1, HO_7, HB⟩ := hrel
  have hl7_1 := (R_reads' HO_7.out).1
  rw [hl7_1] at HO_7
  (try simp only [hl7_1])
  cases gk with
  | zero => exact absurd HA.out (by simp [poly_Add_no.l0])
  | succ k1 =>
   have H := HA.out
   clear HA
   simp only [poly_Add_no.l0] at H
   by_cases c10 : x25_1 < (l2.length : Int)
   ·rw [if_pos c10] at H
    have c10b0 := decide_eq_true c10
    clear c10
    obtain ⟨c11, H⟩ : (0 ≤ x25_1) ∧ _ := it_ H
    have c11b0 := decide_eq_true c11
    clear c11
    obtain ⟨c12, H⟩ : (x25_1 < (l2.length : Int)) ∧ _ := it_ H
    have c12b0 := decide_eq_true c12
    clear c12
    obtain ⟨c13, H⟩ : (x25_1 < (x7_1.length : Int)) ∧ _ := it_ H
    have c13b0 := decide_eq_true c13
    clear c13
    revert H
    refine bd_ fun t292 A14 H => ?_
    obtain ⟨y293, hy293⟩ : ∃ y_ : List Int, y_ = (x7_1.set (x25_1 : Int).toNat t292) := ⟨_, rfl⟩
    first | rw [Option.bind_some, ← hy293] at H | rw [← hy293] at H
    have Ny293 := ak hy293
    clear hy293
    have H' := ak H
    clear H
    have p290 : 0 ≤ (x25_1 : Int) := od_
    have q290 : x25_1 < (l2.length : Int) := od_
    obtain ⟨ad290, e290, hx290_0⟩ := Kd.at_int HR2.out x25_1 p290 q290
    cases e290
    replace hx290_0 := (HB.out.cell (World.block_lt_of_cell? w _ hx290_0)).trans hx290_0
    replace p290 := eq_true p290
    replace q290 := eq_true q290
    have pfr16 : 0 ≤ (x25_1 : Int) := od_
    have qfr16 : (x25_1 : Int) < ((x7_1.length : Int) : Int) := od_
    obtain ⟨gofr16, cofr16, eofr16, gbfr16, glfr16, clfr16, HGfr16⟩ := Kd.R_form HO_7.out (by omega)
    (first | cases eofr16 | (injection eofr16 with ea_ en_ ec_; (first | subst ea_ | (injection ea_ with ea_; subst ea_)); subst ec_; clear en_))
    have GBfr16 := ak gbfr16
    have GGfr16 := ak HGfr16
    clear gbfr16 glfr16 HGfr16
    clear pfr16 qfr16
    have p291 : 0 ≤ (x25_1 : Int) := od_
    have q291 : x25_1 < (x7_1.length : Int) := od_
    obtain ⟨ad291, e291, hx291_0⟩ := Kd.at_int (R_reads' HO_7.out).2.2 x25_1 p291 q291
    obtain rfl : (⟨gofr16, 0, none⟩ : Addr) = ad291 := (by injection e291)
    (first | simp only [add_plain] at hx291_0 | simp only [add_at] at hx291_0 | simp only [Addr.add, Nat.zero_add] at hx291_0 | skip)
    replace p291 := eq_true p291
    replace q291 := eq_true q291
    go_wp2_with (first | ((with_reducible refine gate_callee (f := 38) rfl ?_); refine gl_ (some 38) Tryd.func38 #[.int .i64 a0, .int .u64 (rd x7_1 x25_1), .int .u64 (rd l2 x25_1)] ?_; (with_reducible refine (field_Add.calls a0 (rd x7_1 x25_1) (rd l2 x25_1) t292 _ ?side1 A14.out).mono ?_); (case side1 => exact fU_ HG.out HB.out); rintro e w17 ⟨rfl, hb⟩; refine ⟨_, rfl, ?_⟩; refine nx2_ (R_below (rU_ HO_7.out) hb) (below_step (bU_ HB.out) hb) ?_; clear HO_7 HB; intro HO_7 HB; clear hb; have p15 : 0 ≤ (x25_1 : Int) := od_; have q15 : (x25_1 : Int) < ((x7_1.length : Int) : Int) := od_; obtain ⟨hx15_0, hf15_0⟩ := Kd.R_celln 0 HO_7.out (x25_1 : Int) p15 q15; replace p15 := eq_true p15; replace q15 := eq_true q15; obtain ⟨hy18_, hz18_⟩ := Kd.R_celln 0 HO_7.out (x25_1 : Int) od_ od_; have HP18 := Kd.R_putg HO_7.out (x25_1 : Int) t292) | ((with_reducible refine gate_store (t := 22) (p := 39) rfl ?_); refine store_event (t := 22) (p := 39) (v := ?vo_w19) (w1 := (w17.setCell ⟨gofr16, (x25_1 : Int).toNat, none⟩ (.int .u64 t292))) ?hg ?ho ?hn ?hr ?_; (case ho => rfl); (case hg => rfl); (case hn => rfl); (case hr => first | (go_simp; done) | (go_simp; rfl)); intro w19 hw; have hg : w17.grownBy w19 (some gofr16) := (by rw [hw]; exact HP18.2); have hp_ : Kd.R (Kd.int .u64) 22 w19 w.heap.size (fun _ => True) (.slice (some ⟨gofr16, 0, none⟩) x7_1.length co9) y293 := (by rw [hw, Ny293.out]; exact HP18.1); clear HP18; refine nx2_ (hp_) ((by rw [hw]; exact below_set (HB.out) GBfr16.out : Below w.heap.size w w19)) ?_; clear HO_7 HB; intro HO_7 HB; clear hg hw hp_))
    (try simp only [← hl7_1])
    go_roundg k1
    case measure => have := HK1.out; omega
    case rel => exact ⟨(y293), (wrap64 (x25_1 + 1)), gb_, H', ⟨by have := HK1.out; omega⟩, ⟨by (try simp only [hl7_1]); (with_reducible repeat (first | apply Kd.R_alloc | apply Kd.R_drewN | apply R_drew)); exact HO_7.out⟩, ⟨bU_ HB.out⟩⟩
   rw [if_neg c10] at H
   have c10b0 := decide_eq_false c10
   clear c10
   revert H
   refine bd_ fun t294 A20 H => ?_
   obtain rfl := Option.some.inj H
   go_wp2_with (first | ((with_reducible refine gate_callee (f := 34) rfl ?_); refine gl_ (some 43) Tryd.func34 #[.int .i64 a0, .slice Ao9 x7_1.length co9] ?_; (with_reducible refine (poly_Normal.calls k1 a0 _ _ x7_1 t294 _ ?side1 ?side2 ?side3 A20.out).mono ?_); (case side1 => exact fU_ HG.out HB.out); (case side2 => exact cU_ ((R_reads' HO_7.out).2.2)); (case side3 => exact (R_reads' HO_7.out).2.1); rintro e w21 ⟨v295, rfl, ho0, hb⟩; refine ⟨_, rfl, ?_⟩; refine nx3_ (R_elder' (rU_ HO_7.out) (R_base ho0) hb) (R_lower (R_new' ho0 (R_lt (rU_ HO_7.out))) (below_size (bU_ HB.out))) (below_step (bU_ HB.out) hb) ?_; clear HO_7 HB; intro HO_7 HO296 HB; clear hb ho0))
   go_ret
   exact ⟨_, eW_, R_mono (rU_ HO296.out) (fun _ hk => trivial), bU_ HB.out⟩

def poly_Add.f (k : Nat) (a0 : Int) (l1 : List Int) (l2 : List Int) : Option (List Int) := if (l1.length : Int) < (l2.length : Int) then poly_Add_yes.f k a0 l1 l2 else poly_Add_no.f k a0 l1 l2
theorem poly_Add.mono : ∀ a0 l1 l2 k, LeO (poly_Add.f k a0 l1 l2) (poly_Add.f (k + 1) a0 l1 l2) := by
 intro a0 l1 l2 k
 unfold poly_Add.f
 exact LeO.ite (poly_Add_yes.mono _ _ _ _) (poly_Add_no.mono _ _ _ _)
theorem poly_Add.calls (k : Nat) (a0 : Int) (A1 : Option Addr) (c1 : Nat) (l1 : List Int) (A2 : Option Addr) (c2 : Nat) (l2 : List Int) (r : List Int) (w : World) (hG : Fld w) (hr1 : Kd.C (Kd.int .u64) w A1 l1.length l1) (hc1 : l1.length ≤ c1) (hr2 : Kd.C (Kd.int .u64) w A2 l2.length l2) (hc2 : l2.length ≤ c2) (h : poly_Add.f k a0 l1 l2 = some r) :
  Calls Tryd.prog 89 #[.int .i64 a0, .slice A1 l1.length c1, .slice A2 l2.length c2] w fun e w' => ∃ v0_ : Value, e = .returned (v0_) ∧ Kd.R (Kd.int .u64) 22 w' w.heap.size (fun _ => True) v0_ r ∧ Below w.heap.size w w' := by
 unfold poly_Add.f at h
 by_cases hX : (l1.length : Int) < (l2.length : Int)
 ·rw [if_pos hX] at h
  exact poly_Add_yes.calls k a0 A1 c1 l1 A2 c2 l2 r w hX hG hr1 hc1 hr2 hc2 h
 rw [if_neg hX] at h
 exact poly_Add_no.calls k a0 A1 c1 l1 A2 c2 l2 r w hX hG hr1 hc1 hr2 hc2 h

def poly_Scale.l0 : Nat → Int → Int → List Int → List Int → Int → Int → Option (List Int)
 | 0, _, _, _, _, _, _ => none
 | k + 1, x0, x2, x7, x13, x14, x15 => if x15 < x14 then (if 0 ≤ x15 then (if x15 < (x13.length : Int) then ((field_Mul.f x0 (rd x13 x15) x2).bind fun t301 => (if x15 < (x7.length : Int) then (poly_Scale.l0 k x0 x2 (x7.set (x15 : Int).toNat t301) x13 x14 (wrap64 (x15 + 1))) else (none))) else (none)) else (none)) else ((poly_trim.f k x7).bind fun t303 => (some t303))
def poly_Scale.f (k : Nat) (a0 : Int) (l1 : List Int) (a2 : Int) : Option (List Int) := if 0 ≤ (l1.length : Int) then (if ((l1.length : Int) : Int).toNat ≤ 35184372088832 then (poly_Scale.l0 k a0 a2 (List.replicate ((l1.length : Int) : Int).toNat 0) l1 (l1.length : Int) 0) else (none)) else (none)
theorem poly_Scale.mono_l : ∀ k, (∀ y0 y1 y2 y3 y4 y5, LeO (poly_Scale.l0 k y0 y1 y2 y3 y4 y5) (poly_Scale.l0 (k + 1) y0 y1 y2 y3 y4 y5))
 | 0 => fun _ _ _ _ _ _ r h => by simp [poly_Scale.l0] at h
 | k + 1 => by
  have ih0 := poly_Scale.mono_l k
  ·intro y0 y1 y2 y3 y4 y5
   unfold poly_Scale.l0
   with_reducible repeat' first | apply ih0 | apply poly_trim.mono | exact LeO.refl _ | exact LeO.none _ | refine LeO.ite ?_ ?_ | refine LeO.bind ?_ (fun _ => ?_)
theorem poly_Scale.mono : ∀ a0 a1 a2 k, LeO (poly_Scale.f k a0 a1 a2) (poly_Scale.f (k + 1) a0 a1 a2) := by
 intro a0 a1 a2 k
 have ih0 := poly_Scale.mono_l k
 unfold poly_Scale.f
 with_reducible repeat' first | apply ih0 | apply poly_trim.mono | exact LeO.refl _ | exact LeO.none _ | refine LeO.ite ?_ ?_ | refine LeO.bind ?_ (fun _ => ?_)
set_option maxHeartbeats 8000000 in
set_option maxRecDepth 100000 in
theorem poly_Scale.calls (k : Nat) (a0 : Int) (A1 : Option Addr) (c1 : Nat) (l1 : List Int) (a2 : Int) (r : List Int) (w : World) (hG : Fld w) (hr1 : Kd.C (Kd.int .u64) w A1 l1.length l1) (hc1 : l1.length ≤ c1) (h : poly_Scale.f k a0 l1 a2 = some r) :
  Calls Tryd.prog 90 #[.int .i64 a0, .slice A1 l1.length c1, .int .u64 a2] w fun e w' => ∃ v0_ : Value, e = .returned (v0_) ∧ Kd.R (Kd.int .u64) 22 w' w.heap.size (fun _ => True) v0_ r ∧ Below w.heap.size w w' := by
 have HG := ak hG
 clear hG
 have HR1 := ak hr1
 have HC1 := ak hc1
 clear hr1 hc1
 have HB := ak (Below.refl w.heap.size w)
 have H := h
 clear h
 unfold poly_Scale.f at H
 obtain ⟨c4, H⟩ : (0 ≤ (l1.length : Int)) ∧ _ := it_ H
 have c4b0 := eq_true c4
 have c4b1 := decide_eq_true c4
 clear c4
 obtain ⟨c5, H⟩ : (((l1.length : Int) : Int).toNat ≤ 35184372088832) ∧ _ := it_ H
 have c5b0 := eq_true c5
 have c5b1 := decide_eq_true c5
 clear c5
 obtain ⟨y297, hy297⟩ : ∃ y_ : List Int, y_ = (List.replicate ((l1.length : Int) : Int).toNat 0) := ⟨_, rfl⟩
 first | rw [Option.bind_some, ← hy297] at H | rw [← hy297] at H
 have Ny297 := ak hy297
 clear hy297
 have H' := ak H
 clear H
 go_enter Tryd.func90, Tryd.ntmps90
 go_wp2_with (first | ((with_reducible refine gate_dst (N := 12) rfl ?_); refine R_make (Kd.int .u64) _ 22 rfl (N := 12) rfl 33 _ _ rfl (l1.length : Int) ?hx ?hy Tryd.underlying33 (.int .u64 0) 8 info22 rfl (by decide) (by omega) 0 (ok := fun _ => True) (okp := fun _ => True) rfl (fun _ hk => hk) trivial od_ (Nat.le_trans (Nat.mul_le_mul_right _ (od_ : (l1.length : Int).toNat ≤ 35184372088832)) (by omega)) (Below.refl _ _) (Nat.le_refl _) ?_; (case hx => first | rfl); (case hy => first | rfl); intro v298 w6 ho7 hb hg_ hnew_; clear hg_ hnew_; (first | rw [← Ny297.out] at ho7 | (simp only [Int.reduceToNat] at ho7; rw [← Ny297.out] at ho7)); refine nx2_ (R_lower ho7 (below_size (bU_ HB.out))) (below_step (bU_ HB.out) hb) ?_; clear HB; intro HO299 HB; clear hb ho7))
 go_loopg [15] k (fun kq v15 w' => ∃ (x7_1 : List Int) (x15_1 : Int), v15 = .int .i64 x15_1 ∧ Aside0 (poly_Scale.l0 kq a0 a2 x7_1 l1 (l1.length : Int) x15_1 = some r) ∧ Aside0 (kq ≤ k) ∧ Aside0 (Kd.R (Kd.int .u64) 22 w' w.heap.size (fun _ => True) v298 x7_1) ∧ Aside0 (Below w.heap.size w w'))
 case atStart => exact ⟨(y297), (0), gb_, H', ⟨Nat.le_refl _⟩, ⟨rU_ HO299.out⟩, ⟨bU_ HB.out⟩⟩
 case round =>
  clear H'
  (try clear c1); (try clear p2); (try clear c4); (try clear c4b0); (try clear c4b1); (try clear c5); (try clear c5b0); (try clear c5b1)
  obtain ⟨x7_1, x15_1, rfl, HA, HK1, HO_7, HB⟩ := hrel
  cases gk with
  | zero => exact absurd HA.out (by simp [poly_Scale.l0])
  | succ k1 =>
   have H := HA.out
   clear HA
   simp only [poly_Scale.l0] at H
   by_cases c8 : x15_1 < (l1.length : Int)
   ·rw [if_pos c8] at H
    have c8b0 := decide_eq_true c8
    clear c8
    obtain ⟨c9, H⟩ : (0 ≤ x15_1) ∧ _ := it_ H
    have c9b0 := decide_eq_true c9
    clear c9
    obtain ⟨c10, H⟩ : (x15_1 < (l1.length : Int)) ∧ _ := it_ H
    have c10b0 := decide_eq_true c10
    clear c10
    revert H
    refine bd_ fun t301 A11 H => ?_
    obtain ⟨c12, H⟩ : (x15_1 < (x7_1.length : Int)) ∧ _ := it_ H
    have c12b0 := decide_eq_true c12
    clear c12
    obtain ⟨y302, hy302⟩ : ∃ y_ : List Int, y_ = (x7_1.set (x15_1 : Int).toNat t301) := ⟨_, rfl⟩
    first | rw [Option.bind_some, ← hy302] at H | rw [← hy302] at H
    have Ny302 := ak hy302
    clear hy302
    have H' := ak H
    clear H
    have p300 : 0 ≤ (x15_1 : Int) := od_
    have q300 : x15_1 < (l1.length : Int) := od_
    obtain ⟨ad300, e300, hx300_0⟩ := Kd.at_int HR1.out x15_1 p300 q300
    cases e300
    replace hx300_0 := (HB.out.cell (World.block_lt_of_cell? w _ hx300_0)).trans hx300_0
    replace p300 := eq_true p300
    replace q300 := eq_true q300
    go_wp2_with (first | ((with_reducible refine gate_callee (f := 55) rfl ?_); refine gl_ (some 25) Tryd.func55 #[.int .i64 a0, .int .u64 (rd l1 x15_1), .int .u64 a2] ?_; (with_reducible refine (field_Mul.calls a0 (rd l1 x15_1) a2 t301 _ ?side1 A11.out).mono ?_); (case side1 => exact fU_ HG.out HB.out); rintro e w14 ⟨rfl, hb⟩; refine ⟨_, rfl, ?_⟩; refine nx2_ (R_below (rU_ HO_7.out) hb) (below_step (bU_ HB.out) hb) ?_; clear HO_7 HB; intro HO_7 HB; clear hb; have p13 : 0 ≤ (x15_1 : Int) := od_; have q13 : (x15_1 : Int) < ((x7_1.length : Int) : Int) := od_; obtain ⟨go13, co13, eo13, gb13, gl13, cl13, HG13⟩ := Kd.R_form HO_7.out (by omega); (first | cases eo13 | (injection eo13 with ea_ en_ ec_; (first | subst ea_ | (injection ea_ with ea_; subst ea_)); subst ec_; clear en_)); have GB13 := ak gb13; have GG13 := ak HG13; clear gb13 gl13 HG13; obtain ⟨hx13_0, hf13_0⟩ := Kd.R_celln 0 HO_7.out (x15_1 : Int) p13 q13; replace p13 := eq_true p13; replace q13 := eq_true q13; obtain ⟨hy15_, hz15_⟩ := Kd.R_celln 0 HO_7.out (x15_1 : Int) od_ od_; have HP15 := Kd.R_putg HO_7.out (x15_1 : Int) t301) | ((with_reducible refine gate_store (t := 22) (p := 26) rfl ?_); refine store_event (t := 22) (p := 26) (v := ?vo_w16) (w1 := (w14.setCell ⟨go13, (x15_1 : Int).toNat, none⟩ (.int .u64 t301))) ?hg ?ho ?hn ?hr ?_; (case ho => rfl); (case hg => rfl); (case hn => rfl); (case hr => first | (go_simp; done) | (go_simp; rfl)); intro w16 hw; have hg : w14.grownBy w16 (some go13) := (by rw [hw]; exact HP15.2); have hp_ : Kd.R (Kd.int .u64) 22 w16 w.heap.size (fun _ => True) (.slice (some ⟨go13, 0, none⟩) x7_1.length co13) y302 := (by rw [hw, Ny302.out]; exact HP15.1); clear HP15; refine nx2_ (hp_) ((by rw [hw]; exact below_set (HB.out) GB13.out : Below w.heap.size w w16)) ?_; clear HO_7 HB; intro HO_7 HB; clear hg hw hp_))
    go_roundg k1
    case measure => have := HK1.out; omega
    case rel => exact ⟨(y302), (wrap64 (x15_1 + 1)), gb_, H', ⟨by have := HK1.out; omega⟩, ⟨rU_ HO_7.out⟩, ⟨bU_ HB.out⟩⟩
   rw [if_neg c8] at H
   have c8b0 := decide_eq_false c8
   clear c8
   revert H
   refine bd_ fun t303 A17 H => ?_
   obtain rfl := Option.some.inj H
   obtain ⟨Ao18, co18, eo18⟩ := R_slice HO_7.out
   subst eo18
   go_wp2_with (first | ((with_reducible refine gate_callee (f := 72) rfl ?_); refine gl_ (some 29) Tryd.func72 #[.slice Ao18 x7_1.length co18] ?_; (with_reducible refine (poly_trim.calls k1 (fun k_ => some k_ = (.slice Ao18 x7_1.length co18 : Value).ownBlock) (.slice Ao18 x7_1.length co18) x7_1 t303 w _ ?side1 ?side2 A17.out).mono ?_); (case side1 => repeat (first | (with_reducible first | exact HB.out | apply below_alloc | apply pw_below_drewN | apply below_drew1) | exact HB.out)); (case side2 => exact R_tight rfl HO_7.out); rintro e w19 ⟨v304, rfl, ho0, hb, hkp⟩; refine ⟨_, rfl, ?_⟩; refine nx2_ (R_mono (ok' := fun k_ => True) ho0 (fun k_ hk_ => trivial)) (hb) ?_; clear HB HO_7; intro HO305 HB; clear hb hkp ho0))
   go_ret
   exact ⟨_, eW_, rU_ HO305.out, bU_ HB.out⟩

end Go.Proofs.YtedapdagagkajaaDoor.Q
