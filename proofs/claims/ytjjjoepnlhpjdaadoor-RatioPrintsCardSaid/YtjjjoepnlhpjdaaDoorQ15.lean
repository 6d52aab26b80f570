-- Written by prx.py (this session's driver of the kit's print) out of the translation. Not trusted: Lean checks it.
import Derived.Test.YtjjjoepnlhpjdaaDoorQ0
import Derived.Test.YtjjjoepnlhpjdaaDoorQ1
import Derived.Test.YtjjjoepnlhpjdaaDoorQ2
import Derived.Test.YtjjjoepnlhpjdaaDoorQ3
import Derived.Test.YtjjjoepnlhpjdaaDoorQ4
import Derived.Test.YtjjjoepnlhpjdaaDoorQ5
import Derived.Test.YtjjjoepnlhpjdaaDoorQ11
namespace Go.Proofs.YtjjjoepnlhpjdaaDoor.Q
open Go.RowKit Go.Proofs.YtjjjoepnlhpjdaaDoorW.PrintWords Go.Proofs.YtjjjoepnlhpjdaaDoorW.PrintLast Go.Proofs.YtjjjoepnlhpjdaaDoorW.PrintMore
attribute [local go_sem] max2_int min2_int max_two min_two max_three min_three max_four min_four   -- for this text's walks alone
set_option linter.unusedVariables false
set_option linter.unusedSimpArgs false

section
variable {P : Program} {ops : Array Oper} {rest : List Oper} {o : Oper} {a : Act} {Q : Exit → Act → World → Prop}
theorem self_run {V : World} {g : Nat} {src e : TypeId} {x : Int} (h1 : P.underlying src = some (.slice e)) (h2 : P.underlying e = some (.int .u8)) (hh : V.heap[g]? = some (.cells #[.int .u8 x] e (0, 0))) : (convert src src (.slice (some ⟨g, 0, none⟩) 1 1)).run P V = .ok (.slice (some ⟨g, 0, none⟩) 1 1) (V.freeze ⟨g, 1, none⟩ 1) := by
  have hs : V.shape? g = some (e, 1) := by simp [World.shape?, hh]
  simp [convert, run_underlying h1, run_underlying h2, markStringish, shape, freeze, Sem.run, hs]
theorem frz_heap {V : World} {g : Nat} {e : TypeId} {x : Int} (hh : V.heap[g]? = some (.cells #[.int .u8 x] e (0, 0))) : (V.freeze ⟨g, 1, none⟩ 1).heap[g]? = some (.cells #[.int .u8 x] e (1, 2)) := by
  simp [World.freeze, Array.getElem?_modify, hh]
theorem frz_below {V W : World} {B g : Nat} (h : Below B W V) (hg : B ≤ g) : Below B W (V.freeze ⟨g, 1, none⟩ 1) := by
  refine ⟨h.os, h.tape, h.output, ?_, fun k hk => ?_⟩
  · show W.heap.size ≤ (V.heap.modify g _).size
    rw [Array.size_modify]
    exact h.size
  · refine Eq.trans ?_ (h.block k hk)
    show (V.heap.modify g _)[k]? = _
    rw [Array.getElem?_modify, if_neg (by omega)]
theorem lit_frz {W : World} (e : Nat) (hgd : o.guard = none) {N : Tmp} (_hd : o.dst = some N) {x : Int}
    (hrun : (execOp a.eval o).run P W = .ok (.value (.slice (some ⟨W.heap.size, 0, none⟩) 1 1)) (W.alloc (.cells #[.int .u8 x] e)))
    (h : ∀ (g : Nat) (w1 w2 : World), (∀ src, P.underlying src = some (.slice e) → P.underlying e = some (.int .u8) → (convert src src (.slice (some ⟨g, 0, none⟩) 1 1)).run P w1 = .ok (.slice (some ⟨g, 0, none⟩) 1 1) w2) →
      w2.heap[g]? = some (.cells #[.int .u8 x] e (1, 2)) → Below W.heap.size W w2 → wpList P ops Q rest (a.put o.dst (.slice (some ⟨g, 0, none⟩) 1 1)) w1) : wpList P ops Q (o :: rest) a W :=
  Kd.event_run hgd hrun (h W.heap.size _ _ (fun _ h1 h2 => self_run h1 h2 (blk_new W _)) (frz_heap (blk_new W _)) (frz_below (below_alloc (Below.refl _ _) _) (Nat.le_refl _)))
theorem str_blk {w : World} {g : Nat} {src dst e : TypeId} {fr : Nat × Nat} {x : Int} (hs : P.underlying src = some (.slice e)) (he : P.underlying e = some (.int .u8)) (hd : P.underlying dst = some .string) (h : w.heap[g]? = some (.cells #[.int .u8 x] e fr)) {y : List Int} (hy : y = [x]) :
    (convert src dst (.slice (some ⟨g, 0, none⟩) 1 1)).run P w = .ok (.string (strOfNums y)) w := by
  subst hy
  refine run_convert_bytes_arg w src e hs he g 0 1 1 [x] rfl (fun i hi => ?_) dst hd
  obtain rfl : i = 0 := by omega
  exact cell_of_row w g 0 _ e fr h
end
/-! ### attestorlaw02_RatioPrints: function 4 -/
mutual
def attestorlaw02_RatioPrints.j0 : Nat → List Int → List Int → List Int → Option (Bool)
 | 0, _, _, _ => none
 | k + 1, x0, x1, x2 => (attestorlaw02_fraction.f k x0 x1 64).bind fun bt696 => ((ratio_Show.f k bt696.1 bt696.2.1).bind fun t704 => ((ratio_Read.f k t704).bind fun bt705 => (if bt696.2.2 = true then (if bt705.2.2 = 0 then ((attestorlaw02_same.f k bt696.1 bt705.1).bind fun t713 => (if t713 = true then ((attestorlaw02_same.f k bt696.2.1 bt705.2.1).bind fun t714 => (if t714 = true then (attestorlaw02_RatioPrints.j1 k x2) else (none))) else (none))) else (none)) else (none))))
def attestorlaw02_RatioPrints.j1 : Nat → List Int → Option (Bool)
 | 0, _ => none
 | k + 1, x2 => attestorlaw02_RatioPrints.l0 k x2 ([] : List Int) 0
def attestorlaw02_RatioPrints.j3 : Nat → List Int → Option (Bool)
 | 0, _ => none
 | k + 1, x14 => if (x14.length : Int) = 0 then ((some (([48] : List Int) : List Int)).bind fun y722 => ((ratio_Parse.f k (strOfNums y722)).bind fun bt725 => (if bt725.2 = 0 then ((ratio_Text.f k bt725.1).bind fun t729 => (if t729.toList = (strOfNums y722).toList then ((attestorlaw02_works.f k).bind fun t730 => (some t730)) else (none))) else (none)))) else ((ratio_Parse.f k (strOfNums x14)).bind fun bt731 => (if bt731.2 = 0 then ((ratio_Text.f k bt731.1).bind fun t735 => (if t735.toList = (strOfNums x14).toList then ((attestorlaw02_works.f k).bind fun t736 => (some t736)) else (none))) else (none)))
def attestorlaw02_RatioPrints.l0 : Nat → List Int → List Int → Int → Option (Bool)
 | 0, _, _, _ => none
 | k + 1, x2, x14, x15 => if x15 < (x2.length : Int) then (if x15 < 600 then (if 0 ≤ x15 then (if ((48 + (Int.tmod (rd x2 x15) 10)) % 256) = 48 then (if (x14.length : Int) > 0 then (if x14.length < 140737488355328 then (attestorlaw02_RatioPrints.l0 k x2 (x14 ++ [(48 + (Int.tmod (rd x2 x15) 10)) % 256]) (wrap64 (x15 + 1))) else (none)) else (attestorlaw02_RatioPrints.l0 k x2 x14 (wrap64 (x15 + 1)))) else (if x14.length < 140737488355328 then (attestorlaw02_RatioPrints.l0 k x2 (x14 ++ [(48 + (Int.tmod (rd x2 x15) 10)) % 256]) (wrap64 (x15 + 1))) else (none))) else (none)) else (attestorlaw02_RatioPrints.j3 k x14)) else (attestorlaw02_RatioPrints.j3 k x14)
end
def attestorlaw02_RatioPrints.f (k : Nat) (l0 : List Int) (l1 : List Int) (l2 : List Int) : Option (Bool) := (attestorlaw02_nat.f k l0 64).bind fun t687 => ((ratio_Text.f k t687).bind fun t690 => ((ratio_Parse.f k t690).bind fun bt691 => (if bt691.2 = 0 then ((attestorlaw02_same.f k t687 bt691.1).bind fun t695 => (if t695 = true then (attestorlaw02_RatioPrints.j0 k l0 l1 l2) else (none))) else (none))))
def attestorlaw02_RatioPrints.T19 : Bool × List (List Nat × List Nat) := (true, [([], []), ([0], [0]), ([1], [1]), ([2], [2]), ([3, 2, 2], [2, 3]), ([2], [2]), ([5, 2], [2, 5]), ([4, 6, 2], [2, 4, 6]), ([2, 7], [2, 7]), ([8, 4], [8]), ([9, 9], [9]), ([9, 10], [9, 10]), ([11, 10, 0, 1, 2, 3, 4, 5, 6, 7, 8, 9, 10, 11], [11])])
def attestorlaw02_RatioPrints.B19 : List Nat := [0, 1, 3, 7, 15, 7, 39, 127, 255, 511, 1023, 2047, 4095]
theorem attestorlaw02_RatioPrints.tab19 : rtab .any (opsOf Tryd.f4 19) = attestorlaw02_RatioPrints.T19 := by kernel_rfl
theorem attestorlaw02_RatioPrints.bits19 : waitsOk attestorlaw02_RatioPrints.T19.2 attestorlaw02_RatioPrints.B19 = true := by kernel_rfl
set_option maxHeartbeats 8000000 in
set_option maxRecDepth 100000 in
theorem attestorlaw02_RatioPrints.calls (k : Nat) (A0 : Option Addr) (c0 : Nat) (l0 : List Int) (A1 : Option Addr) (c1 : Nat) (l1 : List Int) (A2 : Option Addr) (c2 : Nat) (l2 : List Int) (r : Bool) (w : World) (hr0 : Kd.C (Kd.int .u32) w A0 l0.length l0) (hc0 : l0.length ≤ c0) (hr1 : Kd.C (Kd.int .u32) w A1 l1.length l1) (hc1 : l1.length ≤ c1) (hr2 : Kd.C (Kd.int .u8) w A2 l2.length l2) (hc2 : l2.length ≤ c2) (h : attestorlaw02_RatioPrints.f k l0 l1 l2 = some r) :
  Calls Tryd.prog 4 #[.slice A0 l0.length c0, .slice A1 l1.length c1, .slice A2 l2.length c2] w fun e w' => e = .returned (.bool r) ∧ Below w.heap.size w w' := by
 have hu29 := Tryd.underlying29
 have HR0 := ak hr0
 have HC0 := ak hc0
 clear hr0 hc0
 have HR1 := ak hr1
 have HC1 := ak hc1
 clear hr1 hc1
 have HR2 := ak hr2
 have HC2 := ak hc2
 clear hr2 hc2
 have HB := ak (Below.refl w.heap.size w)
 have H : ((attestorlaw02_nat.f k l0 64).bind fun t687 => ((ratio_Text.f k t687).bind fun t690 => ((ratio_Parse.f k t690).bind fun bt691 => (if bt691.2 = 0 then ((attestorlaw02_same.f k t687 bt691.1).bind fun t695 => (if t695 = true then (attestorlaw02_RatioPrints.j0 k l0 l1 l2) else (none))) else (none))))) = some r := h
 clear h
 revert H
 refine bd_ fun t687 A4 H => ?_
 revert H
 refine bd_ fun t690 A5 H => ?_
 revert H
 refine bd2_ fun t691 t694 A6 H => ?_
 try dsimp only at H
 obtain ⟨c7, H⟩ : (t694 = 0) ∧ _ := it_ H
 have c7b0 := beq_iff_eq.mpr c7
 have c7b1 := bne_eq_false_iff_eq.mpr c7
 clear c7
 revert H
 refine bd_ fun t695 A8 H => ?_
 have HC9 := ak H
 clear H
 go_enter Tryd.func4, Tryd.ntmps4
 go_upto_if 34 with (first | ((with_reducible refine gate_callee (f := 20) rfl ?_); refine gl_ (some 20) Tryd.func20 #[.slice A0 l0.length c0, .int .i64 64] ?_; (with_reducible refine (attestorlaw02_nat.calls k _ _ l0 64 t687 _ ?side1 ?side2 A4.out).mono ?_); (case side1 => exact cU_ HR0.out); (case side2 => exact HC0.out); rintro e w10 ⟨v688, rfl, ho0, hb⟩; refine ⟨_, rfl, ?_⟩; refine nx2_ (Kd.R_lower ho0 (below_size (bU_ HB.out))) (below_step (bU_ HB.out) hb) ?_; clear HB; intro HO689 HB; clear hb ho0; obtain ⟨Ao11, co11, eo11⟩ := Kd.R_slice HO689.out; subst eo11) | ((with_reducible refine gate_callee (f := 21) rfl ?_); refine gl_ (some 23) Tryd.func21 #[.slice Ao11 t687.length co11] ?_; (with_reducible refine (ratio_Text.calls k (fun k_ => some k_ = (.slice Ao11 t687.length co11 : Value).ownBlock) _ _ t687 t690 _ ?side1 A5.out).mono ?_); (case side1 => exact Kd.R_V (Kd.R_tight rfl (HO689.out))); rintro e w12 ⟨rfl, hb⟩; refine ⟨_, rfl, ?_⟩; refine nx2_ (Kd.R_below (rU_ HO689.out) hb) (below_step (bU_ HB.out) hb) ?_; clear HO689 HB; intro HO689 HB; clear hb) | ((with_reducible refine gate_callee (f := 11) rfl ?_); refine gl_ (some 24) Tryd.func11 #[.string t690] ?_; (with_reducible refine (ratio_Parse.calls k t690 t691 t694 _ A6.out).mono ?_); rintro e w13 ⟨v692, rfl, ho0, hb⟩; refine ⟨_, rfl, ?_⟩; refine nx3_ (Kd.R_below (rU_ HO689.out) hb) (Kd.V_lower (Kd.V_mono (ok' := fun k_ => some k_ ≠ (.slice Ao11 t687.length co11 : Value).ownBlock) ho0 (fun k_ hk_ => (Kd.fresh' (Kd.R_lt (rU_ HO689.out)) k_ hk_))) (below_size (bU_ HB.out))) (below_step (bU_ HB.out) hb) ?_; clear HO689 HB; intro HO689 HO693 HB; clear hb ho0; obtain ⟨Ao14, co14, eo14⟩ := Kd.V_slice HO693.out; subst eo14) | (go_at_call 22; (with_reducible refine (attestorlaw02_same.calls k _ _ t687 _ _ t691 t695 _ ?side1 ?side2 ?side3 ?side4 A8.out).mono ?_); (case side1 => exact cU_ ((Kd.R_reads' HO689.out).2.2)); (case side2 => exact (Kd.R_reads' HO689.out).2.1); (case side3 => exact cU_ ((Kd.V_reads' HO693.out).2.2)); (case side4 => exact (Kd.V_reads' HO693.out).2.1); rintro e w' ⟨rfl, ⟨nd, rfl⟩⟩))
 (try simp only [Act.put, s1_, s2_, s3_])
 go_cut [] (fun wc => ∃ (kq : Nat), Aside0 (attestorlaw02_RatioPrints.j0 kq l0 l1 l2 = some r) ∧ Aside0 (kq ≤ k) ∧ Aside0 (Below w.heap.size w wc))
 case first =>
  have H := HC9.out
  clear HC9
  by_cases c15 : t695 = true
  ·subst c15
   rw [if_pos rfl] at H
   have H' := ak H
   clear H
   go_wp2
   go_meet
   case rel => exact ⟨_, H', ⟨by first | omega | exact Nat.le_refl _⟩, ⟨bU_ HB.out⟩⟩
  ·replace c15 := Bool.eq_false_iff.mpr c15
   subst c15
   rw [if_neg (show ¬ (false = true) by decide)] at H
   exact absurd H (by simp)
 case rest =>
  clear HC9
  (try clear c1); (try clear c2); (try clear p2); (try clear c4); (try clear c7); (try clear c7b0); (try clear c7b1); (try clear c11); (try clear c15)
  obtain ⟨kq, HA, HJ8, HB⟩ := hcut
  cases kq with
  | zero => exact absurd HA.out (by simp [attestorlaw02_RatioPrints.j0])
  | succ kj8 =>
   have H := HA.out
   clear HA
   simp only [attestorlaw02_RatioPrints.j0] at H
   revert H
   refine bd3_ fun t696 t699 t702 A16 H => ?_
   try dsimp only at H
   revert H
   refine bd_ fun t704 A17 H => ?_
   revert H
   refine bd3_ fun t705 t708 t711 A18 H => ?_
   try dsimp only at H
   by_cases c19 : t702 = true
   ·subst c19
    rw [if_pos rfl] at H
    obtain ⟨c20, H⟩ : (t711 = 0) ∧ _ := it_ H
    have c20b0 := beq_iff_eq.mpr c20
    have c20b1 := bne_eq_false_iff_eq.mpr c20
    clear c20
    revert H
    refine bd_ fun t713 A21 H => ?_
    by_cases c22 : t713 = true
    ·subst c22
     rw [if_pos rfl] at H
     revert H
     refine bd_ fun t714 A23 H => ?_
     have HC24 := ak H
     clear H
     go_upto_if 68 with (first | ((with_reducible refine gate_callee (f := 23) rfl ?_); refine gl_ (some 38) Tryd.func23 #[.slice A0 l0.length c0, .slice A1 l1.length c1, .int .i64 64] ?_; (with_reducible refine (attestorlaw02_fraction.calls kj8 _ _ l0 _ _ l1 64 t696 t699 true _ ?side1 ?side2 ?side3 ?side4 A16.out).mono ?_); (case side1 => exact cU_ (Kd.C_below HR0.out HB.out)); (case side2 => exact HC0.out); (case side3 => exact cU_ (Kd.C_below HR1.out HB.out)); (case side4 => exact HC1.out); rintro e w25 ⟨v697, v700, rfl, ho0, ho1, hb⟩; refine ⟨_, rfl, ?_⟩; refine nx3_ (Kd.V_lower (Kd.V_mono (ok' := fun k_ => True) ho0 (fun k_ hk_ => trivial)) (below_size (bU_ HB.out))) (Kd.V_lower (Kd.V_mono (ok' := fun k_ => True) ho1 (fun k_ hk_ => trivial)) (below_size (bU_ HB.out))) (below_step (bU_ HB.out) hb) ?_; clear HB; intro HO698 HO701 HB; clear hb ho0 ho1) | ((with_reducible refine gate_dst (N := 10) rfl ?_); (try (refine gate_guard (by rfl) ?_; dsimp only)); refine box_event ?hg (N := 10) ?hd (cs := #[.slice none 0 0, .slice none 0 0]) (t := 29) ?hr ?_; (case hd => rfl); (case hg => rfl); (case hr => first | (go_simp; done) | (go_simp; rfl)); intro gb703 hg w26 hbox hb; refine nx6_ (Kd.V_below (Kd.V_elderB (by (with_reducible repeat (first | apply Kd.V_alloc | apply Kd.V_drewN | apply Kd.V_drew)); exact HO698.out) gb703 (Nat.le_of_eq hg.symm)) hb) (Kd.V_below (Kd.V_elderB (by (with_reducible repeat (first | apply Kd.V_alloc | apply Kd.V_drewN | apply Kd.V_drew)); exact HO701.out) gb703 (Nat.le_of_eq hg.symm)) hb) (below_step (bU_ HB.out) hb) (hbox) ((by rw [hg]; exact (below_size (bU_ HB.out)) : w.heap.size ≤ gb703)) ((by rw [hg]; exact (below_size (bU_ HB.out)) : w.heap.size ≤ gb703)) ?_; clear HO698 HO701 HB; intro HO698 HO701 HB BK703 GW703 GE703; clear hb hbox hg; obtain ⟨Ao27, co27, eo27⟩ := Kd.V_slice HO698.out; subst eo27; have hcz28_0 : w26.cell? ⟨gb703, 0, none⟩ = some (.slice none 0 0) := (blk_cell BK703.out 0).trans rfl; have hcz28_1 : w26.cell? ⟨gb703, 1, none⟩ = some (.slice none 0 0) := (blk_cell BK703.out 1).trans rfl; have hfz28_0 := blk_frozen BK703.out 0; have hfz28_1 := blk_frozen BK703.out 1; obtain ⟨Ao29, co29, eo29⟩ := Kd.V_slice HO701.out; subst eo29) | ((with_reducible refine gate_callee (f := 24) rfl ?_); refine gl_ (some 43) Tryd.func24 #[.agg #[.slice Ao27 t696.length co27, .slice Ao29 t699.length co29]] ?_; (with_reducible refine (ratio_Show.calls kj8 _ _ t696 _ _ t699 t704 _ ?side1 ?side2 ?side3 ?side4 A17.out).mono ?_); (case side1 => refine (Kd.V_reads' (e := 44) (base := w.heap.size) (ok := fun k_ => (True ∧ k_ ≠ gb703)) (n := t696.length) (c := co27) ?_).2.2; exact (by (with_reducible repeat (first | apply Kd.V_alloc | apply Kd.V_drewN | apply Kd.V_drew)); exact (Kd.V_mono (Kd.V_far (p := ⟨gb703, 1, none⟩) (Kd.V_far (p := ⟨gb703, 0, none⟩) (Kd.V_mono HO698.out (fun k_ hk => (⟨hk, hk.2⟩ : _ ∧ k_ ≠ gb703))) (fun _ hk => hk.2) (.slice Ao27 t696.length co27)) (fun _ hk => hk.2) (.slice Ao29 t699.length co29)) (fun _ h_ => h_.1)))); (case side2 => exact (Kd.V_reads' HO698.out).2.1); (case side3 => refine (Kd.V_reads' (e := 44) (base := w.heap.size) (ok := fun k_ => (True ∧ k_ ≠ gb703)) (n := t699.length) (c := co29) ?_).2.2; exact (by (with_reducible repeat (first | apply Kd.V_alloc | apply Kd.V_drewN | apply Kd.V_drew)); exact (Kd.V_mono (Kd.V_far (p := ⟨gb703, 1, none⟩) (Kd.V_far (p := ⟨gb703, 0, none⟩) (Kd.V_mono HO701.out (fun k_ hk => (⟨hk, hk.2⟩ : _ ∧ k_ ≠ gb703))) (fun _ hk => hk.2) (.slice Ao27 t696.length co27)) (fun _ hk => hk.2) (.slice Ao29 t699.length co29)) (fun _ h_ => h_.1)))); (case side4 => exact (Kd.V_reads' HO701.out).2.1); rintro e w30 ⟨rfl, hb⟩; refine ⟨_, rfl, ?_⟩; refine nx4_ (Kd.V_below (by (with_reducible repeat (first | apply Kd.V_alloc | apply Kd.V_drewN | apply Kd.V_drew)); exact (Kd.V_mono (Kd.V_far (p := ⟨gb703, 1, none⟩) (Kd.V_far (p := ⟨gb703, 0, none⟩) (Kd.V_mono HO698.out (fun k_ hk => (⟨hk, hk.2⟩ : _ ∧ k_ ≠ gb703))) (fun _ hk => hk.2) (.slice Ao27 t696.length co27)) (fun _ hk => hk.2) (.slice Ao29 t699.length co29)) (fun _ h_ => h_.1))) hb) (Kd.V_below (by (with_reducible repeat (first | apply Kd.V_alloc | apply Kd.V_drewN | apply Kd.V_drew)); exact (Kd.V_mono (Kd.V_far (p := ⟨gb703, 1, none⟩) (Kd.V_far (p := ⟨gb703, 0, none⟩) (Kd.V_mono HO701.out (fun k_ hk => (⟨hk, hk.2⟩ : _ ∧ k_ ≠ gb703))) (fun _ hk => hk.2) (.slice Ao27 t696.length co27)) (fun _ hk => hk.2) (.slice Ao29 t699.length co29)) (fun _ h_ => h_.1))) hb) (blk_below (g := gb703) (o := .cells #[.slice Ao27 t696.length co27, .slice Ao29 t699.length co29] 29 (0, 0)) (by (with_reducible repeat (first | refine blk_drewN ?_ _ | refine blk_drew ?_ | refine blk_alloc ?_ _)); refine blk_put (cs := #[.slice Ao27 t696.length co27, .slice none 0 0]) ?_ 1 _ rfl; (with_reducible repeat (first | refine blk_drewN ?_ _ | refine blk_drew ?_ | refine blk_alloc ?_ _)); refine blk_put (cs := #[.slice none 0 0, .slice none 0 0]) ?_ 0 _ rfl; (with_reducible repeat (first | refine blk_drewN ?_ _ | refine blk_drew ?_ | refine blk_alloc ?_ _)); exact BK703.out) hb) (below_step (by repeat (first | (with_reducible first | exact HB.out | apply below_alloc | apply pw_below_drewN | apply below_drew1 | refine below_set ?_ GE703.out) | exact HB.out)) hb) ?_; clear HO698 HO701 BK703 HB; intro HO698 HO701 BK703 HB; clear hb) | ((with_reducible refine gate_callee (f := 13) rfl ?_); refine gl_ (some 44) Tryd.func13 #[.string t704] ?_; (with_reducible refine (ratio_Read.calls kj8 t704 t705 t708 t711 _ A18.out).mono ?_); rintro e w31 ⟨v706, v709, rfl, ho0, ho1, hb⟩; refine ⟨_, rfl, ?_⟩; refine nx6_ (Kd.V_below (by (with_reducible repeat (first | apply Kd.V_alloc | apply Kd.V_drewN | apply Kd.V_drew)); exact HO698.out) hb) (Kd.V_below (by (with_reducible repeat (first | apply Kd.V_alloc | apply Kd.V_drewN | apply Kd.V_drew)); exact HO701.out) hb) (Kd.V_lower (Kd.V_mono (ok' := fun k_ => k_ ≠ gb703) ho0 (fun k_ hk_ => (Kd.freshB (g := gb703) (o := .cells #[.slice Ao27 t696.length co27, .slice Ao29 t699.length co29] 29 (0, 0)) (by (with_reducible repeat (first | refine blk_drewN ?_ _ | refine blk_drew ?_ | refine blk_alloc ?_ _)); exact BK703.out) k_ hk_))) (below_size (by repeat (first | (with_reducible first | exact HB.out | apply below_alloc | apply pw_below_drewN | apply below_drew1 | refine below_set ?_ GE703.out) | exact HB.out)))) (Kd.V_lower (Kd.V_mono (ok' := fun k_ => k_ ≠ gb703) ho1 (fun k_ hk_ => (Kd.freshB (g := gb703) (o := .cells #[.slice Ao27 t696.length co27, .slice Ao29 t699.length co29] 29 (0, 0)) (by (with_reducible repeat (first | refine blk_drewN ?_ _ | refine blk_drew ?_ | refine blk_alloc ?_ _)); exact BK703.out) k_ hk_))) (below_size (by repeat (first | (with_reducible first | exact HB.out | apply below_alloc | apply pw_below_drewN | apply below_drew1 | refine below_set ?_ GE703.out) | exact HB.out)))) (blk_below (g := gb703) (o := .cells #[.slice Ao27 t696.length co27, .slice Ao29 t699.length co29] 29 (0, 0)) (by (with_reducible repeat (first | refine blk_drewN ?_ _ | refine blk_drew ?_ | refine blk_alloc ?_ _)); exact BK703.out) hb) (below_step (by repeat (first | (with_reducible first | exact HB.out | apply below_alloc | apply pw_below_drewN | apply below_drew1 | refine below_set ?_ GE703.out) | exact HB.out)) hb) ?_; clear HO698 HO701 BK703 HB; intro HO698 HO701 HO707 HO710 BK703 HB; clear hb ho0 ho1) | ((with_reducible refine gate_dst (N := 12) rfl ?_); (try (refine gate_guard (by rfl) ?_; dsimp only)); refine box_event ?hg (N := 12) ?hd (cs := #[.slice none 0 0, .slice none 0 0]) (t := 29) ?hr ?_; (case hd => rfl); (case hg => rfl); (case hr => first | (go_simp; done) | (go_simp; rfl)); intro gb712 hg w32 hbox hb; refine nx11_ (Kd.V_below (Kd.V_elderB (by (with_reducible repeat (first | apply Kd.V_alloc | apply Kd.V_drewN | apply Kd.V_drew)); exact HO698.out) gb712 (Nat.le_of_eq hg.symm)) hb) (Kd.V_below (Kd.V_elderB (by (with_reducible repeat (first | apply Kd.V_alloc | apply Kd.V_drewN | apply Kd.V_drew)); exact HO701.out) gb712 (Nat.le_of_eq hg.symm)) hb) (Kd.V_below (Kd.V_elderB (by (with_reducible repeat (first | apply Kd.V_alloc | apply Kd.V_drewN | apply Kd.V_drew)); exact HO707.out) gb712 (Nat.le_of_eq hg.symm)) hb) (Kd.V_below (Kd.V_elderB (by (with_reducible repeat (first | apply Kd.V_alloc | apply Kd.V_drewN | apply Kd.V_drew)); exact HO710.out) gb712 (Nat.le_of_eq hg.symm)) hb) (blk_below (g := gb703) (o := .cells #[.slice Ao27 t696.length co27, .slice Ao29 t699.length co29] 29 (0, 0)) (by (with_reducible repeat (first | refine blk_drewN ?_ _ | refine blk_drew ?_ | refine blk_alloc ?_ _)); exact BK703.out) hb) (below_step (by repeat (first | (with_reducible first | exact HB.out | apply below_alloc | apply pw_below_drewN | apply below_drew1 | refine below_set ?_ GE703.out) | exact HB.out)) hb) (hbox) ((by rw [hg]; exact (below_size (by repeat (first | (with_reducible first | exact HB.out | apply below_alloc | apply pw_below_drewN | apply below_drew1 | refine below_set ?_ GE703.out) | exact HB.out))) : w.heap.size ≤ gb712)) ((by rw [hg]; exact (below_size (by repeat (first | (with_reducible first | exact HB.out | apply below_alloc | apply pw_below_drewN | apply below_drew1 | refine below_set ?_ GE703.out) | exact HB.out))) : w.heap.size ≤ gb712)) ((by rw [hg]; exact Nat.ne_of_lt (blk_lt (g := gb703) (o := .cells #[.slice Ao27 t696.length co27, .slice Ao29 t699.length co29] 29 (0, 0)) (by (with_reducible repeat (first | refine blk_drewN ?_ _ | refine blk_drew ?_ | refine blk_alloc ?_ _)); exact BK703.out)) : gb703 ≠ gb712)) ((by rw [hg]; exact Nat.ne_of_gt (blk_lt (g := gb703) (o := .cells #[.slice Ao27 t696.length co27, .slice Ao29 t699.length co29] 29 (0, 0)) (by (with_reducible repeat (first | refine blk_drewN ?_ _ | refine blk_drew ?_ | refine blk_alloc ?_ _)); exact BK703.out)) : gb712 ≠ gb703)) ?_; clear HO698 HO701 HO707 HO710 BK703 HB; intro HO698 HO701 HO707 HO710 BK703 HB BK712 GW712 GE712 NB703_712 NB712_703; clear hb hbox hg; obtain ⟨Ao33, co33, eo33⟩ := Kd.V_slice HO707.out; subst eo33; have hnb34 := NB712_703.out; have hnc34 := NB703_712.out; have hcz35_0 : w32.cell? ⟨gb712, 0, none⟩ = some (.slice none 0 0) := (blk_cell BK712.out 0).trans rfl; have hcz35_1 : w32.cell? ⟨gb712, 1, none⟩ = some (.slice none 0 0) := (blk_cell BK712.out 1).trans rfl; have hfz35_0 := blk_frozen BK712.out 0; have hfz35_1 := blk_frozen BK712.out 1; obtain ⟨Ao36, co36, eo36⟩ := Kd.V_slice HO710.out; subst eo36; have hcz37_0 : w32.cell? ⟨gb703, 0, none⟩ = some (.slice Ao27 t696.length co27) := (blk_cell BK703.out 0).trans rfl; have hcz37_1 : w32.cell? ⟨gb703, 1, none⟩ = some (.slice Ao29 t699.length co29) := (blk_cell BK703.out 1).trans rfl; have hfz37_0 := blk_frozen BK703.out 0; have hfz37_1 := blk_frozen BK703.out 1) | (go_at_call 22; (with_reducible refine (attestorlaw02_same.calls kj8 _ _ t696 _ _ t705 true _ ?side1 ?side2 ?side3 ?side4 A21.out).mono ?_); (case side1 => refine (Kd.V_reads' (e := 44) (base := w.heap.size) (ok := fun k_ => ((True ∧ k_ ≠ gb703) ∧ k_ ≠ gb712)) (n := t696.length) (c := co27) ?_).2.2; exact (by (with_reducible repeat (first | apply Kd.V_alloc | apply Kd.V_drewN | apply Kd.V_drew)); exact (Kd.V_mono (Kd.V_far (p := ⟨gb712, 1, none⟩) (Kd.V_far (p := ⟨gb712, 0, none⟩) (Kd.V_mono HO698.out (fun k_ hk => (⟨hk, hk.2⟩ : _ ∧ k_ ≠ gb712))) (fun _ hk => hk.2) (.slice Ao33 t705.length co33)) (fun _ hk => hk.2) (.slice Ao36 t708.length co36)) (fun _ h_ => h_.1)))); (case side2 => exact (Kd.V_reads' HO698.out).2.1); (case side3 => refine (Kd.V_reads' (e := 44) (base := w.heap.size) (ok := fun k_ => (k_ ≠ gb703 ∧ k_ ≠ gb712)) (n := t705.length) (c := co33) ?_).2.2; exact (by (with_reducible repeat (first | apply Kd.V_alloc | apply Kd.V_drewN | apply Kd.V_drew)); exact (Kd.V_mono (Kd.V_far (p := ⟨gb712, 1, none⟩) (Kd.V_far (p := ⟨gb712, 0, none⟩) (Kd.V_mono HO707.out (fun k_ hk => (⟨hk, hk.2⟩ : _ ∧ k_ ≠ gb712))) (fun _ hk => hk.2) (.slice Ao33 t705.length co33)) (fun _ hk => hk.2) (.slice Ao36 t708.length co36)) (fun _ h_ => h_.1)))); (case side4 => exact (Kd.V_reads' HO707.out).2.1); rintro e w' ⟨rfl, ⟨nd, rfl⟩⟩) | (go_at_call 22; (with_reducible refine (attestorlaw02_same.calls kj8 _ _ t699 _ _ t708 t714 _ ?side1 ?side2 ?side3 ?side4 A23.out).mono ?_); (case side1 => refine (Kd.V_reads' (e := 44) (base := w.heap.size) (ok := fun k_ => ((True ∧ k_ ≠ gb703) ∧ k_ ≠ gb712)) (n := t699.length) (c := co29) ?_).2.2; exact (by (with_reducible repeat (first | apply Kd.V_alloc | apply Kd.V_drewN | apply Kd.V_drew)); exact (Kd.V_mono (Kd.V_far (p := ⟨gb712, 1, none⟩) (Kd.V_far (p := ⟨gb712, 0, none⟩) (Kd.V_mono HO701.out (fun k_ hk => (⟨hk, hk.2⟩ : _ ∧ k_ ≠ gb712))) (fun _ hk => hk.2) (.slice Ao33 t705.length co33)) (fun _ hk => hk.2) (.slice Ao36 t708.length co36)) (fun _ h_ => h_.1)))); (case side2 => exact (Kd.V_reads' HO701.out).2.1); (case side3 => refine (Kd.V_reads' (e := 44) (base := w.heap.size) (ok := fun k_ => (k_ ≠ gb703 ∧ k_ ≠ gb712)) (n := t708.length) (c := co36) ?_).2.2; exact (by (with_reducible repeat (first | apply Kd.V_alloc | apply Kd.V_drewN | apply Kd.V_drew)); exact (Kd.V_mono (Kd.V_far (p := ⟨gb712, 1, none⟩) (Kd.V_far (p := ⟨gb712, 0, none⟩) (Kd.V_mono HO710.out (fun k_ hk => (⟨hk, hk.2⟩ : _ ∧ k_ ≠ gb712))) (fun _ hk => hk.2) (.slice Ao33 t705.length co33)) (fun _ hk => hk.2) (.slice Ao36 t708.length co36)) (fun _ h_ => h_.1)))); (case side4 => exact (Kd.V_reads' HO710.out).2.1); rintro e w' ⟨rfl, ⟨nd, rfl⟩⟩))
     (try simp only [Act.put, s1_, s2_, s3_])
     go_cut [] (fun wc => ∃ (kq : Nat), Aside0 (attestorlaw02_RatioPrints.j1 kq l2 = some r) ∧ Aside0 (kq ≤ kj8) ∧ Aside0 (Kd.V (Kd.int .u32) 44 wc w.heap.size (fun k_ => k_ ≠ gb703 ∧ k_ ≠ gb712) (.slice Ao27 t696.length co27) t696) ∧ Aside0 (Kd.V (Kd.int .u32) 44 wc w.heap.size (fun k_ => k_ ≠ gb703 ∧ k_ ≠ gb712) (.slice Ao29 t699.length co29) t699) ∧ Aside0 (Kd.V (Kd.int .u32) 44 wc w.heap.size (fun k_ => k_ ≠ gb703 ∧ k_ ≠ gb712) (.slice Ao33 t705.length co33) t705) ∧ Aside0 (Kd.V (Kd.int .u32) 44 wc w.heap.size (fun k_ => k_ ≠ gb703 ∧ k_ ≠ gb712) (.slice Ao36 t708.length co36) t708) ∧ Aside0 (wc.heap[gb703]? = some (.cells #[(.slice Ao27 t696.length co27), (.slice Ao29 t699.length co29)] 29 (0, 0))) ∧ Aside0 (wc.heap[gb712]? = some (.cells #[(.slice Ao33 t705.length co33), (.slice Ao36 t708.length co36)] 29 (0, 0))) ∧ Aside0 (Below w.heap.size w wc))
     case first =>
      have H := HC24.out
      clear HC24
      by_cases c38 : t714 = true
      ·subst c38
       rw [if_pos rfl] at H
       have H' := ak H
       clear H
       go_wp2
       go_meet
       case rel => exact ⟨_, H', ⟨by have := HJ8.out; first | omega | exact Nat.le_refl _⟩, ⟨by (with_reducible repeat (first | apply Kd.V_alloc | apply Kd.V_drewN | apply Kd.V_drew)); exact Kd.V_mono (Kd.V_far (p := ⟨gb712, 1, none⟩) (Kd.V_far (p := ⟨gb712, 0, none⟩) (Kd.V_mono HO698.out (fun k_ hk => (⟨hk, hk.2⟩ : _ ∧ k_ ≠ gb712))) (fun _ hk => hk.2) (.slice Ao33 t705.length co33)) (fun _ hk => hk.2) (.slice Ao36 t708.length co36)) (fun _ hk => ⟨hk.1.1.2, hk.1.2⟩)⟩, ⟨by (with_reducible repeat (first | apply Kd.V_alloc | apply Kd.V_drewN | apply Kd.V_drew)); exact Kd.V_mono (Kd.V_far (p := ⟨gb712, 1, none⟩) (Kd.V_far (p := ⟨gb712, 0, none⟩) (Kd.V_mono HO701.out (fun k_ hk => (⟨hk, hk.2⟩ : _ ∧ k_ ≠ gb712))) (fun _ hk => hk.2) (.slice Ao33 t705.length co33)) (fun _ hk => hk.2) (.slice Ao36 t708.length co36)) (fun _ hk => ⟨hk.1.1.2, hk.1.2⟩)⟩, ⟨by (with_reducible repeat (first | apply Kd.V_alloc | apply Kd.V_drewN | apply Kd.V_drew)); exact Kd.V_mono (Kd.V_far (p := ⟨gb712, 1, none⟩) (Kd.V_far (p := ⟨gb712, 0, none⟩) (Kd.V_mono HO707.out (fun k_ hk => (⟨hk, hk.2⟩ : _ ∧ k_ ≠ gb712))) (fun _ hk => hk.2) (.slice Ao33 t705.length co33)) (fun _ hk => hk.2) (.slice Ao36 t708.length co36)) (fun _ hk => ⟨hk.1.1, hk.1.2⟩)⟩, ⟨by (with_reducible repeat (first | apply Kd.V_alloc | apply Kd.V_drewN | apply Kd.V_drew)); exact Kd.V_mono (Kd.V_far (p := ⟨gb712, 1, none⟩) (Kd.V_far (p := ⟨gb712, 0, none⟩) (Kd.V_mono HO710.out (fun k_ hk => (⟨hk, hk.2⟩ : _ ∧ k_ ≠ gb712))) (fun _ hk => hk.2) (.slice Ao33 t705.length co33)) (fun _ hk => hk.2) (.slice Ao36 t708.length co36)) (fun _ hk => ⟨hk.1.1, hk.1.2⟩)⟩, ⟨by (with_reducible repeat (first | refine blk_drewN ?_ _ | refine blk_drew ?_ | refine blk_alloc ?_ _)); refine blk_far ?_ NB703_712.out _; (with_reducible repeat (first | refine blk_drewN ?_ _ | refine blk_drew ?_ | refine blk_alloc ?_ _)); refine blk_far ?_ NB703_712.out _; (with_reducible repeat (first | refine blk_drewN ?_ _ | refine blk_drew ?_ | refine blk_alloc ?_ _)); exact BK703.out⟩, ⟨by (with_reducible repeat (first | refine blk_drewN ?_ _ | refine blk_drew ?_ | refine blk_alloc ?_ _)); refine blk_put (cs := #[.slice Ao33 t705.length co33, .slice none 0 0]) ?_ 1 _ rfl; (with_reducible repeat (first | refine blk_drewN ?_ _ | refine blk_drew ?_ | refine blk_alloc ?_ _)); refine blk_put (cs := #[.slice none 0 0, .slice none 0 0]) ?_ 0 _ rfl; (with_reducible repeat (first | refine blk_drewN ?_ _ | refine blk_drew ?_ | refine blk_alloc ?_ _)); exact BK712.out⟩, ⟨by repeat (first | (with_reducible first | exact HB.out | apply below_alloc | apply pw_below_drewN | apply below_drew1 | refine below_set ?_ GE703.out | refine below_set ?_ GE712.out) | exact HB.out)⟩⟩
      ·replace c38 := Bool.eq_false_iff.mpr c38
       subst c38
       rw [if_neg (show ¬ (false = true) by decide)] at H
       exact absurd H (by simp)
     case rest =>
      clear HC24
      (try clear c1); (try clear c2); (try clear p2); (try clear c3); (try clear c4); (try clear c7); (try clear c7b0); (try clear c7b1); (try clear c11); (try clear c13); (try clear c15); (try clear c19); (try clear c20); (try clear c20b0); (try clear c20b1); (try clear c21); (try clear c22); (try clear c23); (try clear c24); (try clear c34); (try clear c38); (try clear hcz28_0); (try clear hcz28_1); (try clear hcz35_0); (try clear hcz35_1); (try clear hcz37_0); (try clear hcz37_1); (try clear hfz28_0); (try clear hfz28_1); (try clear hfz35_0); (try clear hfz35_1); (try clear hfz37_0); (try clear hfz37_1)
      obtain ⟨kq, HA, HJ23, HO_704000, HO_704001, HO_713000, HO_713001, BK703, BK712, HB⟩ := hcut
      cases kq with
      | zero => exact absurd HA.out (by simp [attestorlaw02_RatioPrints.j1])
      | succ kj23 =>
       have H := HA.out
       clear HA
       simp only [attestorlaw02_RatioPrints.j1] at H
       have HC39 := ak H
       clear H
       go_upto_block 0 with (fail)
       go_cut [14] (fun v14 wc => ∃ (kq : Nat) (x14_38 : List Int), Aside0 (attestorlaw02_RatioPrints.j3 kq x14_38 = some r) ∧ Aside0 (kq ≤ kj23) ∧ Aside0 (Kd.R (Kd.int .u8) 5 wc w.heap.size (fun _ => True) v14 x14_38) ∧ Aside0 (Kd.V (Kd.int .u32) 44 wc w.heap.size (fun k_ => some k_ ≠ (v14 : Value).ownBlock ∧ k_ ≠ gb703 ∧ k_ ≠ gb712) (.slice Ao27 t696.length co27) t696) ∧ Aside0 (Kd.V (Kd.int .u32) 44 wc w.heap.size (fun k_ => some k_ ≠ (v14 : Value).ownBlock ∧ k_ ≠ gb703 ∧ k_ ≠ gb712) (.slice Ao29 t699.length co29) t699) ∧ Aside0 (Kd.V (Kd.int .u32) 44 wc w.heap.size (fun k_ => some k_ ≠ (v14 : Value).ownBlock ∧ k_ ≠ gb703 ∧ k_ ≠ gb712) (.slice Ao33 t705.length co33) t705) ∧ Aside0 (Kd.V (Kd.int .u32) 44 wc w.heap.size (fun k_ => some k_ ≠ (v14 : Value).ownBlock ∧ k_ ≠ gb703 ∧ k_ ≠ gb712) (.slice Ao36 t708.length co36) t708) ∧ Aside0 (wc.heap[gb703]? = some (.cells #[(.slice Ao27 t696.length co27), (.slice Ao29 t699.length co29)] 29 (0, 0))) ∧ Aside0 (wc.heap[gb712]? = some (.cells #[(.slice Ao33 t705.length co33), (.slice Ao36 t708.length co36)] 29 (0, 0))) ∧ Aside0 (Below w.heap.size w wc))
       case first =>
        have H := HC39.out
        clear HC39
        have H' := ak H
        clear H
        go_wp2
        go_loopg [14, 15] kj23 (fun kq v14 v15 w' => ∃ (x14_3 : List Int) (x15_3 : Int), v15 = .int .i64 x15_3 ∧ Aside0 (attestorlaw02_RatioPrints.l0 kq l2 x14_3 x15_3 = some r) ∧ Aside0 (kq ≤ kj23) ∧ Aside0 (Kd.R (Kd.int .u8) 5 w' w.heap.size (fun _ => True) v14 x14_3) ∧ Aside0 (Kd.V (Kd.int .u32) 44 w' w.heap.size (fun k_ => some k_ ≠ (v14 : Value).ownBlock ∧ k_ ≠ gb703 ∧ k_ ≠ gb712) (.slice Ao27 t696.length co27) t696) ∧ Aside0 (Kd.V (Kd.int .u32) 44 w' w.heap.size (fun k_ => some k_ ≠ (v14 : Value).ownBlock ∧ k_ ≠ gb703 ∧ k_ ≠ gb712) (.slice Ao29 t699.length co29) t699) ∧ Aside0 (Kd.V (Kd.int .u32) 44 w' w.heap.size (fun k_ => some k_ ≠ (v14 : Value).ownBlock ∧ k_ ≠ gb703 ∧ k_ ≠ gb712) (.slice Ao33 t705.length co33) t705) ∧ Aside0 (Kd.V (Kd.int .u32) 44 w' w.heap.size (fun k_ => some k_ ≠ (v14 : Value).ownBlock ∧ k_ ≠ gb703 ∧ k_ ≠ gb712) (.slice Ao36 t708.length co36) t708) ∧ Aside0 (w'.heap[gb703]? = some (.cells #[(.slice Ao27 t696.length co27), (.slice Ao29 t699.length co29)] 29 (0, 0))) ∧ Aside0 (w'.heap[gb712]? = some (.cells #[(.slice Ao33 t705.length co33), (.slice Ao36 t708.length co36)] 29 (0, 0))) ∧ Aside0 (Below w.heap.size w w'))
        case atStart => exact ⟨(([] : List Int)), (0), gb_, H', ⟨Nat.le_refl _⟩, ⟨by first | exact Kd.R_nil _ _ _ _ _ | exact Kd.N_nil _ _ _ _ _ | exact Kd.V_nil _ _ _ _ _ | exact Kd.Q_nil _ _ _ _ _ | exact Kd.S_nil _ _ _ _ _⟩, ⟨by (with_reducible repeat (first | apply Kd.V_alloc | apply Kd.V_drewN | apply Kd.V_drew)); exact Kd.V_mono HO_704000.out (fun _ hk => ⟨(by simp [Value.ownBlock]), ⟨hk.1, hk.2⟩⟩)⟩, ⟨by (with_reducible repeat (first | apply Kd.V_alloc | apply Kd.V_drewN | apply Kd.V_drew)); exact Kd.V_mono HO_704001.out (fun _ hk => ⟨(by simp [Value.ownBlock]), ⟨hk.1, hk.2⟩⟩)⟩, ⟨by (with_reducible repeat (first | apply Kd.V_alloc | apply Kd.V_drewN | apply Kd.V_drew)); exact Kd.V_mono HO_713000.out (fun _ hk => ⟨(by simp [Value.ownBlock]), ⟨hk.1, hk.2⟩⟩)⟩, ⟨by (with_reducible repeat (first | apply Kd.V_alloc | apply Kd.V_drewN | apply Kd.V_drew)); exact Kd.V_mono HO_713001.out (fun _ hk => ⟨(by simp [Value.ownBlock]), ⟨hk.1, hk.2⟩⟩)⟩, ⟨by (with_reducible repeat (first | refine blk_drewN ?_ _ | refine blk_drew ?_ | refine blk_alloc ?_ _)); exact BK703.out⟩, ⟨by (with_reducible repeat (first | refine blk_drewN ?_ _ | refine blk_drew ?_ | refine blk_alloc ?_ _)); exact BK712.out⟩, ⟨by repeat (first | (with_reducible first | exact HB.out | apply below_alloc | apply pw_below_drewN | apply below_drew1 | refine below_set ?_ GE703.out | refine below_set ?_ GE712.out) | exact HB.out)⟩⟩
        case round =>
         clear H'
         (try clear c1); (try clear c2); (try clear p2); (try clear c3); (try clear c4); (try clear c7); (try clear c7b0); (try clear c7b1); (try clear c11); (try clear c13); (try clear c15); (try clear c19); (try clear c20); (try clear c20b0); (try clear c20b1); (try clear c21); (try clear c22); (try clear c23); (try clear c24); (try clear c34); (try clear c38); (try clear hcz28_0); (try clear hcz28_1); (try clear hcz35_0); (try clear hcz35_1); (try clear hcz37_0); (try clear hcz37_1); (try clear hfz28_0); (try clear hfz28_1); (try clear hfz35_0); (try clear hfz35_1); (try clear hfz37_0); (try clear hfz37_1)
         obtain ⟨x14_3, x15_3, rfl, HA, HK3, HO_14, HO_704000, HO_704001, HO_713000, HO_713001, BK703, BK712, HB⟩ := hrel
         cases gk with
         | zero => exact absurd HA.out (by simp [attestorlaw02_RatioPrints.l0])
         | succ k3 =>
          have H := HA.out
          clear HA
          simp only [attestorlaw02_RatioPrints.l0] at H
          by_cases c40 : x15_3 < (l2.length : Int)
          ·rw [if_pos c40] at H
           have c40b0 := decide_eq_true c40
           clear c40
           (first | rw [c40b0] | (simp only [i64_w, i32_w]; rw [c40b0]) | rw [c40b1] | skip)
           by_cases c41 : x15_3 < 600
           ·rw [if_pos c41] at H
            have c41b0 := decide_eq_true c41
            clear c41
            obtain ⟨c42, H⟩ : (0 ≤ x15_3) ∧ _ := it_ H
            have c42b0 := decide_eq_true c42
            clear c42
            by_cases c43 : ((48 + (Int.tmod (rd l2 x15_3) 10)) % 256) = 48
            ·rw [if_pos c43] at H
             have c43b0 := beq_iff_eq.mpr c43
             have c43b1 := bne_eq_false_iff_eq.mpr c43
             clear c43
             by_cases c44 : (x14_3.length : Int) > 0
             ·rw [if_pos c44] at H
              have c44b0 : decide (0 < (x14_3.length : Int)) = true := decide_eq_true c44
              have c44b1 : decide (0 < x14_3.length) = true := decide_eq_true (by omega)
              clear c44
              obtain ⟨c45, H⟩ : (x14_3.length < 140737488355328) ∧ _ := it_ H
              have LMc45 := ak c45
              clear c45
              obtain ⟨y716, hy716⟩ : ∃ y_ : List Int, y_ = (x14_3 ++ [(48 + (Int.tmod (rd l2 x15_3) 10)) % 256]) := ⟨_, rfl⟩
              first | rw [Option.bind_some, ← hy716] at H | rw [← hy716] at H
              have Ny716 := ak hy716
              clear hy716
              have H' := ak H
              clear H
              have p715 : 0 ≤ (x15_3 : Int) := od_
              have q715 : x15_3 < (l2.length : Int) := od_
              obtain ⟨ad715, e715, hx715_0⟩ := Kd.at_int HR2.out x15_3 p715 q715
              cases e715
              replace hx715_0 := (HB.out.cell (World.block_lt_of_cell? w _ hx715_0)).trans hx715_0
              replace p715 := eq_true p715
              replace q715 := eq_true q715
              obtain ⟨Ao46, co46, eo46⟩ := Kd.R_slice HO_14.out
              subst eo46
              go_wp2_with (first | ((with_reducible refine gate_builtin (b := .append) (xs := #[.tmp 92, .tmp 94]) rfl ?_); (try (refine gate_guard (by rfl) ?_; dsimp only)); at_builtin; refine Kd.R_append (Kd.int .u8) (w0 := w) w.heap.size rfl (.tmp 92) (.tmp 94) 37 5 (.int .u8 0) 1 rfl Tryd.underlying37 info5 rfl (by decide) (by omega) (.slice Ao46 x14_3.length co46) x14_3 ((48 + (Int.tmod (rd l2 x15_3) 10)) % 256) [.int .u8 ((48 + (Int.tmod (rd l2 x15_3) 10)) % 256)] (fun _ => True) (fun _ => False) rfl rfl ?aP (fun _ hk => hk.elim) ?aF ?aO ?aB ?aS ?aL ?_; (case aP => exact rfl); (case aB => exact (by repeat (first | (with_reducible first | exact HB.out | apply below_alloc | apply pw_below_drewN | apply below_drew1 | refine below_set ?_ GE703.out | refine below_set ?_ GE712.out) | exact HB.out))); (case aF => exact (fun _ _ => trivial)); (case aO => exact (rU_ HO_14.out)); (case aS => exact (below_size (by repeat (first | (with_reducible first | exact HB.out | apply below_alloc | apply pw_below_drewN | apply below_drew1 | refine below_set ?_ GE703.out | refine below_set ?_ GE712.out) | exact HB.out)))); (case aL => have := LMc45.out; omega); intro v717 w47 ho hb hg hat; rw [← Ny716.out] at ho; refine nx8_ (Kd.V_afterv (ok := (fun k_ => k_ ≠ gb703 ∧ k_ ≠ gb712)) (by (with_reducible repeat (first | apply Kd.V_alloc | apply Kd.V_drewN | apply Kd.V_drew)); exact Kd.V_mono HO_704000.out (fun _ hk => ⟨⟨hk.2.1, hk.2.2⟩, hk.1⟩)) hg hat) (Kd.V_afterv (ok := (fun k_ => k_ ≠ gb703 ∧ k_ ≠ gb712)) (by (with_reducible repeat (first | apply Kd.V_alloc | apply Kd.V_drewN | apply Kd.V_drew)); exact Kd.V_mono HO_704001.out (fun _ hk => ⟨⟨hk.2.1, hk.2.2⟩, hk.1⟩)) hg hat) (Kd.V_afterv (ok := (fun k_ => k_ ≠ gb703 ∧ k_ ≠ gb712)) (by (with_reducible repeat (first | apply Kd.V_alloc | apply Kd.V_drewN | apply Kd.V_drew)); exact Kd.V_mono HO_713000.out (fun _ hk => ⟨⟨hk.2.1, hk.2.2⟩, hk.1⟩)) hg hat) (Kd.V_afterv (ok := (fun k_ => k_ ≠ gb703 ∧ k_ ≠ gb712)) (by (with_reducible repeat (first | apply Kd.V_alloc | apply Kd.V_drewN | apply Kd.V_drew)); exact Kd.V_mono HO_713001.out (fun _ hk => ⟨⟨hk.2.1, hk.2.2⟩, hk.1⟩)) hg hat) (blk_grown (g := gb703) (o := .cells #[.slice Ao27 t696.length co27, .slice Ao29 t699.length co29] 29 (0, 0)) (by (with_reducible repeat (first | refine blk_drewN ?_ _ | refine blk_drew ?_ | refine blk_alloc ?_ _)); exact BK703.out) hg (Kd.R_ne HO_14.out BK703.out (by decide))) (blk_grown (g := gb712) (o := .cells #[.slice Ao33 t705.length co33, .slice Ao36 t708.length co36] 29 (0, 0)) (by (with_reducible repeat (first | refine blk_drewN ?_ _ | refine blk_drew ?_ | refine blk_alloc ?_ _)); exact BK712.out) hg (Kd.R_ne HO_14.out BK712.out (by decide))) (hb) (ho) ?_; clear HO_704000 HO_704001 HO_713000 HO_713001 BK703 BK712 HB HO_14; intro HO_704000 HO_704001 HO_713000 HO_713001 BK703 BK712 HB HO718; clear ho hb hg hat))
              go_roundg k3
              case measure => have := HJ8.out; have := HJ23.out; have := HK3.out; omega
              case rel => exact ⟨(y716), (wrap64 (x15_3 + 1)), gb_, H', ⟨by have := HJ8.out; have := HJ23.out; have := HK3.out; omega⟩, ⟨rU_ HO718.out⟩, ⟨by (with_reducible repeat (first | apply Kd.V_alloc | apply Kd.V_drewN | apply Kd.V_drew)); exact Kd.V_mono HO_704000.out (fun _ hk => ⟨hk.2, ⟨hk.1.1, hk.1.2⟩⟩)⟩, ⟨by (with_reducible repeat (first | apply Kd.V_alloc | apply Kd.V_drewN | apply Kd.V_drew)); exact Kd.V_mono HO_704001.out (fun _ hk => ⟨hk.2, ⟨hk.1.1, hk.1.2⟩⟩)⟩, ⟨by (with_reducible repeat (first | apply Kd.V_alloc | apply Kd.V_drewN | apply Kd.V_drew)); exact Kd.V_mono HO_713000.out (fun _ hk => ⟨hk.2, ⟨hk.1.1, hk.1.2⟩⟩)⟩, ⟨by (with_reducible repeat (first | apply Kd.V_alloc | apply Kd.V_drewN | apply Kd.V_drew)); exact Kd.V_mono HO_713001.out (fun _ hk => ⟨hk.2, ⟨hk.1.1, hk.1.2⟩⟩)⟩, ⟨by (with_reducible repeat (first | refine blk_drewN ?_ _ | refine blk_drew ?_ | refine blk_alloc ?_ _)); exact BK703.out⟩, ⟨by (with_reducible repeat (first | refine blk_drewN ?_ _ | refine blk_drew ?_ | refine blk_alloc ?_ _)); exact BK712.out⟩, ⟨by repeat (first | (with_reducible first | exact HB.out | apply below_alloc | apply pw_below_drewN | apply below_drew1 | refine below_set ?_ GE703.out | refine below_set ?_ GE712.out) | exact HB.out)⟩⟩
             ·rw [if_neg c44] at H
              have c44b0 : decide (0 < (x14_3.length : Int)) = false := decide_eq_false c44
              have c44b1 : decide (0 < x14_3.length) = false := decide_eq_false (by omega)
              clear c44
              have H' := ak H
              clear H
              have p715 : 0 ≤ (x15_3 : Int) := od_
              have q715 : x15_3 < (l2.length : Int) := od_
              obtain ⟨ad715, e715, hx715_0⟩ := Kd.at_int HR2.out x15_3 p715 q715
              cases e715
              replace hx715_0 := (HB.out.cell (World.block_lt_of_cell? w _ hx715_0)).trans hx715_0
              replace p715 := eq_true p715
              replace q715 := eq_true q715
              obtain ⟨Ao48, co48, eo48⟩ := Kd.R_slice HO_14.out
              subst eo48
              go_wp2
              go_roundg k3
              case measure => have := HJ8.out; have := HJ23.out; have := HK3.out; omega
              case rel => exact ⟨(x14_3), (wrap64 (x15_3 + 1)), gb_, H', ⟨by have := HJ8.out; have := HJ23.out; have := HK3.out; omega⟩, ⟨rU_ HO_14.out⟩, ⟨by (with_reducible repeat (first | apply Kd.V_alloc | apply Kd.V_drewN | apply Kd.V_drew)); exact HO_704000.out⟩, ⟨by (with_reducible repeat (first | apply Kd.V_alloc | apply Kd.V_drewN | apply Kd.V_drew)); exact HO_704001.out⟩, ⟨by (with_reducible repeat (first | apply Kd.V_alloc | apply Kd.V_drewN | apply Kd.V_drew)); exact HO_713000.out⟩, ⟨by (with_reducible repeat (first | apply Kd.V_alloc | apply Kd.V_drewN | apply Kd.V_drew)); exact HO_713001.out⟩, ⟨by (with_reducible repeat (first | refine blk_drewN ?_ _ | refine blk_drew ?_ | refine blk_alloc ?_ _)); exact BK703.out⟩, ⟨by (with_reducible repeat (first | refine blk_drewN ?_ _ | refine blk_drew ?_ | refine blk_alloc ?_ _)); exact BK712.out⟩, ⟨by repeat (first | (with_reducible first | exact HB.out | apply below_alloc | apply pw_below_drewN | apply below_drew1 | refine below_set ?_ GE703.out | refine below_set ?_ GE712.out) | exact HB.out)⟩⟩
            ·rw [if_neg c43] at H
             have c43b0 := beq_eq_false_iff_ne.mpr c43
             have c43b1 := bne_iff_ne.mpr c43
             obtain ⟨c49, H⟩ : (x14_3.length < 140737488355328) ∧ _ := it_ H
             have LMc49 := ak c49
             clear c49
             obtain ⟨y719, hy719⟩ : ∃ y_ : List Int, y_ = (x14_3 ++ [(48 + (Int.tmod (rd l2 x15_3) 10)) % 256]) := ⟨_, rfl⟩
             first | rw [Option.bind_some, ← hy719] at H | rw [← hy719] at H
             have Ny719 := ak hy719
             clear hy719
             have H' := ak H
             clear H
             have p715 : 0 ≤ (x15_3 : Int) := od_
             have q715 : x15_3 < (l2.length : Int) := od_
             obtain ⟨ad715, e715, hx715_0⟩ := Kd.at_int HR2.out x15_3 p715 q715
             cases e715
             replace hx715_0 := (HB.out.cell (World.block_lt_of_cell? w _ hx715_0)).trans hx715_0
             replace p715 := eq_true p715
             replace q715 := eq_true q715
             go_wp2_with (first | ((with_reducible refine gate_builtin (b := .append) (xs := #[.tmp 92, .tmp 94]) rfl ?_); (try (refine gate_guard (by rfl) ?_; dsimp only)); at_builtin; refine Kd.R_append (Kd.int .u8) (w0 := w) w.heap.size rfl (.tmp 92) (.tmp 94) 37 5 (.int .u8 0) 1 rfl Tryd.underlying37 info5 rfl (by decide) (by omega) u14 x14_3 ((48 + (Int.tmod (rd l2 x15_3) 10)) % 256) [.int .u8 ((48 + (Int.tmod (rd l2 x15_3) 10)) % 256)] (fun _ => True) (fun _ => False) rfl rfl ?aP (fun _ hk => hk.elim) ?aF ?aO ?aB ?aS ?aL ?_; (case aP => exact rfl); (case aB => exact (by repeat (first | (with_reducible first | exact HB.out | apply below_alloc | apply pw_below_drewN | apply below_drew1 | refine below_set ?_ GE703.out | refine below_set ?_ GE712.out) | exact HB.out))); (case aF => exact (fun _ _ => trivial)); (case aO => exact (rU_ HO_14.out)); (case aS => exact (below_size (by repeat (first | (with_reducible first | exact HB.out | apply below_alloc | apply pw_below_drewN | apply below_drew1 | refine below_set ?_ GE703.out | refine below_set ?_ GE712.out) | exact HB.out)))); (case aL => have := LMc49.out; omega); intro v720 w50 ho hb hg hat; rw [← Ny719.out] at ho; refine nx8_ (Kd.V_afterv (ok := (fun k_ => k_ ≠ gb703 ∧ k_ ≠ gb712)) (by (with_reducible repeat (first | apply Kd.V_alloc | apply Kd.V_drewN | apply Kd.V_drew)); exact Kd.V_mono HO_704000.out (fun _ hk => ⟨⟨hk.2.1, hk.2.2⟩, hk.1⟩)) hg hat) (Kd.V_afterv (ok := (fun k_ => k_ ≠ gb703 ∧ k_ ≠ gb712)) (by (with_reducible repeat (first | apply Kd.V_alloc | apply Kd.V_drewN | apply Kd.V_drew)); exact Kd.V_mono HO_704001.out (fun _ hk => ⟨⟨hk.2.1, hk.2.2⟩, hk.1⟩)) hg hat) (Kd.V_afterv (ok := (fun k_ => k_ ≠ gb703 ∧ k_ ≠ gb712)) (by (with_reducible repeat (first | apply Kd.V_alloc | apply Kd.V_drewN | apply Kd.V_drew)); exact Kd.V_mono HO_713000.out (fun _ hk => ⟨⟨hk.2.1, hk.2.2⟩, hk.1⟩)) hg hat) (Kd.V_afterv (ok := (fun k_ => k_ ≠ gb703 ∧ k_ ≠ gb712)) (by (with_reducible repeat (first | apply Kd.V_alloc | apply Kd.V_drewN | apply Kd.V_drew)); exact Kd.V_mono HO_713001.out (fun _ hk => ⟨⟨hk.2.1, hk.2.2⟩, hk.1⟩)) hg hat) (blk_grown (g := gb703) (o := .cells #[.slice Ao27 t696.length co27, .slice Ao29 t699.length co29] 29 (0, 0)) (by (with_reducible repeat (first | refine blk_drewN ?_ _ | refine blk_drew ?_ | refine blk_alloc ?_ _)); exact BK703.out) hg (Kd.R_ne HO_14.out BK703.out (by decide))) (blk_grown (g := gb712) (o := .cells #[.slice Ao33 t705.length co33, .slice Ao36 t708.length co36] 29 (0, 0)) (by (with_reducible repeat (first | refine blk_drewN ?_ _ | refine blk_drew ?_ | refine blk_alloc ?_ _)); exact BK712.out) hg (Kd.R_ne HO_14.out BK712.out (by decide))) (hb) (ho) ?_; clear HO_704000 HO_704001 HO_713000 HO_713001 BK703 BK712 HB HO_14; intro HO_704000 HO_704001 HO_713000 HO_713001 BK703 BK712 HB HO721; clear ho hb hg hat))
             go_roundg k3
             case measure => have := HJ8.out; have := HJ23.out; have := HK3.out; omega
             case rel => exact ⟨(y719), (wrap64 (x15_3 + 1)), gb_, H', ⟨by have := HJ8.out; have := HJ23.out; have := HK3.out; omega⟩, ⟨rU_ HO721.out⟩, ⟨by (with_reducible repeat (first | apply Kd.V_alloc | apply Kd.V_drewN | apply Kd.V_drew)); exact Kd.V_mono HO_704000.out (fun _ hk => ⟨hk.2, ⟨hk.1.1, hk.1.2⟩⟩)⟩, ⟨by (with_reducible repeat (first | apply Kd.V_alloc | apply Kd.V_drewN | apply Kd.V_drew)); exact Kd.V_mono HO_704001.out (fun _ hk => ⟨hk.2, ⟨hk.1.1, hk.1.2⟩⟩)⟩, ⟨by (with_reducible repeat (first | apply Kd.V_alloc | apply Kd.V_drewN | apply Kd.V_drew)); exact Kd.V_mono HO_713000.out (fun _ hk => ⟨hk.2, ⟨hk.1.1, hk.1.2⟩⟩)⟩, ⟨by (with_reducible repeat (first | apply Kd.V_alloc | apply Kd.V_drewN | apply Kd.V_drew)); exact Kd.V_mono HO_713001.out (fun _ hk => ⟨hk.2, ⟨hk.1.1, hk.1.2⟩⟩)⟩, ⟨by (with_reducible repeat (first | refine blk_drewN ?_ _ | refine blk_drew ?_ | refine blk_alloc ?_ _)); exact BK703.out⟩, ⟨by (with_reducible repeat (first | refine blk_drewN ?_ _ | refine blk_drew ?_ | refine blk_alloc ?_ _)); exact BK712.out⟩, ⟨by repeat (first | (with_reducible first | exact HB.out | apply below_alloc | apply pw_below_drewN | apply below_drew1 | refine below_set ?_ GE703.out | refine below_set ?_ GE712.out) | exact HB.out)⟩⟩
           ·rw [if_neg c41] at H
            have c41b0 := decide_eq_false c41
            clear c41
            have H' := ak H
            clear H
            go_wp2
            go_meet
            case rel => exact ⟨_, (x14_3), H', ⟨by have := HJ8.out; have := HJ23.out; have := HK3.out; first | omega | exact Nat.le_refl _⟩, ⟨rU_ HO_14.out⟩, ⟨by (with_reducible repeat (first | apply Kd.V_alloc | apply Kd.V_drewN | apply Kd.V_drew)); exact HO_704000.out⟩, ⟨by (with_reducible repeat (first | apply Kd.V_alloc | apply Kd.V_drewN | apply Kd.V_drew)); exact HO_704001.out⟩, ⟨by (with_reducible repeat (first | apply Kd.V_alloc | apply Kd.V_drewN | apply Kd.V_drew)); exact HO_713000.out⟩, ⟨by (with_reducible repeat (first | apply Kd.V_alloc | apply Kd.V_drewN | apply Kd.V_drew)); exact HO_713001.out⟩, ⟨by (with_reducible repeat (first | refine blk_drewN ?_ _ | refine blk_drew ?_ | refine blk_alloc ?_ _)); exact BK703.out⟩, ⟨by (with_reducible repeat (first | refine blk_drewN ?_ _ | refine blk_drew ?_ | refine blk_alloc ?_ _)); exact BK712.out⟩, ⟨by repeat (first | (with_reducible first | exact HB.out | apply below_alloc | apply pw_below_drewN | apply below_drew1 | refine below_set ?_ GE703.out | refine below_set ?_ GE712.out) | exact HB.out)⟩⟩
          ·rw [if_neg c40] at H
           have c40b0 := decide_eq_false c40
           clear c40
           (first | rw [c40b0] | (simp only [i64_w, i32_w]; rw [c40b0]) | rw [c40b1] | skip)
           have H' := ak H
           clear H
           go_wp2
           go_meet
           case rel => exact ⟨_, (x14_3), H', ⟨by have := HJ8.out; have := HJ23.out; have := HK3.out; first | omega | exact Nat.le_refl _⟩, ⟨rU_ HO_14.out⟩, ⟨by (with_reducible repeat (first | apply Kd.V_alloc | apply Kd.V_drewN | apply Kd.V_drew)); exact HO_704000.out⟩, ⟨by (with_reducible repeat (first | apply Kd.V_alloc | apply Kd.V_drewN | apply Kd.V_drew)); exact HO_704001.out⟩, ⟨by (with_reducible repeat (first | apply Kd.V_alloc | apply Kd.V_drewN | apply Kd.V_drew)); exact HO_713000.out⟩, ⟨by (with_reducible repeat (first | apply Kd.V_alloc | apply Kd.V_drewN | apply Kd.V_drew)); exact HO_713001.out⟩, ⟨by (with_reducible repeat (first | refine blk_drewN ?_ _ | refine blk_drew ?_ | refine blk_alloc ?_ _)); exact BK703.out⟩, ⟨by (with_reducible repeat (first | refine blk_drewN ?_ _ | refine blk_drew ?_ | refine blk_alloc ?_ _)); exact BK712.out⟩, ⟨by repeat (first | (with_reducible first | exact HB.out | apply below_alloc | apply pw_below_drewN | apply below_drew1 | refine below_set ?_ GE703.out | refine below_set ?_ GE712.out) | exact HB.out)⟩⟩
       case rest =>
        clear HC39
        (try clear c1); (try clear c2); (try clear p2); (try clear c3); (try clear c4); (try clear p6); (try clear c7); (try clear c7b0); (try clear c7b1); (try clear p7); (try clear q7); (try clear hx7); (try clear c11); (try clear c13); (try clear c15); (try clear c19); (try clear c20); (try clear c20b0); (try clear c20b1); (try clear c21); (try clear c22); (try clear c23); (try clear c24); (try clear c34); (try clear c38); (try clear c40); (try clear c40b0); (try clear c40b1); (try clear c41); (try clear c41b0); (try clear c42); (try clear c42b0); (try clear c43); (try clear c43b0); (try clear c43b1); (try clear c44); (try clear c44b0); (try clear c44b1); (try clear c45); (try clear c49); (try clear hcz28_0); (try clear hcz28_1); (try clear hcz35_0); (try clear hcz35_1); (try clear hcz37_0); (try clear hcz37_1); (try clear hfz28_0); (try clear hfz28_1); (try clear hfz35_0); (try clear hfz35_1); (try clear hfz37_0); (try clear hfz37_1); (try clear hx715_0); (try clear p715); (try clear q715)
        obtain ⟨kq, x14_38, HA, HJ38, HO_14, HO_704000, HO_704001, HO_713000, HO_713001, BK703, BK712, HB⟩ := hcut
        cases kq with
        | zero => exact absurd HA.out (by simp [attestorlaw02_RatioPrints.j3])
        | succ kj38 =>
         have H := HA.out
         clear HA
         simp only [attestorlaw02_RatioPrints.j3] at H
         by_cases c51 : (x14_38.length : Int) = 0
         ·rw [if_pos c51] at H
          have c51b0 := beq_iff_eq.mpr c51
          have c51b1 := bne_eq_false_iff_eq.mpr c51
          clear c51
          obtain ⟨y722, hy722⟩ : ∃ y_ : List Int, y_ = (([48] : List Int)) := ⟨_, rfl⟩
          replace H : ((ratio_Parse.f kj38 (strOfNums y722)).bind fun bt725 => (if bt725.2 = 0 then ((ratio_Text.f kj38 bt725.1).bind fun t729 => (if t729.toList = (strOfNums y722).toList then ((attestorlaw02_works.f kj38).bind fun t730 => (some t730)) else (none))) else (none))) = some r := by first | (rw [hy722]; with_reducible exact H) | (have H2_ := (Option.bind_some _ _).symm.trans H; rw [hy722]; with_reducible exact H2_) | (have H2_ := (Option.bind_some _ _).symm.trans H; with_reducible exact H2_) | with_reducible exact H | (rw [hy722]; exact H) | exact H
          have Ny722 := ak hy722
          clear hy722
          revert H
          refine bd2_ fun t725 t728 A52 H => ?_
          try dsimp only at H
          obtain ⟨c53, H⟩ : (t728 = 0) ∧ _ := it_ H
          have c53b0 := beq_iff_eq.mpr c53
          have c53b1 := bne_eq_false_iff_eq.mpr c53
          clear c53
          revert H
          refine bd_ fun t729 A54 H => ?_
          obtain ⟨c55, H⟩ : (t729.toList = (strOfNums y722).toList) ∧ _ := it_ H
          have c55b0 := beq_iff_eq.mpr c55
          have c55b1 := bne_eq_false_iff_eq.mpr c55
          clear c55
          revert H
          refine bd_ fun t730 A56 H => ?_
          obtain rfl := Option.some.inj H
          obtain ⟨Ao57, co57, eo57⟩ := Kd.R_slice HO_14.out
          subst eo57
          try go_wp2_with (first | ((with_reducible refine gate_dst (N := 99) rfl ?_); (try (refine gate_guard (by rfl) ?_; dsimp only)); refine lit_frz 5 ?hg (N := 99) ?hd (x := 48) ?hr ?_; (case hd => rfl); (case hg => rfl); (case hr => first | (go_simp; done) | (go_simp; rfl)); intro gs723 w58 w59 hcq BKs hb; have hcr := hcq 37 Tryd.underlying37 Tryd.underlying5; clear hcq; refine nx9_ (Kd.R_below (rU_ HO_14.out) hb) (Kd.V_below (by (with_reducible repeat (first | apply Kd.V_alloc | apply Kd.V_drewN | apply Kd.V_drew)); exact HO_704000.out) hb) (Kd.V_below (by (with_reducible repeat (first | apply Kd.V_alloc | apply Kd.V_drewN | apply Kd.V_drew)); exact HO_704001.out) hb) (Kd.V_below (by (with_reducible repeat (first | apply Kd.V_alloc | apply Kd.V_drewN | apply Kd.V_drew)); exact HO_713000.out) hb) (Kd.V_below (by (with_reducible repeat (first | apply Kd.V_alloc | apply Kd.V_drewN | apply Kd.V_drew)); exact HO_713001.out) hb) BKs (blk_below (g := gb703) (o := .cells #[.slice Ao27 t696.length co27, .slice Ao29 t699.length co29] 29 (0, 0)) (by (with_reducible repeat (first | refine blk_drewN ?_ _ | refine blk_drew ?_ | refine blk_alloc ?_ _)); exact BK703.out) hb) (blk_below (g := gb712) (o := .cells #[.slice Ao33 t705.length co33, .slice Ao36 t708.length co36] 29 (0, 0)) (by (with_reducible repeat (first | refine blk_drewN ?_ _ | refine blk_drew ?_ | refine blk_alloc ?_ _)); exact BK712.out) hb) (below_step (by repeat (first | (with_reducible first | exact HB.out | apply below_alloc | apply pw_below_drewN | apply below_drew1 | refine below_set ?_ GE703.out | refine below_set ?_ GE712.out) | exact HB.out)) hb) ?_; clear HO_14 HO_704000 HO_704001 HO_713000 HO_713001 BK703 BK712 HB; intro HO_14 HO_704000 HO_704001 HO_713000 HO_713001 HO724 BK703 BK712 HB; clear hb BKs; have hcv60 := str_blk (P := Tryd.prog) Tryd.underlying37 Tryd.underlying5 Tryd.underlying9 HO724.out Ny722.out) | ((with_reducible refine gate_callee (f := 11) rfl ?_); refine gl_ (some 104) Tryd.func11 #[.string (strOfNums y722)] ?_; (with_reducible refine (ratio_Parse.calls kj38 (strOfNums y722) t725 t728 _ A52.out).mono ?_); rintro e w61 ⟨v726, rfl, ho0, hb⟩; refine ⟨_, rfl, ?_⟩; refine nx10_ (Kd.R_below (rU_ HO_14.out) hb) (Kd.V_below (by (with_reducible repeat (first | apply Kd.V_alloc | apply Kd.V_drewN | apply Kd.V_drew)); exact HO_704000.out) hb) (Kd.V_below (by (with_reducible repeat (first | apply Kd.V_alloc | apply Kd.V_drewN | apply Kd.V_drew)); exact HO_704001.out) hb) (Kd.V_below (by (with_reducible repeat (first | apply Kd.V_alloc | apply Kd.V_drewN | apply Kd.V_drew)); exact HO_713000.out) hb) (Kd.V_below (by (with_reducible repeat (first | apply Kd.V_alloc | apply Kd.V_drewN | apply Kd.V_drew)); exact HO_713001.out) hb) (blk_below (g := gs723) (o := (.cells #[.int .u8 48] 5 (1, 2))) (by (with_reducible repeat (first | refine blk_drewN ?_ _ | refine blk_drew ?_ | refine blk_alloc ?_ _)); exact HO724.out) hb) (Kd.V_lower (Kd.V_mono (ok' := fun k_ => some k_ ≠ (.slice Ao57 x14_38.length co57 : Value).ownBlock ∧ k_ ≠ gs723 ∧ k_ ≠ gb703 ∧ k_ ≠ gb712) ho0 (fun k_ hk_ => ⟨(Kd.fresh' (Kd.R_lt (rU_ HO_14.out)) k_ hk_), (Kd.freshB (g := gs723) (o := (.cells #[.int .u8 48] 5 (1, 2))) (by (with_reducible repeat (first | refine blk_drewN ?_ _ | refine blk_drew ?_ | refine blk_alloc ?_ _)); exact HO724.out) k_ hk_), (Kd.freshB (g := gb703) (o := .cells #[.slice Ao27 t696.length co27, .slice Ao29 t699.length co29] 29 (0, 0)) (by (with_reducible repeat (first | refine blk_drewN ?_ _ | refine blk_drew ?_ | refine blk_alloc ?_ _)); exact BK703.out) k_ hk_), (Kd.freshB (g := gb712) (o := .cells #[.slice Ao33 t705.length co33, .slice Ao36 t708.length co36] 29 (0, 0)) (by (with_reducible repeat (first | refine blk_drewN ?_ _ | refine blk_drew ?_ | refine blk_alloc ?_ _)); exact BK712.out) k_ hk_)⟩)) (below_size (by repeat (first | (with_reducible first | exact HB.out | apply below_alloc | apply pw_below_drewN | apply below_drew1 | refine below_set ?_ GE703.out | refine below_set ?_ GE712.out) | exact HB.out)))) (blk_below (g := gb703) (o := .cells #[.slice Ao27 t696.length co27, .slice Ao29 t699.length co29] 29 (0, 0)) (by (with_reducible repeat (first | refine blk_drewN ?_ _ | refine blk_drew ?_ | refine blk_alloc ?_ _)); exact BK703.out) hb) (blk_below (g := gb712) (o := .cells #[.slice Ao33 t705.length co33, .slice Ao36 t708.length co36] 29 (0, 0)) (by (with_reducible repeat (first | refine blk_drewN ?_ _ | refine blk_drew ?_ | refine blk_alloc ?_ _)); exact BK712.out) hb) (below_step (by repeat (first | (with_reducible first | exact HB.out | apply below_alloc | apply pw_below_drewN | apply below_drew1 | refine below_set ?_ GE703.out | refine below_set ?_ GE712.out) | exact HB.out)) hb) ?_; clear HO_14 HO_704000 HO_704001 HO_713000 HO_713001 HO724 BK703 BK712 HB; intro HO_14 HO_704000 HO_704001 HO_713000 HO_713001 HO724 HO727 BK703 BK712 HB; clear hb ho0; obtain ⟨Ao62, co62, eo62⟩ := Kd.V_slice HO727.out; subst eo62))
          refine nx10_ (Kd.R_drew HO_14.out) (Kd.V_drew HO_704000.out) (Kd.V_drew HO_704001.out) (Kd.V_drew HO_713000.out) (Kd.V_drew HO_713001.out) (blk_drew HO724.out) (Kd.V_drew HO727.out) (blk_drew BK703.out) (blk_drew BK712.out) (below_drew1 HB.out) ?_
          clear HO_14 HO_704000 HO_704001 HO_713000 HO_713001 HO724 HO727 BK703 BK712 HB
          intro HO_14 HO_704000 HO_704001 HO_713000 HO_713001 HO724 HO727 BK703 BK712 HB
          refine start_ (n := 13) (S := (fun w' => (convert 37 9 (.slice (some ⟨gs723, 0, none⟩) 1 1)).run Tryd.prog w' = .ok (.string (strOfNums y722)) w')) (ds := []) (bv 13 0) (by kernel_rfl) rfl rfl (str_blk (P := Tryd.prog) Tryd.underlying37 Tryd.underlying5 Tryd.underlying9 HO724.out Ny722.out) (fun hHeld => ?_); refine with_tabW attestorlaw02_RatioPrints.tab19 attestorlaw02_RatioPrints.bits19 (fun HT_ HW_ => ?_)
          generalize w61.drew = w63 at HO_14 HO_704000 HO_704001 HO_713000 HO_713001 HO724 HO727 BK703 BK712 HB hHeld ⊢
          refine pr_ (i := 0) (N := some 107) (v := ?_) (a' := ?_) (bv 13 1) HT_.out ?_ ?_ ?_; rotate_left 2; (intro w'; go_simp; with_reducible rfl); (simp only [Act.put, s1_, s2_, s3_, i64_w, i32_w]; rfl)
          refine pr_ (i := 1) (N := some 108) (v := ?_) (a' := ?_) (bv 13 3) HT_.out ?_ ?_ ?_; rotate_left 2; (intro w'; go_simp; with_reducible rfl); (simp only [Act.put, s1_, s2_, s3_, i64_w, i32_w]; rfl)
          refine pr_ (i := 2) (N := some 109) (v := ?_) (a' := ?_) (bv 13 7) HT_.out ?_ ?_ ?_; rotate_left 2; (intro w'; go_simp; with_reducible rfl); (simp only [Act.put, s1_, s2_, s3_, i64_w, i32_w]; rfl)
          refine pr_ (i := 3) (N := some 110) (v := ?_) (a' := ?_) (bv 13 15) HT_.out ?_ ?_ ?_; rotate_left 2; (intro w'; go_simp; with_reducible rfl); (simp only [Act.put, s1_, s2_, s3_, i64_w, i32_w]; rfl)
          refine pr_ (i := 5) (N := some 112) (v := ?_) (a' := ?_) (bv 13 47) HT_.out ?_ ?_ ?_; rotate_left 2; (intro w'; go_simp; with_reducible rfl); (simp only [Act.put, s1_, s2_, s3_, i64_w, i32_w]; rfl)
          refine take_ (i := 6) (N := some 113) (v := ?_) (a' := ?_) (bv 13 111) rfl rfl (take_ofW HT_.out HW_.out (by kernel_rfl)) (fun _ _ _ h => h) (Or.inl ⟨by rfl, ?_⟩) hHeld ?_ ?_
          rotate_left
          ·rintro w' s0
           go_simp
           with_reducible rfl
          rotate_left
          ·simp only [Act.put, s1_, s2_, s3_, i64_w, i32_w]
           rfl
          refine one_ (i := 4) (N := some 111) (bv 13 127) rfl rfl (one_of HT_.out (by kernel_rfl)) (by decide) (fun K hK => ?_)
          refine goes_ Tryd.func21 (by kernel_rfl) rfl #[.slice Ao62 t725.length co62] (by rfl) rfl rfl ga_ ?_
          with_reducible refine (ratio_Text.calls kj38 (fun k_ => (some k_ ≠ (.slice Ao57 x14_38.length co57 : Value).ownBlock ∧ (k_ ≠ gs723 ∧ (k_ ≠ gb703 ∧ k_ ≠ gb712)))) _ _ t725 t729 _ ?side1 A54.out).mono ?_
          (case side1 => exact HO727.out)
          rintro e w64 ⟨rfl, hb⟩
          refine ⟨_, rfl, ?_⟩
          refine nx10_ (Kd.R_below (rU_ HO_14.out) hb) (Kd.V_below (by (with_reducible repeat (first | apply Kd.V_alloc | apply Kd.V_drewN | apply Kd.V_drew)); exact HO_704000.out) hb) (Kd.V_below (by (with_reducible repeat (first | apply Kd.V_alloc | apply Kd.V_drewN | apply Kd.V_drew)); exact HO_704001.out) hb) (Kd.V_below (by (with_reducible repeat (first | apply Kd.V_alloc | apply Kd.V_drewN | apply Kd.V_drew)); exact HO_713000.out) hb) (Kd.V_below (by (with_reducible repeat (first | apply Kd.V_alloc | apply Kd.V_drewN | apply Kd.V_drew)); exact HO_713001.out) hb) (blk_below (g := gs723) (o := (.cells #[.int .u8 48] 5 (1, 2))) (by (with_reducible repeat (first | refine blk_drewN ?_ _ | refine blk_drew ?_ | refine blk_alloc ?_ _)); exact HO724.out) hb) (Kd.V_below (by (with_reducible repeat (first | apply Kd.V_alloc | apply Kd.V_drewN | apply Kd.V_drew)); exact HO727.out) hb) (blk_below (g := gb703) (o := .cells #[.slice Ao27 t696.length co27, .slice Ao29 t699.length co29] 29 (0, 0)) (by (with_reducible repeat (first | refine blk_drewN ?_ _ | refine blk_drew ?_ | refine blk_alloc ?_ _)); exact BK703.out) hb) (blk_below (g := gb712) (o := .cells #[.slice Ao33 t705.length co33, .slice Ao36 t708.length co36] 29 (0, 0)) (by (with_reducible repeat (first | refine blk_drewN ?_ _ | refine blk_drew ?_ | refine blk_alloc ?_ _)); exact BK712.out) hb) (below_step (by repeat (first | (with_reducible first | exact HB.out | apply below_alloc | apply pw_below_drewN | apply below_drew1 | refine below_set ?_ GE703.out | refine below_set ?_ GE712.out) | exact HB.out)) hb) ?_
          clear HO_14 HO_704000 HO_704001 HO_713000 HO_713001 HO724 HO727 BK703 BK712 HB
          intro HO_14 HO_704000 HO_704001 HO_713000 HO_713001 HO724 HO727 BK703 BK712 HB
          (try clear hb)
          (try clear hb2)
          (try clear hk)
          (try clear hi)
          have hcv65 := str_blk (P := Tryd.prog) Tryd.underlying37 Tryd.underlying5 Tryd.underlying9 HO724.out Ny722.out
          refine hK.out _ _ hcv65 (fun hHeld => ?_)
          clear hK K
          refine norm_ (a' := ?_) ?_ ?_
          rotate_left
          ·show Act.put _ (some 111) _ = _
           simp only [Act.put, s1_, s2_, s3_, i64_w, i32_w]
           rfl
          refine pr_ (i := 7) (N := some 114) (v := ?_) (a' := ?_) (bv 13 255) HT_.out ?_ ?_ ?_; rotate_left 2; (intro w'; go_simp; with_reducible rfl); (simp only [Act.put, s1_, s2_, s3_, i64_w, i32_w]; rfl)
          refine pr_ (i := 8) (N := some 115) (v := ?_) (a' := ?_) (bv 13 511) HT_.out ?_ ?_ ?_; rotate_left 2; (intro w'; go_simp; with_reducible rfl); (simp only [Act.put, s1_, s2_, s3_, i64_w, i32_w]; rfl)
          refine pr_ (i := 9) (N := some 116) (v := ?_) (a' := ?_) (bv 13 1023) HT_.out ?_ ?_ ?_; rotate_left 2; (intro w'; go_simp; with_reducible rfl); (simp only [Act.put, s1_, s2_, s3_, i64_w, i32_w]; rfl)
          refine one_ (i := 10) (N := some 117) (bv 13 2047) rfl rfl (one_of HT_.out (by kernel_rfl)) (by decide) (fun K hK => ?_)
          refine goes_ Tryd.func19 (by kernel_rfl) rfl #[] (by rfl) rfl rfl ga_ ?_
          with_reducible refine (attestorlaw02_works.calls kj38  t730 _ A56.out).mono ?_
          rintro e w67 ⟨rfl, hb⟩
          refine ⟨_, rfl, ?_⟩
          refine nx10_ (Kd.R_below (rU_ HO_14.out) hb) (Kd.V_below (by (with_reducible repeat (first | apply Kd.V_alloc | apply Kd.V_drewN | apply Kd.V_drew)); exact HO_704000.out) hb) (Kd.V_below (by (with_reducible repeat (first | apply Kd.V_alloc | apply Kd.V_drewN | apply Kd.V_drew)); exact HO_704001.out) hb) (Kd.V_below (by (with_reducible repeat (first | apply Kd.V_alloc | apply Kd.V_drewN | apply Kd.V_drew)); exact HO_713000.out) hb) (Kd.V_below (by (with_reducible repeat (first | apply Kd.V_alloc | apply Kd.V_drewN | apply Kd.V_drew)); exact HO_713001.out) hb) (blk_below (g := gs723) (o := (.cells #[.int .u8 48] 5 (1, 2))) (by (with_reducible repeat (first | refine blk_drewN ?_ _ | refine blk_drew ?_ | refine blk_alloc ?_ _)); exact HO724.out) hb) (Kd.V_below (by (with_reducible repeat (first | apply Kd.V_alloc | apply Kd.V_drewN | apply Kd.V_drew)); exact HO727.out) hb) (blk_below (g := gb703) (o := .cells #[.slice Ao27 t696.length co27, .slice Ao29 t699.length co29] 29 (0, 0)) (by (with_reducible repeat (first | refine blk_drewN ?_ _ | refine blk_drew ?_ | refine blk_alloc ?_ _)); exact BK703.out) hb) (blk_below (g := gb712) (o := .cells #[.slice Ao33 t705.length co33, .slice Ao36 t708.length co36] 29 (0, 0)) (by (with_reducible repeat (first | refine blk_drewN ?_ _ | refine blk_drew ?_ | refine blk_alloc ?_ _)); exact BK712.out) hb) (below_step (by repeat (first | (with_reducible first | exact HB.out | apply below_alloc | apply pw_below_drewN | apply below_drew1 | refine below_set ?_ GE703.out | refine below_set ?_ GE712.out) | exact HB.out)) hb) ?_
          clear HO_14 HO_704000 HO_704001 HO_713000 HO_713001 HO724 HO727 BK703 BK712 HB
          intro HO_14 HO_704000 HO_704001 HO_713000 HO_713001 HO724 HO727 BK703 BK712 HB
          (try clear hb)
          (try clear hb2)
          (try clear hk)
          (try clear hi)
          refine hK.out _ _ (str_blk (P := Tryd.prog) Tryd.underlying37 Tryd.underlying5 Tryd.underlying9 HO724.out Ny722.out) (fun hHeld => ?_)
          clear hK K
          refine norm_ (a' := ?_) ?_ ?_
          rotate_left
          ·show Act.put _ (some 117) _ = _
           simp only [Act.put, s1_, s2_, s3_, i64_w, i32_w]
           rfl
          refine pr_ (i := 11) (N := some 118) (v := ?_) (a' := ?_) (bv 13 4095) HT_.out ?_ ?_ ?_; rotate_left 2; (intro w'; go_simp; with_reducible rfl); (simp only [Act.put, s1_, s2_, s3_, i64_w, i32_w]; rfl)
          refine pr_ (i := 12) (N := some 6) (v := ?_) (a' := ?_) (bv 13 8191) HT_.out ?_ ?_ ?_; rotate_left 2; (intro w'; go_simp; with_reducible rfl); (simp only [Act.put, s1_, s2_, s3_, i64_w, i32_w]; rfl)
          refine done_ (done_of HT_.out (by kernel_rfl)) ?_
          try go_wp2
          go_ret
          exact ⟨by first | rfl | (simp [errW_none, errW_some] <;> rfl) | (simp [*, errW_none, errW_some] <;> rfl), by repeat (first | (with_reducible first | exact HB.out | apply below_alloc | apply pw_below_drewN | apply below_drew1 | refine below_set ?_ GE703.out | refine below_set ?_ GE712.out) | exact HB.out)⟩
         ·rw [if_neg c51] at H
          have c51b0 := beq_eq_false_iff_ne.mpr c51
          have c51b1 := bne_iff_ne.mpr c51
          have c51b2 : ¬ (x14_38 = []) := fun h_ => c51 (by rw [h_]; rfl)
          revert H
          refine bd2_ fun t731 t734 A68 H => ?_
          try dsimp only at H
          obtain ⟨c69, H⟩ : (t734 = 0) ∧ _ := it_ H
          have c69b0 := beq_iff_eq.mpr c69
          have c69b1 := bne_eq_false_iff_eq.mpr c69
          clear c69
          revert H
          refine bd_ fun t735 A70 H => ?_
          obtain ⟨c71, H⟩ : (t735.toList = (strOfNums x14_38).toList) ∧ _ := it_ H
          have c71b0 := beq_iff_eq.mpr c71
          have c71b1 := bne_eq_false_iff_eq.mpr c71
          clear c71
          revert H
          refine bd_ fun t736 A72 H => ?_
          obtain rfl := Option.some.inj H
          obtain ⟨Ao73, co73, eo73⟩ := Kd.R_slice HO_14.out
          subst eo73
          have hcv74 := own_string (P := Tryd.prog) Tryd.underlying37 Tryd.underlying5 Tryd.underlying9 (Kd.own_of_R HO_14.out)
          try go_wp2_with (first | ((with_reducible refine gate_callee (f := 11) rfl ?_); refine gl_ (some 104) Tryd.func11 #[.string (strOfNums x14_38)] ?_; (with_reducible refine (ratio_Parse.calls kj38 (strOfNums x14_38) t731 t734 _ A68.out).mono ?_); rintro e w75 ⟨v732, rfl, ho0, hb⟩; refine ⟨_, rfl, ?_⟩; refine nx9_ (Kd.R_below (rU_ HO_14.out) hb) (Kd.V_below (by (with_reducible repeat (first | apply Kd.V_alloc | apply Kd.V_drewN | apply Kd.V_drew)); exact HO_704000.out) hb) (Kd.V_below (by (with_reducible repeat (first | apply Kd.V_alloc | apply Kd.V_drewN | apply Kd.V_drew)); exact HO_704001.out) hb) (Kd.V_below (by (with_reducible repeat (first | apply Kd.V_alloc | apply Kd.V_drewN | apply Kd.V_drew)); exact HO_713000.out) hb) (Kd.V_below (by (with_reducible repeat (first | apply Kd.V_alloc | apply Kd.V_drewN | apply Kd.V_drew)); exact HO_713001.out) hb) (Kd.V_lower (Kd.V_mono (ok' := fun k_ => some k_ ≠ (.slice Ao73 x14_38.length co73 : Value).ownBlock ∧ k_ ≠ gb703 ∧ k_ ≠ gb712) ho0 (fun k_ hk_ => ⟨(Kd.fresh' (Kd.R_lt (rU_ HO_14.out)) k_ hk_), (Kd.freshB (g := gb703) (o := .cells #[.slice Ao27 t696.length co27, .slice Ao29 t699.length co29] 29 (0, 0)) (by (with_reducible repeat (first | refine blk_drewN ?_ _ | refine blk_drew ?_ | refine blk_alloc ?_ _)); exact BK703.out) k_ hk_), (Kd.freshB (g := gb712) (o := .cells #[.slice Ao33 t705.length co33, .slice Ao36 t708.length co36] 29 (0, 0)) (by (with_reducible repeat (first | refine blk_drewN ?_ _ | refine blk_drew ?_ | refine blk_alloc ?_ _)); exact BK712.out) k_ hk_)⟩)) (below_size (by repeat (first | (with_reducible first | exact HB.out | apply below_alloc | apply pw_below_drewN | apply below_drew1 | refine below_set ?_ GE703.out | refine below_set ?_ GE712.out) | exact HB.out)))) (blk_below (g := gb703) (o := .cells #[.slice Ao27 t696.length co27, .slice Ao29 t699.length co29] 29 (0, 0)) (by (with_reducible repeat (first | refine blk_drewN ?_ _ | refine blk_drew ?_ | refine blk_alloc ?_ _)); exact BK703.out) hb) (blk_below (g := gb712) (o := .cells #[.slice Ao33 t705.length co33, .slice Ao36 t708.length co36] 29 (0, 0)) (by (with_reducible repeat (first | refine blk_drewN ?_ _ | refine blk_drew ?_ | refine blk_alloc ?_ _)); exact BK712.out) hb) (below_step (by repeat (first | (with_reducible first | exact HB.out | apply below_alloc | apply pw_below_drewN | apply below_drew1 | refine below_set ?_ GE703.out | refine below_set ?_ GE712.out) | exact HB.out)) hb) ?_; clear HO_14 HO_704000 HO_704001 HO_713000 HO_713001 BK703 BK712 HB; intro HO_14 HO_704000 HO_704001 HO_713000 HO_713001 HO733 BK703 BK712 HB; clear hb ho0; obtain ⟨Ao76, co76, eo76⟩ := Kd.V_slice HO733.out; subst eo76))
          refine nx9_ (Kd.R_drew HO_14.out) (Kd.V_drew HO_704000.out) (Kd.V_drew HO_704001.out) (Kd.V_drew HO_713000.out) (Kd.V_drew HO_713001.out) (Kd.V_drew HO733.out) (blk_drew BK703.out) (blk_drew BK712.out) (below_drew1 HB.out) ?_
          clear HO_14 HO_704000 HO_704001 HO_713000 HO_713001 HO733 BK703 BK712 HB
          intro HO_14 HO_704000 HO_704001 HO_713000 HO_713001 HO733 BK703 BK712 HB
          refine start_ (n := 13) (S := (fun w' => (convert 37 9 (.slice Ao73 x14_38.length co73)).run Tryd.prog w' = .ok (.string (strOfNums x14_38)) w')) (ds := []) (bv 13 0) (by kernel_rfl) rfl rfl (own_string (P := Tryd.prog) Tryd.underlying37 Tryd.underlying5 Tryd.underlying9 (Kd.own_of_R HO_14.out)) (fun hHeld => ?_); refine with_tabW attestorlaw02_RatioPrints.tab19 attestorlaw02_RatioPrints.bits19 (fun HT_ HW_ => ?_)
          generalize w75.drew = w77 at HO_14 HO_704000 HO_704001 HO_713000 HO_713001 HO733 BK703 BK712 HB hHeld ⊢
          refine pr_ (i := 0) (N := some 107) (v := ?_) (a' := ?_) (bv 13 1) HT_.out ?_ ?_ ?_; rotate_left 2; (intro w'; go_simp; with_reducible rfl); (simp only [Act.put, s1_, s2_, s3_, i64_w, i32_w]; rfl)
          refine pr_ (i := 1) (N := some 108) (v := ?_) (a' := ?_) (bv 13 3) HT_.out ?_ ?_ ?_; rotate_left 2; (intro w'; go_simp; with_reducible rfl); (simp only [Act.put, s1_, s2_, s3_, i64_w, i32_w]; rfl)
          refine pr_ (i := 2) (N := some 109) (v := ?_) (a' := ?_) (bv 13 7) HT_.out ?_ ?_ ?_; rotate_left 2; (intro w'; go_simp; with_reducible rfl); (simp only [Act.put, s1_, s2_, s3_, i64_w, i32_w]; rfl)
          refine pr_ (i := 3) (N := some 110) (v := ?_) (a' := ?_) (bv 13 15) HT_.out ?_ ?_ ?_; rotate_left 2; (intro w'; go_simp; with_reducible rfl); (simp only [Act.put, s1_, s2_, s3_, i64_w, i32_w]; rfl)
          refine pr_ (i := 5) (N := some 112) (v := ?_) (a' := ?_) (bv 13 47) HT_.out ?_ ?_ ?_; rotate_left 2; (intro w'; go_simp; with_reducible rfl); (simp only [Act.put, s1_, s2_, s3_, i64_w, i32_w]; rfl)
          refine take_ (i := 6) (N := some 113) (v := ?_) (a' := ?_) (bv 13 111) rfl rfl (take_ofW HT_.out HW_.out (by kernel_rfl)) (fun _ _ _ h => h) (Or.inl ⟨by rfl, ?_⟩) hHeld ?_ ?_
          rotate_left
          ·rintro w' s0
           go_simp
           with_reducible rfl
          rotate_left
          ·simp only [Act.put, s1_, s2_, s3_, i64_w, i32_w]
           rfl
          refine one_ (i := 4) (N := some 111) (bv 13 127) rfl rfl (one_of HT_.out (by kernel_rfl)) (by decide) (fun K hK => ?_)
          refine goes_ Tryd.func21 (by kernel_rfl) rfl #[.slice Ao76 t731.length co76] (by rfl) rfl rfl ga_ ?_
          with_reducible refine (ratio_Text.calls kj38 (fun k_ => (some k_ ≠ (.slice Ao73 x14_38.length co73 : Value).ownBlock ∧ (k_ ≠ gb703 ∧ k_ ≠ gb712))) _ _ t731 t735 _ ?side1 A70.out).mono ?_
          (case side1 => exact HO733.out)
          rintro e w78 ⟨rfl, hb⟩
          refine ⟨_, rfl, ?_⟩
          refine nx9_ (Kd.R_below (rU_ HO_14.out) hb) (Kd.V_below (by (with_reducible repeat (first | apply Kd.V_alloc | apply Kd.V_drewN | apply Kd.V_drew)); exact HO_704000.out) hb) (Kd.V_below (by (with_reducible repeat (first | apply Kd.V_alloc | apply Kd.V_drewN | apply Kd.V_drew)); exact HO_704001.out) hb) (Kd.V_below (by (with_reducible repeat (first | apply Kd.V_alloc | apply Kd.V_drewN | apply Kd.V_drew)); exact HO_713000.out) hb) (Kd.V_below (by (with_reducible repeat (first | apply Kd.V_alloc | apply Kd.V_drewN | apply Kd.V_drew)); exact HO_713001.out) hb) (Kd.V_below (by (with_reducible repeat (first | apply Kd.V_alloc | apply Kd.V_drewN | apply Kd.V_drew)); exact HO733.out) hb) (blk_below (g := gb703) (o := .cells #[.slice Ao27 t696.length co27, .slice Ao29 t699.length co29] 29 (0, 0)) (by (with_reducible repeat (first | refine blk_drewN ?_ _ | refine blk_drew ?_ | refine blk_alloc ?_ _)); exact BK703.out) hb) (blk_below (g := gb712) (o := .cells #[.slice Ao33 t705.length co33, .slice Ao36 t708.length co36] 29 (0, 0)) (by (with_reducible repeat (first | refine blk_drewN ?_ _ | refine blk_drew ?_ | refine blk_alloc ?_ _)); exact BK712.out) hb) (below_step (by repeat (first | (with_reducible first | exact HB.out | apply below_alloc | apply pw_below_drewN | apply below_drew1 | refine below_set ?_ GE703.out | refine below_set ?_ GE712.out) | exact HB.out)) hb) ?_
          clear HO_14 HO_704000 HO_704001 HO_713000 HO_713001 HO733 BK703 BK712 HB
          intro HO_14 HO_704000 HO_704001 HO_713000 HO_713001 HO733 BK703 BK712 HB
          (try clear hb)
          (try clear hb2)
          (try clear hk)
          (try clear hi)
          have hcv79 := own_string (P := Tryd.prog) Tryd.underlying37 Tryd.underlying5 Tryd.underlying9 (Kd.own_of_R HO_14.out)
          refine hK.out _ _ hcv79 (fun hHeld => ?_)
          clear hK K
          refine norm_ (a' := ?_) ?_ ?_
          rotate_left
          ·show Act.put _ (some 111) _ = _
           simp only [Act.put, s1_, s2_, s3_, i64_w, i32_w]
           rfl
          refine pr_ (i := 7) (N := some 114) (v := ?_) (a' := ?_) (bv 13 255) HT_.out ?_ ?_ ?_; rotate_left 2; (intro w'; go_simp; with_reducible rfl); (simp only [Act.put, s1_, s2_, s3_, i64_w, i32_w]; rfl)
          refine pr_ (i := 8) (N := some 115) (v := ?_) (a' := ?_) (bv 13 511) HT_.out ?_ ?_ ?_; rotate_left 2; (intro w'; go_simp; with_reducible rfl); (simp only [Act.put, s1_, s2_, s3_, i64_w, i32_w]; rfl)
          refine pr_ (i := 9) (N := some 116) (v := ?_) (a' := ?_) (bv 13 1023) HT_.out ?_ ?_ ?_; rotate_left 2; (intro w'; go_simp; with_reducible rfl); (simp only [Act.put, s1_, s2_, s3_, i64_w, i32_w]; rfl)
          refine one_ (i := 10) (N := some 117) (bv 13 2047) rfl rfl (one_of HT_.out (by kernel_rfl)) (by decide) (fun K hK => ?_)
          refine goes_ Tryd.func19 (by kernel_rfl) rfl #[] (by rfl) rfl rfl ga_ ?_
          with_reducible refine (attestorlaw02_works.calls kj38  t736 _ A72.out).mono ?_
          rintro e w81 ⟨rfl, hb⟩
          refine ⟨_, rfl, ?_⟩
          refine nx9_ (Kd.R_below (rU_ HO_14.out) hb) (Kd.V_below (by (with_reducible repeat (first | apply Kd.V_alloc | apply Kd.V_drewN | apply Kd.V_drew)); exact HO_704000.out) hb) (Kd.V_below (by (with_reducible repeat (first | apply Kd.V_alloc | apply Kd.V_drewN | apply Kd.V_drew)); exact HO_704001.out) hb) (Kd.V_below (by (with_reducible repeat (first | apply Kd.V_alloc | apply Kd.V_drewN | apply Kd.V_drew)); exact HO_713000.out) hb) (Kd.V_below (by (with_reducible repeat (first | apply Kd.V_alloc | apply Kd.V_drewN | apply Kd.V_drew)); exact HO_713001.out) hb) (Kd.V_below (by (with_reducible repeat (first | apply Kd.V_alloc | apply Kd.V_drewN | apply Kd.V_drew)); exact HO733.out) hb) (blk_below (g := gb703) (o := .cells #[.slice Ao27 t696.length co27, .slice Ao29 t699.length co29] 29 (0, 0)) (by (with_reducible repeat (first | refine blk_drewN ?_ _ | refine blk_drew ?_ | refine blk_alloc ?_ _)); exact BK703.out) hb) (blk_below (g := gb712) (o := .cells #[.slice Ao33 t705.length co33, .slice Ao36 t708.length co36] 29 (0, 0)) (by (with_reducible repeat (first | refine blk_drewN ?_ _ | refine blk_drew ?_ | refine blk_alloc ?_ _)); exact BK712.out) hb) (below_step (by repeat (first | (with_reducible first | exact HB.out | apply below_alloc | apply pw_below_drewN | apply below_drew1 | refine below_set ?_ GE703.out | refine below_set ?_ GE712.out) | exact HB.out)) hb) ?_
          clear HO_14 HO_704000 HO_704001 HO_713000 HO_713001 HO733 BK703 BK712 HB
          intro HO_14 HO_704000 HO_704001 HO_713000 HO_713001 HO733 BK703 BK712 HB
          (try clear hb)
          (try clear hb2)
          (try clear hk)
          (try clear hi)
          refine hK.out _ _ (own_string (P := Tryd.prog) Tryd.underlying37 Tryd.underlying5 Tryd.underlying9 (Kd.own_of_R HO_14.out)) (fun hHeld => ?_)
          clear hK K
          refine norm_ (a' := ?_) ?_ ?_
          rotate_left
          ·show Act.put _ (some 117) _ = _
           simp only [Act.put, s1_, s2_, s3_, i64_w, i32_w]
           rfl
          refine pr_ (i := 11) (N := some 118) (v := ?_) (a' := ?_) (bv 13 4095) HT_.out ?_ ?_ ?_; rotate_left 2; (intro w'; go_simp; with_reducible rfl); (simp only [Act.put, s1_, s2_, s3_, i64_w, i32_w]; rfl)
          refine pr_ (i := 12) (N := some 6) (v := ?_) (a' := ?_) (bv 13 8191) HT_.out ?_ ?_ ?_; rotate_left 2; (intro w'; go_simp; with_reducible rfl); (simp only [Act.put, s1_, s2_, s3_, i64_w, i32_w]; rfl)
          refine done_ (done_of HT_.out (by kernel_rfl)) ?_
          try go_wp2
          go_ret
          exact ⟨by first | rfl | (simp [errW_none, errW_some] <;> rfl) | (simp [*, errW_none, errW_some] <;> rfl), by repeat (first | (with_reducible first | exact HB.out | apply below_alloc | apply pw_below_drewN | apply below_drew1 | refine below_set ?_ GE703.out | refine below_set ?_ GE712.out) | exact HB.out)⟩
    ·replace c22 := Bool.eq_false_iff.mpr c22
     subst c22
     rw [if_neg (show ¬ (false = true) by decide)] at H
     exact absurd H (by simp)
   ·replace c19 := Bool.eq_false_iff.mpr c19
    subst c19
    rw [if_neg (show ¬ (false = true) by decide)] at H
    exact absurd H (by simp)

/-- THE ONE PURE STATEMENT of attestorlaw02_RatioPrints: yours. -/
def attestorlaw02_RatioPrints.Pure : Prop := ∀ (l0 : List Int) (l1 : List Int) (l2 : List Int), l0.length ≤ maxLen → l0.length * 4 ≤ 140737488351232 → (∀ x ∈ l0, (Lit.int .u32 x).wf = true) → l1.length ≤ maxLen → l1.length * 4 ≤ 140737488351232 → (∀ x ∈ l1, (Lit.int .u32 x).wf = true) → l2.length ≤ maxLen → l2.length * 1 ≤ 140737488351232 → (∀ x ∈ l2, (Lit.int .u8 x).wf = true) → ∃ k, attestorlaw02_RatioPrints.f k l0 l1 l2 = some true
theorem attestorlaw02_RatioPrints.walk (P : attestorlaw02_RatioPrints.Pure) (a0 : Option Addr) (len0 cap0 : Nat) (z0 : List Int) (a1 : Option Addr) (len1 cap1 : Nat) (z1 : List Int) (a2 : Option Addr) (len2 cap2 : Nat) (z2 : List Int) (w : World) (w0 : (a0 = none ∧ len0 = 0 ∧ cap0 = 0 ∧ z0 = []) ∨ ∃ x, a0 = some x ∧ len0 ≤ cap0 ∧ cap0 ≤ maxLen ∧ z0.length = cap0 ∧ (∀ i, i < z0.length → w.cell? (x.add i) = some (.int .u32 (z0.getD i 0))) ∧ ∀ n ∈ z0, (Lit.int .u32 n).wf = true) (y0 : len0 * 4 ≤ 140737488351232) (w1 : (a1 = none ∧ len1 = 0 ∧ cap1 = 0 ∧ z1 = []) ∨ ∃ x, a1 = some x ∧ len1 ≤ cap1 ∧ cap1 ≤ maxLen ∧ z1.length = cap1 ∧ (∀ i, i < z1.length → w.cell? (x.add i) = some (.int .u32 (z1.getD i 0))) ∧ ∀ n ∈ z1, (Lit.int .u32 n).wf = true) (y1 : len1 * 4 ≤ 140737488351232) (w2 : (a2 = none ∧ len2 = 0 ∧ cap2 = 0 ∧ z2 = []) ∨ ∃ x, a2 = some x ∧ len2 ≤ cap2 ∧ cap2 ≤ maxLen ∧ z2.length = cap2 ∧ (∀ i, i < z2.length → w.cell? (x.add i) = some (.int .u8 (z2.getD i 0))) ∧ ∀ n ∈ z2, (Lit.int .u8 n).wf = true) (y2 : len2 * 1 ≤ 140737488351232) :
  Calls Tryd.prog 4 #[.slice a0 len0 cap0, .slice a1 len1 cap1, .slice a2 len2 cap2] w fun e w' => e = .returned (.bool true) ∧ Below w.heap.size w w' := by
 obtain ⟨l0, rfl, hr0, hm0, hw0, hc0⟩ := ReadsInt.ofRowC w0
 obtain ⟨l1, rfl, hr1, hm1, hw1, hc1⟩ := ReadsInt.ofRowC w1
 obtain ⟨l2, rfl, hr2, hm2, hw2, hc2⟩ := ReadsInt.ofRowC w2
 obtain ⟨k, h⟩ := P l0 l1 l2 hm0 y0 hw0 hm1 y1 hw1 hm2 y2 hw2
 refine (attestorlaw02_RatioPrints.calls k _ _ l0 _ _ l1 _ _ l2 true w (Kd.C_of_reads (d := (0 : Int)) (h1 := fun _ => rfl) hr0) hc0 (Kd.C_of_reads (d := (0 : Int)) (h1 := fun _ => rfl) hr1) hc1 (Kd.C_of_reads (d := (0 : Int)) (h1 := fun _ => rfl) hr2) hc2 h).mono ?_
 rintro e w' ⟨rfl, hd⟩
 exact ⟨rfl, hd⟩

end Go.Proofs.YtjjjoepnlhpjdaaDoor.Q
