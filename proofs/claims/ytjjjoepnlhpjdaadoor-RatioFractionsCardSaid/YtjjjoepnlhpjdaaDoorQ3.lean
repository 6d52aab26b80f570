import Derived.Test.YtjjjoepnlhpjdaaDoorQ0
import Derived.Test.YtjjjoepnlhpjdaaDoorQ1
import Derived.Test.YtjjjoepnlhpjdaaDoorQ2
namespace Go.Proofs.YtjjjoepnlhpjdaaDoor.Q
open Go.RowKit Go.Proofs.YtjjjoepnlhpjdaaDoorW.PrintWords Go.Proofs.YtjjjoepnlhpjdaaDoorW.PrintLast Go.Proofs.YtjjjoepnlhpjdaaDoorW.PrintMore
open Kd (R_below R_mono R_lower R_lt R_slice R_reads' R_tight V_below V_mono V_far V_lower V_elderB V_slice V_reads' V_mk C_below F_below C_F fresh' freshB V_drew heap_int)
attribute [local go_sem] max2_int min2_int max_two min_two max_three min_three max_four min_four   -- for this text's walks alone
set_option linter.unusedVariables false
set_option linter.unusedSimpArgs false

theorem tbk_lt {w : World} {B : Nat} {o : Obj} (h : w.heap[B]? = some o) : B < w.heap.size := (Array.getElem?_eq_some_iff.1 h).1
theorem tbk_ {w w1 : World} {B : Nat} {o : Obj} (h : w.heap[B]? = some o) (hb : Below w.heap.size w w1) : w1.heap[B]? = some o := (hb.block B (tbk_lt h)).trans h
theorem tbkU_ {W W' : World} {B : Nat} {o : Obj} [h : Up W W'] (g : W.heap[B]? = some o) : W'.heap[B]? = some o := tbk_ g h.bel
theorem keptU_ {w W W' : World} {S : Nat → Prop} [h : Up W W'] (g : Kept w W S) : Kept w W' S := g.below h.bel
theorem tkept_ {w W W6 : World} {B : Nat} {v0 v1 : Value} (hg : W.grownBy W6 v1.ownBlock) (hk : Kept w W (fun k_ => k_ = B ∨ some k_ = v0.ownBlock)) (ho : v1.ownBlock = v0.ownBlock ∨ ∃ b, v1.ownBlock = some b ∧ w.heap.size ≤ b) : Kept w W6 (fun k_ => k_ = B ∨ some k_ = v0.ownBlock) :=
 Kept.of_grown hg hk (fun k_ e_ => by
  rcases ho with q | ⟨b, q, hb_⟩
  ·exact .inl (.inr (by rw [← q]; exact e_.symm))
  ·rw [q] at e_
   injection e_ with e_
   exact .inr (by omega))
theorem town_ {w W : World} {v0 v1 v2 : Value} (ho : v1.ownBlock = v0.ownBlock ∨ ∃ b, v1.ownBlock = some b ∧ w.heap.size ≤ b) (hs : w.heap.size ≤ W.heap.size) (hat : v2.ownBlock = v1.ownBlock ∨ ∃ b, v2.ownBlock = some b ∧ W.heap.size ≤ b) : v2.ownBlock = v0.ownBlock ∨ ∃ b, v2.ownBlock = some b ∧ w.heap.size ≤ b := by
 rcases hat with q | ⟨b, q, hb_⟩
 ·rw [q]
  exact ho
 ·exact .inr ⟨b, q, Nat.le_trans hs hb_⟩
theorem tne_ {W : World} {k : Nat} {v3 v4 : Value} (ho : v4.ownBlock = v3.ownBlock ∨ ∃ b, v4.ownBlock = some b ∧ W.heap.size ≤ b) (h1 : some k ≠ v3.ownBlock) (h2 : k < W.heap.size) : some k ≠ v4.ownBlock := by
 intro e_
 rcases ho with q | ⟨b, q, hb_⟩
 ·exact h1 (by rw [← q]; exact e_)
 ·rw [q] at e_
  injection e_ with e_
  omega
theorem tset_ {w : World} {B : Nat} {v : Value} {t : TypeId} (u : Value) (h : w.heap[B]? = some (.cells #[v] t (0, 0))) : (w.setCell ⟨B, 0, none⟩ u).heap[B]? = some (.cells #[u] t (0, 0)) := by
 simp [World.setCell, Array.getElem?_modify, h]
theorem tset_grown {w : World} {B : Nat} (u : Value) : w.grownBy (w.setCell ⟨B, 0, none⟩ u) (some B) :=
 ⟨rfl, rfl, rfl, by simp [World.setCell], fun k _ hn => by
  have : B ≠ k := fun e => hn (by rw [e])
  simp [World.setCell, Array.getElem?_modify, this]⟩
def ratio_Text_1.l0 : Nat → Int → Int → List Int → Option (List Int)
 | 0, _, _, _ => none
 | k + 1, n, m, l => if 0 < n ∨ 0 < m then (if l.length < 140737488355328 then ratio_Text_1.l0 k (Int.tdiv n 10 % 4294967296) (wrap64 (m - 1)) (l ++ [(48 + Int.tmod n 10) % 256]) else none) else some l
theorem ratio_Text_1.mono : ∀ k n m l, LeO (ratio_Text_1.l0 k n m l) (ratio_Text_1.l0 (k + 1) n m l)
 | 0, _, _, _ => fun r h => by simp [ratio_Text_1.l0] at h
 | k + 1, n, m, l => by
  rw [ratio_Text_1.l0, ratio_Text_1.l0]
  exact LeO.ite (LeO.ite (ratio_Text_1.mono _ _ _ _) (LeO.refl _)) (LeO.refl _)
set_option maxHeartbeats 8000000 in
set_option maxRecDepth 100000 in
theorem ratio_Text_1.calls (k : Nat) (a0 a1 : Int) (B : Nat) (v0 : Value) (l r : List Int) (w0 w : World) (hB : Below w0.heap.size w0 w) (hb0 : w0.heap.size ≤ B) (hbk : w.heap[B]? = some (.cells #[v0] 37 (0, 0))) (hr : Kd.R (Kd.int .u8) 5 w w0.heap.size (fun k_ => (w0.heap.size ≤ k_) ∧ k_ ≠ B) v0 l) (h : ratio_Text_1.l0 k a0 a1 l = some r) :
  Calls Tryd.prog 70 #[.int .u32 a0, .int .i64 a1, .pointer (some ⟨B, 0, none⟩)] w fun e w' => ∃ v1 : Value, e = .returned (.tuple #[]) ∧ w'.heap[B]? = some (.cells #[v1] 37 (0, 0)) ∧ Kd.R (Kd.int .u8) 5 w' w0.heap.size (fun k_ => (w0.heap.size ≤ k_) ∧ k_ ≠ B) v1 r ∧ (v1.ownBlock = v0.ownBlock ∨ ∃ b, v1.ownBlock = some b ∧ w.heap.size ≤ b) ∧ Below w0.heap.size w0 w' ∧ Kept w w' (fun k_ => k_ = B ∨ some k_ = v0.ownBlock) := by
 have HB := ak hB
 have BK := ak hbk
 have HR := ak hr
 have H' := ak h
 have HK := ak (Kept.refl w (fun k_ => k_ = B ∨ some k_ = v0.ownBlock))
 have BL := ak hb0
 clear hB hbk hr h hb0
 go_enter Tryd.func70, Tryd.ntmps70
 go_wp2
 go_loopg [0, 1] k (fun kq v0_ v1_ w' => ∃ (n m : Int) (l1 : List Int) (v1 : Value), v0_ = .int .u32 n ∧ v1_ = .int .i64 m ∧ Aside0 (ratio_Text_1.l0 kq n m l1 = some r) ∧ Aside0 (kq ≤ k) ∧ Aside0 (w'.heap[B]? = some (.cells #[v1] 37 (0, 0))) ∧ Aside0 (Kd.R (Kd.int .u8) 5 w' w0.heap.size (fun k_ => (w0.heap.size ≤ k_) ∧ k_ ≠ B) v1 l1) ∧ Aside0 (v1.ownBlock = v0.ownBlock ∨ ∃ b, v1.ownBlock = some b ∧ w.heap.size ≤ b) ∧ Aside0 (Kept w w' (fun k_ => k_ = B ∨ some k_ = v0.ownBlock)) ∧ Aside0 (Below w0.heap.size w0 w'))
 case atStart => exact ⟨a0, a1, l, v0, rfl, rfl, H', ⟨Nat.le_refl _⟩, BK, HR, ⟨Or.inl rfl⟩, HK, HB⟩
 case round =>
  clear H' HB BK HR HK
  obtain ⟨n, m, l1, v1, rfl, rfl, HA, HK1, BK, HR, HO, HK, HB⟩ := hrel
  cases gk with
  | zero => exact absurd HA.out (by simp [ratio_Text_1.l0])
  | succ k1 =>
   have H := HA.out
   clear HA
   rw [ratio_Text_1.l0] at H
   obtain ⟨Av, cv, ev⟩ := R_slice HR.out
   subst ev
   have hczwr := bc0_ BK.out
   have hfzwr := blk_frozen BK.out 0
   by_cases c : 0 < n ∨ 0 < m
   ·rw [if_pos c] at H
    obtain ⟨c5, H⟩ := it_ H
    have LM := ak c5
    have HX := ak H
    clear H c5
    obtain ⟨y, hy⟩ : ∃ y : List Int, y = l1 ++ [(48 + Int.tmod n 10) % 256] := ⟨_, rfl⟩
    rw [← hy] at HX
    have NY := ak hy
    clear hy
    have hne : ¬ some B = (Value.slice Av l1.length cv).ownBlock := fun e => (HR.out.1 B e.symm).2 rfl
    have HNE := ak hne
    clear hne
    by_cases c1 : 0 < n
    ·have c1b : decide (0 < n) = true := decide_eq_true c1
     clear c c1
     go_wp2_with (first | ((with_reducible refine gate_builtin (b := .append) (xs := #[.tmp 13, .tmp 18]) rfl ?_); at_builtin; refine Kd.R_append (Kd.int .u8) (w0 := w0) w0.heap.size rfl (.tmp 13) (.tmp 18) 37 5 (.int .u8 0) 1 rfl Tryd.underlying37 info5 rfl (by decide) (by omega) (.slice Av l1.length cv) l1 ((48 + (Int.tmod n 10)) % 256) [.int .u8 ((48 + (Int.tmod n 10)) % 256)] (fun k_ => (w0.heap.size ≤ k_) ∧ k_ ≠ B) (fun _ => False) rfl rfl ?aP (fun _ hk => hk.elim) ?aF ?aO ?aB ?aS ?aL ?_; (case aP => exact rfl); (case aB => exact bU_ HB.out); (case aF => exact (fun k_ hk => ⟨Nat.le_trans (below_size (bU_ HB.out)) hk, fun e_ => by subst e_; exact absurd hk (Nat.not_le.2 (tbk_lt (tbkU_ BK.out)))⟩)); (case aO => exact rU_ HR.out); (case aS => exact below_size (bU_ HB.out)); (case aL => have := LM.out; omega); intro v2 w6 ho hb hg hat; rw [← NY.out] at ho; have BK2 := ak ((hg.block B (tbk_lt (tbkU_ BK.out)) HNE.out).trans (tbkU_ BK.out)); have HK2 := ak (tkept_ hg (keptU_ HK.out) HO.out); have HO2 := ak (town_ HO.out (keptU_ HK.out).1 hat); have HR2 := ak ho; have HB2 := ak hb; clear ho hb hg hat HR HB BK HK HO hczwr hfzwr; obtain ⟨Aw, cw, ew⟩ := R_slice HR2.out; subst ew; have hczw6 := bc0_ BK2.out; have hfzw6 := blk_frozen BK2.out 0) | ((with_reducible refine gate_store (t := 37) (p := 2) rfl ?_); refine store_event (t := 37) (p := 2) (v := ?vo_w7) (w1 := (w6.setCell ⟨B, 0, none⟩ (.slice Aw y.length cw))) ?hg ?ho ?hn ?hr ?_; (case ho => rfl); (case hg => rfl); (case hn => rfl); (case hr => first | (go_simp; done) | (go_simp; rfl)); intro w7 hw; subst hw; have hg := tset_grown (w := w6) (B := B) (.slice Aw y.length cw); have BK := ak (tset_ (.slice Aw y.length cw) BK2.out); have HR := ak (Kd.R_grown HR2.out hg (fun k_ hk_ e_ => hk_.2 (Option.some.inj e_))); have HK := ak (Kept.of_grown (S := (fun k_ => k_ = B ∨ some k_ = v0.ownBlock)) hg HK2.out (fun k_ e_ => .inl (.inl (Option.some.inj e_).symm))); have HB := ak (below_set HB2.out BL.out : Below w0.heap.size w0 (w6.setCell ⟨B, 0, none⟩ (.slice Aw y.length cw))); have HO := HO2; clear hg BK2 HR2 HK2 HB2 HO2 hczw6 hfzw6; generalize w6.setCell ⟨B, 0, none⟩ (.slice Aw y.length cw) = w8 at *))
     go_roundg k1
     case measure => have := HK1.out; omega
     case rel => exact ⟨_, _, y, _, rfl, rfl, HX, ⟨by have := HK1.out; omega⟩, BK, HR, HO, HK, HB⟩
    ·have c1b : decide (0 < n) = false := decide_eq_false c1
     have c2b : decide (0 < m) = true := decide_eq_true (c.resolve_left c1)
     clear c c1
     go_wp2_with (first | ((with_reducible refine gate_builtin (b := .append) (xs := #[.tmp 13, .tmp 18]) rfl ?_); at_builtin; refine Kd.R_append (Kd.int .u8) (w0 := w0) w0.heap.size rfl (.tmp 13) (.tmp 18) 37 5 (.int .u8 0) 1 rfl Tryd.underlying37 info5 rfl (by decide) (by omega) (.slice Av l1.length cv) l1 ((48 + (Int.tmod n 10)) % 256) [.int .u8 ((48 + (Int.tmod n 10)) % 256)] (fun k_ => (w0.heap.size ≤ k_) ∧ k_ ≠ B) (fun _ => False) rfl rfl ?aP (fun _ hk => hk.elim) ?aF ?aO ?aB ?aS ?aL ?_; (case aP => exact rfl); (case aB => exact bU_ HB.out); (case aF => exact (fun k_ hk => ⟨Nat.le_trans (below_size (bU_ HB.out)) hk, fun e_ => by subst e_; exact absurd hk (Nat.not_le.2 (tbk_lt (tbkU_ BK.out)))⟩)); (case aO => exact rU_ HR.out); (case aS => exact below_size (bU_ HB.out)); (case aL => have := LM.out; omega); intro v2 w6 ho hb hg hat; rw [← NY.out] at ho; have BK2 := ak ((hg.block B (tbk_lt (tbkU_ BK.out)) HNE.out).trans (tbkU_ BK.out)); have HK2 := ak (tkept_ hg (keptU_ HK.out) HO.out); have HO2 := ak (town_ HO.out (keptU_ HK.out).1 hat); have HR2 := ak ho; have HB2 := ak hb; clear ho hb hg hat HR HB BK HK HO hczwr hfzwr; obtain ⟨Aw, cw, ew⟩ := R_slice HR2.out; subst ew; have hczw6 := bc0_ BK2.out; have hfzw6 := blk_frozen BK2.out 0) | ((with_reducible refine gate_store (t := 37) (p := 2) rfl ?_); refine store_event (t := 37) (p := 2) (v := ?vo_w7) (w1 := (w6.setCell ⟨B, 0, none⟩ (.slice Aw y.length cw))) ?hg ?ho ?hn ?hr ?_; (case ho => rfl); (case hg => rfl); (case hn => rfl); (case hr => first | (go_simp; done) | (go_simp; rfl)); intro w7 hw; subst hw; have hg := tset_grown (w := w6) (B := B) (.slice Aw y.length cw); have BK := ak (tset_ (.slice Aw y.length cw) BK2.out); have HR := ak (Kd.R_grown HR2.out hg (fun k_ hk_ e_ => hk_.2 (Option.some.inj e_))); have HK := ak (Kept.of_grown (S := (fun k_ => k_ = B ∨ some k_ = v0.ownBlock)) hg HK2.out (fun k_ e_ => .inl (.inl (Option.some.inj e_).symm))); have HB := ak (below_set HB2.out BL.out : Below w0.heap.size w0 (w6.setCell ⟨B, 0, none⟩ (.slice Aw y.length cw))); have HO := HO2; clear hg BK2 HR2 HK2 HB2 HO2 hczw6 hfzw6; generalize w6.setCell ⟨B, 0, none⟩ (.slice Aw y.length cw) = w8 at *))
     go_roundg k1
     case measure => have := HK1.out; omega
     case rel => exact ⟨_, _, y, _, rfl, rfl, HX, ⟨by have := HK1.out; omega⟩, BK, HR, HO, HK, HB⟩
   ·rw [if_neg c] at H
    obtain rfl := Option.some.inj H
    have c1b : decide (0 < n) = false := decide_eq_false (fun q => c (Or.inl q))
    have c2b : decide (0 < m) = false := decide_eq_false (fun q => c (Or.inr q))
    clear c H
    go_wp2
    first | go_end0 | ((try simp only [Exit.inBlock, Exit.then]); refine bodyPost_ret (results_none rfl _ _ _) rfl ?_)
    exact ⟨_, rfl, BK.out, HR.out, HO.out, HB.out, HK.out⟩

def ratio_Text.l0 : Nat → List Int → List Int → Option (ByteArray)
 | 0, _, _ => none
 | k + 1, x0, x3 => if (x0.length : Int) > 0 then ((ratio_small.f k x0 1000000000).bind fun bt234 => (if (bt234.1.length : Int) > 0 then ((ratio_Text_1.l0 k bt234.2 9 x3).bind fun t238 => (ratio_Text.l0 k bt234.1 t238)) else ((ratio_Text_1.l0 k bt234.2 1 x3).bind fun t241 => (ratio_Text.l0 k bt234.1 t241)))) else (if (x3.length : Int) = 0 then (some (⟨#[48]⟩ : ByteArray)) else ((slices_Reverse_byte_byte.f k x3).bind fun t233 => (some (strOfNums t233))))
def ratio_Text.f (k : Nat) (l0 : List Int) : Option (ByteArray) := (ratio_ValidNat.f k l0).bind fun t232 => (if t232 = true then (ratio_Text.l0 k l0 ([] : List Int)) else (some (⟨#[]⟩ : ByteArray)))
theorem ratio_Text.mono_l : ∀ k, (∀ y0 y1, LeO (ratio_Text.l0 k y0 y1) (ratio_Text.l0 (k + 1) y0 y1))
 | 0 => fun _ _ r h => by simp [ratio_Text.l0] at h
 | k + 1 => by
  have ih0 := ratio_Text.mono_l k
  ·intro y0 y1
   unfold ratio_Text.l0
   with_reducible repeat' first | apply ih0 | apply ratio_Text_1.mono | apply ratio_ValidNat.mono | apply ratio_small.mono | apply slices_Reverse_byte_byte.mono | exact LeO.refl _ | exact LeO.none _ | refine LeO.ite ?_ ?_ | refine LeO.bind ?_ (fun _ => ?_)
theorem ratio_Text.mono : ∀ a0 k, LeO (ratio_Text.f k a0) (ratio_Text.f (k + 1) a0) := by
 intro a0 k
 have ih0 := ratio_Text.mono_l k
 unfold ratio_Text.f
 with_reducible repeat' first | apply ih0 | apply ratio_Text_1.mono | apply ratio_ValidNat.mono | apply ratio_small.mono | apply slices_Reverse_byte_byte.mono | exact LeO.refl _ | exact LeO.none _ | refine LeO.ite ?_ ?_ | refine LeO.bind ?_ (fun _ => ?_)
set_option maxHeartbeats 8000000 in
set_option maxRecDepth 100000 in
theorem ratio_Text.calls (k : Nat) (P0_ : Nat → Prop) (A0 : Option Addr) (c0 : Nat) (l0 : List Int) (r : ByteArray) (w : World) (hs0 : Kd.V (Kd.int .u32) 44 w w.heap.size (fun k_ => P0_ k_) (.slice A0 l0.length c0) l0) (h : ratio_Text.f k l0 = some r) :
  Calls Tryd.prog 21 #[.slice A0 l0.length c0] w fun e w' => e = .returned (.string r) ∧ Below w.heap.size w w' := by
 have HO0 := ak (show Kd.V (Kd.int .u32) 44 w w.heap.size (fun k_ => (P0_ k_ ∨ w.heap.size ≤ k_)) (.slice A0 l0.length c0) l0 from V_mono hs0 (fun k_ hk => .inl hk))
 have HB := ak (Below.refl w.heap.size w)
 have H := h
 clear h
 unfold ratio_Text.f at H
 revert H
 refine bd_ fun t232 A2 H => ?_
 by_cases c3 : t232 = true
 ·subst c3
  rw [if_pos rfl] at H
  have H' := ak H
  clear H
  have hmf : ∀ (fn : Fn) (first cap : Array Value) (w : World), (Instr.makeFunc fn first cap).run Tryd.prog w = .ok (.func fn first cap) w := fun _ _ _ _ => rfl
  go_enter Tryd.func21, Tryd.ntmps21
  go_wp2_with (first | ((with_reducible refine gate_callee (f := 27) rfl ?_); refine gl_ (some 8) Tryd.func27 #[.slice A0 l0.length c0] ?_; (with_reducible refine (ratio_ValidNat.calls k _ _ l0 true _ ?side1 ?side2 A2.out).mono ?_); (case side1 => exact cU_ ((V_reads' HO0.out).2.2)); (case side2 => exact (V_reads' HO0.out).2.1); rintro e w4 ⟨rfl, hb⟩; refine ⟨_, rfl, ?_⟩; refine nx2_ (V_below (vU_ HO0.out) hb) (below_step (bU_ HB.out) hb) ?_; clear HO0 HB; intro HO0 HB; clear hb))
  have hA := below_alloc HB.out (Obj.cells #[.slice none 0 0] 37)
  have g0 : (w4.alloc (Obj.cells #[.slice none 0 0] 37)).heap[w4.heap.size]? = some (.cells #[.slice none 0 0] 37 (0, 0)) := by
   show (w4.heap.push _)[w4.heap.size]? = _
   simp
  have gV := Kd.V_alloc (V_elderB HO0.out w4.heap.size (Nat.le_refl _)) (Obj.cells #[.slice none 0 0] 37)
  have gge := ak (below_size HB.out)
  generalize w4.alloc (Obj.cells #[.slice none 0 0] 37) = wA at *
  generalize w4.heap.size = gb at *
  clear HB HO0
  have HB := ak hA
  clear hA
  go_loopg [0] k (fun kq v0 w' => ∃ (x0_1 : List Int) (x3_1 : List Int) (v3 : Value), Aside0 (ratio_Text.l0 kq x0_1 x3_1 = some r) ∧ Aside0 (kq ≤ k) ∧ Aside0 (Kd.V (Kd.int .u32) 44 w' w.heap.size (fun k_ => some k_ ≠ (v3 : Value).ownBlock ∧ k_ ≠ gb) v0 x0_1) ∧ Aside0 (Kd.R (Kd.int .u8) 5 w' w.heap.size (fun k_ => (w.heap.size ≤ k_) ∧ k_ ≠ gb) v3 x3_1) ∧ Aside0 (w'.heap[gb]? = some (.cells #[v3] 37 (0, 0))) ∧ Aside0 (Below w.heap.size w w'))
  case atStart => exact ⟨l0, [], .slice none 0 0, H', ⟨Nat.le_refl _⟩, ⟨V_mono gV (fun _ hk => ⟨by simp [Value.ownBlock], hk.2⟩)⟩, ⟨Kd.R_nil _ _ _ _ _⟩, ⟨g0⟩, HB⟩
  case round =>
   clear H' gV g0 HB
   (try clear c2); (try clear p2); (try clear c3)
   obtain ⟨x0_1, x3_1, v3, HA, HK1, HO_0, HO_3, BK, HB⟩ := hrel
   obtain ⟨Ab, cb, eb⟩ := R_slice HO_3.out
   subst eb
   have hczwr := bc0_ BK.out
   have hfzwr := blk_frozen BK.out 0
   cases gk with
   | zero => exact absurd HA.out (by simp [ratio_Text.l0])
   | succ k1 =>
    have H := HA.out
    clear HA
    simp only [ratio_Text.l0] at H
    by_cases c5 : (x0_1.length : Int) > 0
    ·rw [if_pos c5] at H
     have c5b0 : decide (0 < (x0_1.length : Int)) = true := decide_eq_true c5
     have c5b1 : decide (0 < x0_1.length) = true := decide_eq_true (by omega)
     clear c5
     revert H
     refine bd2_ fun t234 t237 A6 H => ?_
     try dsimp only at H
     by_cases c7 : (t234.length : Int) > 0
     ·rw [if_pos c7] at H
      have c7b0 : decide (0 < (t234.length : Int)) = true := decide_eq_true c7
      have c7b1 : decide (0 < t234.length) = true := decide_eq_true (by omega)
      clear c7
      revert H
      refine bd_ fun t238 A8 H => ?_
      have H' := ak H
      clear H
      obtain ⟨Ao9, co9, eo9⟩ := V_slice HO_0.out
      subst eo9
      go_wp2_with (first | ((with_reducible refine gate_callee (f := 71) rfl ?_); refine gl_ (some 16) Tryd.func71 #[.slice Ao9 x0_1.length co9, .int .u32 1000000000] ?_; (with_reducible refine (ratio_small.calls k1 _ _ x0_1 1000000000 t234 t237 _ ?side1 ?side2 A6.out).mono ?_); (case side1 => exact cU_ ((V_reads' HO_0.out).2.2)); (case side2 => exact (V_reads' HO_0.out).2.1); rintro e w10 ⟨v235, rfl, ho0, hb⟩; refine ⟨_, rfl, ?_⟩; refine nx4_ (R_below (rU_ HO_3.out) hb) (tbk_ (tbkU_ BK.out) hb) (V_lower (V_mono (ok' := fun k_ => some k_ ≠ (.slice Ab x3_1.length cb : Value).ownBlock ∧ k_ ≠ gb) ho0 (fun k_ hk_ => ⟨(fresh' (R_lt (rU_ HO_3.out)) k_ hk_), fun e_ => Nat.lt_irrefl _ (Nat.lt_of_lt_of_le (tbk_lt (tbkU_ BK.out)) (e_ ▸ hk_))⟩)) (below_size (bU_ HB.out))) (below_step (bU_ HB.out) hb) ?_; clear HO_0 HO_3 BK HB hczwr hfzwr; intro HO_3 BK HO236 HB; clear hb ho0; obtain ⟨Ao11, co11, eo11⟩ := V_slice HO236.out; subst eo11) | ((with_reducible refine gate_dst (N := 24) rfl ?_); refine hold_ ?_))
      refine ⟨?_⟩
      refine gclo_ (some 24) rfl rfl Tryd.func70 (by kernel_rfl) rfl #[.int .u32 t237, .int .i64 9, .pointer (some ⟨gb, 0, none⟩)] rfl rfl (by simp only [List.map_toArray, List.map_cons, List.map_nil, List.append_toArray, List.cons_append, List.nil_append]; rfl) ?_
      refine (ratio_Text_1.calls k1 t237 9 gb (.slice Ab x3_1.length cb : Value) x3_1 t238 w _ (bU_ HB.out) gge.out (tbkU_ BK.out) (rU_ HO_3.out) A8.out).mono ?_
      rintro e w13 ⟨v4, rfl, hbk, hr, ho, hb, hkp⟩
      refine ⟨_, rfl, ?_⟩
      refine nx4_ (V_mono (ok' := fun k_ => some k_ ≠ v4.ownBlock ∧ k_ ≠ gb) (Kd.V_kept (Kd.V_bound HO236.out) hkp (fun k_ hk_ hs_ => hs_.elim hk_.1.2 hk_.1.1)) (fun k_ hk_ => ⟨tne_ ho hk_.1.1 hk_.2, hk_.1.2⟩)) hr hbk hb ?_
      clear HO236 HO_3 BK HB hbk hr ho hb hkp
      intro HO236 HO_3 BK HB
      go_wp2
      go_roundg k1
      case measure => have := HK1.out; omega
      case rel => exact ⟨t234, t238, v4, H', ⟨by have := HK1.out; omega⟩, HO236, HO_3, BK, HB⟩
     ·rw [if_neg c7] at H
      have c7b0 : decide (0 < (t234.length : Int)) = false := decide_eq_false c7
      have c7b1 : decide (0 < t234.length) = false := decide_eq_false (by omega)
      clear c7
      revert H
      refine bd_ fun t241 A14 H => ?_
      have H' := ak H
      clear H
      obtain ⟨Ao15, co15, eo15⟩ := V_slice HO_0.out
      subst eo15
      go_wp2_with (first | ((with_reducible refine gate_callee (f := 71) rfl ?_); refine gl_ (some 16) Tryd.func71 #[.slice Ao15 x0_1.length co15, .int .u32 1000000000] ?_; (with_reducible refine (ratio_small.calls k1 _ _ x0_1 1000000000 t234 t237 _ ?side1 ?side2 A6.out).mono ?_); (case side1 => exact cU_ ((V_reads' HO_0.out).2.2)); (case side2 => exact (V_reads' HO_0.out).2.1); rintro e w10 ⟨v235, rfl, ho0, hb⟩; refine ⟨_, rfl, ?_⟩; refine nx4_ (R_below (rU_ HO_3.out) hb) (tbk_ (tbkU_ BK.out) hb) (V_lower (V_mono (ok' := fun k_ => some k_ ≠ (.slice Ab x3_1.length cb : Value).ownBlock ∧ k_ ≠ gb) ho0 (fun k_ hk_ => ⟨(fresh' (R_lt (rU_ HO_3.out)) k_ hk_), fun e_ => Nat.lt_irrefl _ (Nat.lt_of_lt_of_le (tbk_lt (tbkU_ BK.out)) (e_ ▸ hk_))⟩)) (below_size (bU_ HB.out))) (below_step (bU_ HB.out) hb) ?_; clear HO_0 HO_3 BK HB hczwr hfzwr; intro HO_3 BK HO236 HB; clear hb ho0; obtain ⟨Ao11, co11, eo11⟩ := V_slice HO236.out; subst eo11) | ((with_reducible refine gate_dst (N := 27) rfl ?_); refine hold_ ?_))
      refine ⟨?_⟩
      refine gclo_ (some 27) rfl rfl Tryd.func70 (by kernel_rfl) rfl #[.int .u32 t237, .int .i64 1, .pointer (some ⟨gb, 0, none⟩)] rfl rfl (by simp only [List.map_toArray, List.map_cons, List.map_nil, List.append_toArray, List.cons_append, List.nil_append]; rfl) ?_
      refine (ratio_Text_1.calls k1 t237 1 gb (.slice Ab x3_1.length cb : Value) x3_1 t241 w _ (bU_ HB.out) gge.out (tbkU_ BK.out) (rU_ HO_3.out) A14.out).mono ?_
      rintro e w13 ⟨v4, rfl, hbk, hr, ho, hb, hkp⟩
      refine ⟨_, rfl, ?_⟩
      refine nx4_ (V_mono (ok' := fun k_ => some k_ ≠ v4.ownBlock ∧ k_ ≠ gb) (Kd.V_kept (Kd.V_bound HO236.out) hkp (fun k_ hk_ hs_ => hs_.elim hk_.1.2 hk_.1.1)) (fun k_ hk_ => ⟨tne_ ho hk_.1.1 hk_.2, hk_.1.2⟩)) hr hbk hb ?_
      clear HO236 HO_3 BK HB hbk hr ho hb hkp
      intro HO236 HO_3 BK HB
      go_wp2
      go_roundg k1
      case measure => have := HK1.out; omega
      case rel => exact ⟨t234, t241, v4, H', ⟨by have := HK1.out; omega⟩, HO236, HO_3, BK, HB⟩
    ·rw [if_neg c5] at H
     have c5b0 : decide (0 < (x0_1.length : Int)) = false := decide_eq_false c5
     have c5b1 : decide (0 < x0_1.length) = false := decide_eq_false (by omega)
     clear c5
     by_cases c20 : (x3_1.length : Int) = 0
     ·rw [if_pos c20] at H
      have c20b0 := beq_iff_eq.mpr c20
      have c20b1 := bne_eq_false_iff_eq.mpr c20
      clear c20
      obtain rfl := Option.some.inj H
      obtain ⟨Ao21, co21, eo21⟩ := V_slice HO_0.out
      subst eo21
      go_wp2
      go_ret
      exact ⟨eW_, bU_ HB.out⟩
     ·rw [if_neg c20] at H
      have c20b0 := beq_eq_false_iff_ne.mpr c20
      have c20b1 := bne_iff_ne.mpr c20
      have c20b2 : ¬ (x3_1 = []) := fun h_ => c20 (by rw [h_]; rfl)
      revert H
      refine bd_ fun t233 A23 H => ?_
      obtain rfl := Option.some.inj H
      obtain ⟨Ao24, co24, eo24⟩ := V_slice HO_0.out
      subst eo24
      go_wp2_with (first | ((with_reducible refine gate_callee (f := 72) rfl ?_); refine gl_ (some 33) Tryd.func72 #[.slice Ab x3_1.length cb] ?_; (with_reducible refine (slices_Reverse_byte_byte.calls k1 (fun k_ => some k_ = (.slice Ab x3_1.length cb : Value).ownBlock) (.slice Ab x3_1.length cb) x3_1 t233 w _ ?side1 ?side2 A23.out).mono ?_); (case side1 => repeat (first | (with_reducible first | exact HB.out | apply below_alloc | apply pw_below_drewN | apply below_drew1) | exact HB.out)); (case side2 => exact R_tight rfl HO_3.out); rintro e w26 ⟨rfl, hy0, hb, hkp⟩; refine ⟨_, rfl, ?_⟩; refine nx3_ ((hkp.2 gb (tbk_lt BK.out) (fun e_ => (HO_3.out.1 gb e_.symm).2 rfl)).trans BK.out) (Kd.R_reok rfl hy0 (fun k_ e_ => HO_3.out.1 k_ e_)) (hb) ?_; clear HO_0 HO_3 BK HB hczwr hfzwr; intro BK HO_3 HB; clear hb hkp hy0; have hczw26 := bc0_ BK.out; have hfzw26 := blk_frozen BK.out 0; have hcv27 := own_string (P := Tryd.prog) Tryd.underlying37 Tryd.underlying5 Tryd.underlying9 (Kd.own_of_R HO_3.out)))
      go_ret
      exact ⟨eW_, bU_ HB.out⟩
 ·replace c3 := Bool.eq_false_iff.mpr c3
  subst c3
  rw [if_neg (show ¬ (false = true) by decide)] at H
  obtain rfl := Option.some.inj H
  go_enter Tryd.func21, Tryd.ntmps21
  go_wp2_with (first | ((with_reducible refine gate_callee (f := 27) rfl ?_); refine gl_ (some 8) Tryd.func27 #[.slice A0 l0.length c0] ?_; (with_reducible refine (ratio_ValidNat.calls k _ _ l0 false _ ?side1 ?side2 A2.out).mono ?_); (case side1 => exact cU_ ((V_reads' HO0.out).2.2)); (case side2 => exact (V_reads' HO0.out).2.1); rintro e w28 ⟨rfl, hb⟩; refine ⟨_, rfl, ?_⟩; refine nx2_ (V_below (vU_ HO0.out) hb) (below_step (bU_ HB.out) hb) ?_; clear HO0 HB; intro HO0 HB; clear hb))
  go_ret
  exact ⟨eW_, bU_ HB.out⟩


def attestorlaw02_same.l0 : Nat → List Int → List Int → Int → Option (Bool)
 | 0, _, _, _ => none
 | k + 1, x0, x1, x5 => if x5 < (x0.length : Int) then (if 0 ≤ x5 then (if x5 < (x1.length : Int) then (if (rd x0 x5) = (rd x1 x5) then (attestorlaw02_same.l0 k x0 x1 (wrap64 (x5 + 1))) else (some false)) else (none)) else (none)) else (some true)
def attestorlaw02_same.f (k : Nat) (l0 : List Int) (l1 : List Int) : Option (Bool) := if (l0.length : Int) = (l1.length : Int) then (attestorlaw02_same.l0 k l0 l1 0) else (some false)
theorem attestorlaw02_same.mono_l : ∀ k, (∀ y0 y1 y2, LeO (attestorlaw02_same.l0 k y0 y1 y2) (attestorlaw02_same.l0 (k + 1) y0 y1 y2))
 | 0 => fun _ _ _ r h => by simp [attestorlaw02_same.l0] at h
 | k + 1 => by
  have ih0 := attestorlaw02_same.mono_l k
  ·intro y0 y1 y2
   unfold attestorlaw02_same.l0
   with_reducible repeat' first | apply ih0 | exact LeO.refl _ | exact LeO.none _ | refine LeO.ite ?_ ?_ | refine LeO.bind ?_ (fun _ => ?_)
theorem attestorlaw02_same.mono : ∀ a0 a1 k, LeO (attestorlaw02_same.f k a0 a1) (attestorlaw02_same.f (k + 1) a0 a1) := by
 intro a0 a1 k
 have ih0 := attestorlaw02_same.mono_l k
 unfold attestorlaw02_same.f
 with_reducible repeat' first | apply ih0 | exact LeO.refl _ | exact LeO.none _ | refine LeO.ite ?_ ?_ | refine LeO.bind ?_ (fun _ => ?_)
set_option maxHeartbeats 8000000 in
set_option maxRecDepth 100000 in
theorem attestorlaw02_same.calls (k : Nat) (A0 : Option Addr) (c0 : Nat) (l0 : List Int) (A1 : Option Addr) (c1 : Nat) (l1 : List Int) (r : Bool) (w : World) (hr0 : Kd.C (Kd.int .u32) w A0 l0.length l0) (hc0 : l0.length ≤ c0) (hr1 : Kd.C (Kd.int .u32) w A1 l1.length l1) (hc1 : l1.length ≤ c1) (h : attestorlaw02_same.f k l0 l1 = some r) :
  Calls Tryd.prog 22 #[.slice A0 l0.length c0, .slice A1 l1.length c1] w fun e w' => e = .returned (.bool r) ∧ Drawn0 w w' := by
 have HR0 := ak hr0
 have HC0 := ak hc0
 clear hr0 hc0
 have HR1 := ak hr1
 have HC1 := ak hc1
 clear hr1 hc1
 have H : (if (l0.length : Int) = (l1.length : Int) then (attestorlaw02_same.l0 k l0 l1 0) else (some false)) = some r := h
 clear h
 by_cases c3 : (l0.length : Int) = (l1.length : Int)
 ·rw [if_pos c3] at H
  have c3b0 := beq_iff_eq.mpr c3
  have c3b1 := bne_eq_false_iff_eq.mpr c3
  have c3b2 : (l0.length == l1.length) = true := by first | simpa using c3 | (simp at c3 ⊢; omega)
  clear c3
  have H' := ak H
  clear H
  go_enter Tryd.func22, Tryd.ntmps22
  go_wp2
  repeat (go_quiet (fail); try go_wp2)
  go_loopg [5] k (fun kq v5 w' => ∃ (x5_1 : Int), v5 = .int .i64 x5_1 ∧ Aside0 (attestorlaw02_same.l0 kq l0 l1 x5_1 = some r) ∧ Aside0 (kq ≤ k) ∧ Drawn0 w w')
  case atStart => exact ⟨(0), gb_, H', ⟨Nat.le_refl _⟩, by repeat (first | exact Drawn0.refl _ | apply Drawn0.step)⟩
  case round =>
   clear H'
   (try clear c1); (try clear c2); (try clear p2); (try clear c3); (try clear c3b0); (try clear c3b1); (try clear c3b2)
   obtain ⟨x5_1, rfl, HA, HK1, ⟨m1, rfl⟩⟩ := hrel
   cases gk with
   | zero => exact absurd HA.out (by simp [attestorlaw02_same.l0])
   | succ k1 =>
    have H := HA.out
    clear HA
    simp only [attestorlaw02_same.l0] at H
    by_cases c4 : x5_1 < (l0.length : Int)
    ·rw [if_pos c4] at H
     have c4b0 := decide_eq_true c4
     clear c4
     obtain ⟨c5, H⟩ : (0 ≤ x5_1) ∧ _ := it_ H
     have c5b0 := decide_eq_true c5
     clear c5
     obtain ⟨c6, H⟩ : (x5_1 < (l1.length : Int)) ∧ _ := it_ H
     have c6b0 := decide_eq_true c6
     clear c6
     by_cases c7 : (rd l0 x5_1) = (rd l1 x5_1)
     ·rw [if_pos c7] at H
      have c7b0 := beq_iff_eq.mpr c7
      have c7b1 := bne_eq_false_iff_eq.mpr c7
      clear c7
      have H' := ak H
      clear H
      have p247 : 0 ≤ (x5_1 : Int) := od_
      have q247 : x5_1 < (l0.length : Int) := od_
      obtain ⟨ad247, e247, hx247_0⟩ := Kd.at_int HR0.out x5_1 p247 q247
      cases e247
      replace p247 := eq_true p247
      replace q247 := eq_true q247
      have p248 : 0 ≤ (x5_1 : Int) := od_
      have q248 : x5_1 < (l1.length : Int) := od_
      obtain ⟨ad248, e248, hx248_0⟩ := Kd.at_int HR1.out x5_1 p248 q248
      cases e248
      replace p248 := eq_true p248
      replace q248 := eq_true q248
      go_wp2
      repeat (go_quiet (fail); try go_wp2)
      go_roundg k1
      case measure => have := HK1.out; omega
      case rel => exact ⟨(wrap64 (x5_1 + 1)), gb_, H', ⟨by have := HK1.out; omega⟩, by repeat (first | exact Drawn0.refl _ | apply Drawn0.step)⟩
     ·rw [if_neg c7] at H
      have c7b0 := beq_eq_false_iff_ne.mpr c7
      have c7b1 := bne_iff_ne.mpr c7
      obtain rfl := Option.some.inj H
      have p247 : 0 ≤ (x5_1 : Int) := od_
      have q247 : x5_1 < (l0.length : Int) := od_
      obtain ⟨ad247, e247, hx247_0⟩ := Kd.at_int HR0.out x5_1 p247 q247
      cases e247
      replace p247 := eq_true p247
      replace q247 := eq_true q247
      have p248 : 0 ≤ (x5_1 : Int) := od_
      have q248 : x5_1 < (l1.length : Int) := od_
      obtain ⟨ad248, e248, hx248_0⟩ := Kd.at_int HR1.out x5_1 p248 q248
      cases e248
      replace p248 := eq_true p248
      replace q248 := eq_true q248
      go_wp2
      repeat (go_quiet (fail); try go_wp2)
      go_ret
      exact ⟨by first | rfl | (simp; done) | (simp [*]; done), by repeat (first | exact Drawn0.refl _ | apply Drawn0.step)⟩
    ·rw [if_neg c4] at H
     have c4b0 := decide_eq_false c4
     clear c4
     obtain rfl := Option.some.inj H
     go_wp2
     repeat (go_quiet (fail); try go_wp2)
     go_ret
     exact ⟨by first | rfl | (simp; done) | (simp [*]; done), by repeat (first | exact Drawn0.refl _ | apply Drawn0.step)⟩
 ·rw [if_neg c3] at H
  have c3b0 := beq_eq_false_iff_ne.mpr c3
  have c3b1 := bne_iff_ne.mpr c3
  have c3b2 : (l0.length == l1.length) = false := by first | simpa using c3 | (simp at c3 ⊢; omega)
  obtain rfl := Option.some.inj H
  go_enter Tryd.func22, Tryd.ntmps22
  go_wp2
  repeat (go_quiet (fail); try go_wp2)
  go_ret
  exact ⟨by first | rfl | (simp; done) | (simp [*]; done), by repeat (first | exact Drawn0.refl _ | apply Drawn0.step)⟩

def ratio_isOne.f (l0 : List Int) : Option (Bool) := if (l0.length : Int) = 1 then (if 0 < (l0.length : Int) then (some ((rd l0 0) == 1)) else (none)) else (some false)
set_option maxHeartbeats 8000000 in
set_option maxRecDepth 100000 in
theorem ratio_isOne.calls (A0 : Option Addr) (c0 : Nat) (l0 : List Int) (r : Bool) (w : World) (hr0 : Kd.C (Kd.int .u32) w A0 l0.length l0) (hc0 : l0.length ≤ c0) (h : ratio_isOne.f l0 = some r) :
  Calls Tryd.prog 75 #[.slice A0 l0.length c0] w fun e w' => e = .returned (.bool r) ∧ Drawn0 w w' := by
 have HR0 := ak hr0
 have HC0 := ak hc0
 clear hr0 hc0
 have H := h
 clear h
 unfold ratio_isOne.f at H
 by_cases c2 : (l0.length : Int) = 1
 ·rw [if_pos c2] at H
  have c2b0 := beq_iff_eq.mpr c2
  have c2b1 := bne_eq_false_iff_eq.mpr c2
  clear c2
  obtain ⟨c3, H⟩ : (0 < (l0.length : Int)) ∧ _ := it_ H
  have c3b0 := decide_eq_true c3
  have c3b1 : decide (0 < l0.length) = true := decide_eq_true (by omega)
  clear c3
  obtain rfl := Option.some.inj H
  have p249 : 0 ≤ (0 : Int) := (by omega)
  have q249 : 0 < (l0.length : Int) := od_
  obtain ⟨ad249, e249, hx249_0⟩ := Kd.at_int HR0.out 0 p249 q249
  cases e249
  have qi249 : (0 < l0.length) = True := eq_true (by omega)
  (try rw [show ((0 : Int)).toNat = 0 from rfl] at hx249_0)
  (try rw [Addr.add_zero'] at hx249_0)
  replace p249 := eq_true p249
  replace q249 := eq_true q249
  go_enter Tryd.func75, Tryd.ntmps75
  go_wp2
  go_ret
  exact ⟨by first | rfl | (simp; done) | (simp [*]; done), by repeat (first | exact Drawn0.refl _ | apply Drawn0.step)⟩
 ·rw [if_neg c2] at H
  have c2b0 := beq_eq_false_iff_ne.mpr c2
  have c2b1 := bne_iff_ne.mpr c2
  obtain rfl := Option.some.inj H
  go_enter Tryd.func75, Tryd.ntmps75
  go_wp2
  go_ret
  exact ⟨by first | rfl | (simp; done) | (simp [*]; done), by repeat (first | exact Drawn0.refl _ | apply Drawn0.step)⟩

def ratio_Valid.f (k : Nat) (l0_0 : List Int) (l0_1 : List Int) : Option (Bool) := (ratio_ValidNat.f k l0_0).bind fun t251 => (if t251 = true then ((ratio_ValidNat.f k l0_1).bind fun t252 => (if t252 = true then (if (l0_1.length : Int) > 0 then ((ratio_gcd.f k l0_0 l0_1).bind fun t253 => ((ratio_isOne.f t253).bind fun t256 => (some t256))) else (some false)) else (some false))) else (some false))
theorem ratio_Valid.mono : ∀ a0 a1 k, LeO (ratio_Valid.f k a0 a1) (ratio_Valid.f (k + 1) a0 a1) := by
 intro a0 a1 k
 unfold ratio_Valid.f
 with_reducible repeat' first | apply ratio_ValidNat.mono | apply ratio_gcd.mono | exact LeO.refl _ | exact LeO.none _ | refine LeO.ite ?_ ?_ | refine LeO.bind ?_ (fun _ => ?_)
set_option maxHeartbeats 8000000 in
set_option maxRecDepth 100000 in
theorem ratio_Valid.calls (k : Nat) (A0_0 : Option Addr) (c0_0 : Nat) (l0_0 : List Int) (A0_1 : Option Addr) (c0_1 : Nat) (l0_1 : List Int) (r : Bool) (w : World) (hr0_0 : Kd.C (Kd.int .u32) w A0_0 l0_0.length l0_0) (hc0_0 : l0_0.length ≤ c0_0) (hr0_1 : Kd.C (Kd.int .u32) w A0_1 l0_1.length l0_1) (hc0_1 : l0_1.length ≤ c0_1) (h : ratio_Valid.f k l0_0 l0_1 = some r) :
  Calls Tryd.prog 30 #[.agg #[.slice A0_0 l0_0.length c0_0, .slice A0_1 l0_1.length c0_1]] w fun e w' => e = .returned (.bool r) ∧ Below w.heap.size w w' := by
 have hu29 := Tryd.underlying29
 have HR0_0 := ak hr0_0
 have HC0_0 := ak hc0_0
 clear hr0_0 hc0_0
 have HR0_1 := ak hr0_1
 have HC0_1 := ak hc0_1
 clear hr0_1 hc0_1
 have HB := ak (Below.refl w.heap.size w)
 have H := h
 clear h
 unfold ratio_Valid.f at H
 revert H
 refine bd_ fun t251 A2 H => ?_
 by_cases c3 : t251 = true
 ·subst c3
  rw [if_pos rfl] at H
  revert H
  refine bd_ fun t252 A4 H => ?_
  by_cases c5 : t252 = true
  ·subst c5
   rw [if_pos rfl] at H
   by_cases c6 : (l0_1.length : Int) > 0
   ·rw [if_pos c6] at H
    have c6b0 : decide (0 < (l0_1.length : Int)) = true := decide_eq_true c6
    have c6b1 : decide (0 < l0_1.length) = true := decide_eq_true (by omega)
    clear c6
    revert H
    refine bd_ fun t253 A7 H => ?_
    revert H
    refine bd_ fun t256 A8 H => ?_
    obtain rfl := Option.some.inj H
    go_enter Tryd.func30, Tryd.ntmps30
    go_wp2_with (first | ((with_reducible refine gate_dst (N := 1) rfl ?_); (try (refine gate_guard (by rfl) ?_; dsimp only)); refine bx_ 1 29 #[.slice A0_0 l0_0.length c0_0, .slice A0_1 l0_1.length c0_1] ?_; intro gb250 hg w9 hbox hb; refine nx4_ (below_step (bU_ HB.out) hb) (hbox) ((hs_ hg (below_size (bU_ HB.out)))) ((hs_ hg (below_size (bU_ HB.out)))) ?_; clear HB; intro HB BK250 GW250 GE250; clear hb hbox hg; have hcz10_0 := bc0_ BK250.out; have hcz10_1 := bc1_ BK250.out; have hfz10_0 := blk_frozen BK250.out 0; have hfz10_1 := blk_frozen BK250.out 1) | ((with_reducible refine gate_callee (f := 27) rfl ?_); refine gl_ (some 5) Tryd.func27 #[.slice A0_0 l0_0.length c0_0] ?_; (with_reducible refine (ratio_ValidNat.calls k _ _ l0_0 true _ ?side1 ?side2 A2.out).mono ?_); (case side1 => exact cU_ (C_below HR0_0.out HB.out)); (case side2 => exact HC0_0.out); rintro e w11 ⟨rfl, hb⟩; refine ⟨_, rfl, ?_⟩; refine nx2_ (blk_below (kU_ BK250.out) hb) (below_step sU_ hb) ?_; clear BK250 HB; intro BK250 HB; clear hb; have hcz12_0 := bc0_ BK250.out; have hcz12_1 := bc1_ BK250.out; have hfz12_0 := blk_frozen BK250.out 0; have hfz12_1 := blk_frozen BK250.out 1) | (go_at_call 27; (with_reducible refine (ratio_ValidNat.calls k _ _ l0_1 true _ ?side1 ?side2 A4.out).mono ?_); (case side1 => exact cU_ (C_below HR0_1.out HB.out)); (case side2 => exact HC0_1.out); rintro e w13 ⟨rfl, hb⟩; refine nx2_ (blk_below (kU_ BK250.out) hb) (below_step sU_ hb) ?_; clear BK250 HB; intro BK250 HB; clear hb; have hcz14_0 := bc0_ BK250.out; have hcz14_1 := bc1_ BK250.out; have hfz14_0 := blk_frozen BK250.out 0; have hfz14_1 := blk_frozen BK250.out 1) | (go_at_call 76; (with_reducible refine (ratio_gcd.calls k (fun k_ => k_ < w.heap.size) _ _ l0_0 (fun k_ => k_ < w.heap.size) _ _ l0_1 t253 _ ?side1 ?side2 A7.out).mono ?_); (case side1 => exact V_mk HC0_0.out (F_below (C_F (heap_int .u32) HR0_0.out) sU_)); (case side2 => exact V_mk HC0_1.out (F_below (C_F (heap_int .u32) HR0_1.out) sU_)); rintro e w15 ⟨v254, rfl, ho0, hb⟩; refine nx3_ (R_lower (R_mono (ok' := fun k_ => True) ho0 (fun _ hk_ => trivial)) (below_size sU_)) (blk_below (kU_ BK250.out) hb) (below_step sU_ hb) ?_; clear BK250 HB; intro HO255 BK250 HB; clear hb ho0; obtain ⟨Ao16, co16, eo16⟩ := R_slice HO255.out; subst eo16) | (go_at_call 75; (with_reducible refine (ratio_isOne.calls _ _ t253 t256 _ ?side1 ?side2 A8.out).mono ?_); (case side1 => exact cU_ ((R_reads' HO255.out).2.2)); (case side2 => exact (R_reads' HO255.out).2.1); rintro e w' ⟨rfl, ⟨nd, rfl⟩⟩))
    go_ret
    exact ⟨eW_, sU_⟩
   ·rw [if_neg c6] at H
    have c6b0 : decide (0 < (l0_1.length : Int)) = false := decide_eq_false c6
    have c6b1 : decide (0 < l0_1.length) = false := decide_eq_false (by omega)
    clear c6
    obtain rfl := Option.some.inj H
    go_enter Tryd.func30, Tryd.ntmps30
    go_wp2_with (first | ((with_reducible refine gate_dst (N := 1) rfl ?_); (try (refine gate_guard (by rfl) ?_; dsimp only)); refine bx_ 1 29 #[.slice A0_0 l0_0.length c0_0, .slice A0_1 l0_1.length c0_1] ?_; intro gb250 hg w17 hbox hb; refine nx4_ (below_step (bU_ HB.out) hb) (hbox) ((hs_ hg (below_size (bU_ HB.out)))) ((hs_ hg (below_size (bU_ HB.out)))) ?_; clear HB; intro HB BK250 GW250 GE250; clear hb hbox hg; have hcz18_0 := bc0_ BK250.out; have hcz18_1 := bc1_ BK250.out; have hfz18_0 := blk_frozen BK250.out 0; have hfz18_1 := blk_frozen BK250.out 1) | ((with_reducible refine gate_callee (f := 27) rfl ?_); refine gl_ (some 5) Tryd.func27 #[.slice A0_0 l0_0.length c0_0] ?_; (with_reducible refine (ratio_ValidNat.calls k _ _ l0_0 true _ ?side1 ?side2 A2.out).mono ?_); (case side1 => exact cU_ (C_below HR0_0.out HB.out)); (case side2 => exact HC0_0.out); rintro e w19 ⟨rfl, hb⟩; refine ⟨_, rfl, ?_⟩; refine nx2_ (blk_below (kU_ BK250.out) hb) (below_step sU_ hb) ?_; clear BK250 HB; intro BK250 HB; clear hb; have hcz20_0 := bc0_ BK250.out; have hcz20_1 := bc1_ BK250.out; have hfz20_0 := blk_frozen BK250.out 0; have hfz20_1 := blk_frozen BK250.out 1) | (go_at_call 27; (with_reducible refine (ratio_ValidNat.calls k _ _ l0_1 true _ ?side1 ?side2 A4.out).mono ?_); (case side1 => exact cU_ (C_below HR0_1.out HB.out)); (case side2 => exact HC0_1.out); rintro e w21 ⟨rfl, hb⟩; refine nx2_ (blk_below (kU_ BK250.out) hb) (below_step sU_ hb) ?_; clear BK250 HB; intro BK250 HB; clear hb; have hcz22_0 := bc0_ BK250.out; have hcz22_1 := bc1_ BK250.out; have hfz22_0 := blk_frozen BK250.out 0; have hfz22_1 := blk_frozen BK250.out 1))
    go_ret
    exact ⟨eW_, sU_⟩
  ·replace c5 := Bool.eq_false_iff.mpr c5
   subst c5
   rw [if_neg (show ¬ (false = true) by decide)] at H
   obtain rfl := Option.some.inj H
   go_enter Tryd.func30, Tryd.ntmps30
   go_wp2_with (first | ((with_reducible refine gate_dst (N := 1) rfl ?_); (try (refine gate_guard (by rfl) ?_; dsimp only)); refine bx_ 1 29 #[.slice A0_0 l0_0.length c0_0, .slice A0_1 l0_1.length c0_1] ?_; intro gb250 hg w23 hbox hb; refine nx4_ (below_step (bU_ HB.out) hb) (hbox) ((hs_ hg (below_size (bU_ HB.out)))) ((hs_ hg (below_size (bU_ HB.out)))) ?_; clear HB; intro HB BK250 GW250 GE250; clear hb hbox hg; have hcz24_0 := bc0_ BK250.out; have hcz24_1 := bc1_ BK250.out; have hfz24_0 := blk_frozen BK250.out 0; have hfz24_1 := blk_frozen BK250.out 1) | ((with_reducible refine gate_callee (f := 27) rfl ?_); refine gl_ (some 5) Tryd.func27 #[.slice A0_0 l0_0.length c0_0] ?_; (with_reducible refine (ratio_ValidNat.calls k _ _ l0_0 true _ ?side1 ?side2 A2.out).mono ?_); (case side1 => exact cU_ (C_below HR0_0.out HB.out)); (case side2 => exact HC0_0.out); rintro e w25 ⟨rfl, hb⟩; refine ⟨_, rfl, ?_⟩; refine nx2_ (blk_below (kU_ BK250.out) hb) (below_step sU_ hb) ?_; clear BK250 HB; intro BK250 HB; clear hb; have hcz26_0 := bc0_ BK250.out; have hcz26_1 := bc1_ BK250.out; have hfz26_0 := blk_frozen BK250.out 0; have hfz26_1 := blk_frozen BK250.out 1) | (go_at_call 27; (with_reducible refine (ratio_ValidNat.calls k _ _ l0_1 false _ ?side1 ?side2 A4.out).mono ?_); (case side1 => exact cU_ (C_below HR0_1.out HB.out)); (case side2 => exact HC0_1.out); rintro e w27 ⟨rfl, hb⟩; refine nx2_ (blk_below (kU_ BK250.out) hb) (below_step sU_ hb) ?_; clear BK250 HB; intro BK250 HB; clear hb))
   go_ret
   exact ⟨eW_, sU_⟩
 ·replace c3 := Bool.eq_false_iff.mpr c3
  subst c3
  rw [if_neg (show ¬ (false = true) by decide)] at H
  obtain rfl := Option.some.inj H
  go_enter Tryd.func30, Tryd.ntmps30
  go_wp2_with (first | ((with_reducible refine gate_dst (N := 1) rfl ?_); (try (refine gate_guard (by rfl) ?_; dsimp only)); refine bx_ 1 29 #[.slice A0_0 l0_0.length c0_0, .slice A0_1 l0_1.length c0_1] ?_; intro gb250 hg w28 hbox hb; refine nx4_ (below_step (bU_ HB.out) hb) (hbox) ((hs_ hg (below_size (bU_ HB.out)))) ((hs_ hg (below_size (bU_ HB.out)))) ?_; clear HB; intro HB BK250 GW250 GE250; clear hb hbox hg; have hcz29_0 := bc0_ BK250.out; have hcz29_1 := bc1_ BK250.out; have hfz29_0 := blk_frozen BK250.out 0; have hfz29_1 := blk_frozen BK250.out 1) | ((with_reducible refine gate_callee (f := 27) rfl ?_); refine gl_ (some 5) Tryd.func27 #[.slice A0_0 l0_0.length c0_0] ?_; (with_reducible refine (ratio_ValidNat.calls k _ _ l0_0 false _ ?side1 ?side2 A2.out).mono ?_); (case side1 => exact cU_ (C_below HR0_0.out HB.out)); (case side2 => exact HC0_0.out); rintro e w30 ⟨rfl, hb⟩; refine ⟨_, rfl, ?_⟩; refine nx2_ (blk_below (kU_ BK250.out) hb) (below_step sU_ hb) ?_; clear BK250 HB; intro BK250 HB; clear hb))
  go_ret
  exact ⟨eW_, sU_⟩

def ratio_Show.f (k : Nat) (l0_0 : List Int) (l0_1 : List Int) : Option (ByteArray) := (ratio_Valid.f k l0_0 l0_1).bind fun t258 => (if t258 = true then ((ratio_Text.f k l0_0).bind fun t259 => (if t259.size + 1 ≤ 9223372036854775807 then ((ratio_Text.f k l0_1).bind fun t260 => (if (t259 ++ (⟨#[47]⟩ : ByteArray)).size + t260.size ≤ 9223372036854775807 then (some ((t259 ++ (⟨#[47]⟩ : ByteArray)) ++ t260)) else (none))) else (none))) else (some (⟨#[]⟩ : ByteArray)))
theorem ratio_Show.mono : ∀ a0 a1 k, LeO (ratio_Show.f k a0 a1) (ratio_Show.f (k + 1) a0 a1) := by
 intro a0 a1 k
 unfold ratio_Show.f
 with_reducible repeat' first | apply ratio_Text.mono | apply ratio_Valid.mono | exact LeO.refl _ | exact LeO.none _ | refine LeO.ite ?_ ?_ | refine LeO.bind ?_ (fun _ => ?_)
def ratio_Show.T3 : Bool × List (List Nat × List Nat) := (true, [([], []), ([0], [0]), ([1], [1]), ([2], [2]), ([], []), ([4], [4]), ([5, 2], [5]), ([3, 6], [3, 6]), ([7, 6, 0, 1, 2, 3, 4, 5, 6, 7], [7])])
def ratio_Show.B3 : List Nat := [0, 1, 3, 7, 0, 16, 55, 127, 255]
theorem ratio_Show.tab3 : rtab .any (opsOf Tryd.f24 3) = ratio_Show.T3 := by kernel_rfl
theorem ratio_Show.bits3 : waitsOk ratio_Show.T3.2 ratio_Show.B3 = true := by kernel_rfl
set_option maxHeartbeats 8000000 in
set_option maxRecDepth 100000 in
theorem ratio_Show.calls (k : Nat) (A0_0 : Option Addr) (c0_0 : Nat) (l0_0 : List Int) (A0_1 : Option Addr) (c0_1 : Nat) (l0_1 : List Int) (r : ByteArray) (w : World) (hr0_0 : Kd.C (Kd.int .u32) w A0_0 l0_0.length l0_0) (hc0_0 : l0_0.length ≤ c0_0) (hr0_1 : Kd.C (Kd.int .u32) w A0_1 l0_1.length l0_1) (hc0_1 : l0_1.length ≤ c0_1) (h : ratio_Show.f k l0_0 l0_1 = some r) :
  Calls Tryd.prog 24 #[.agg #[.slice A0_0 l0_0.length c0_0, .slice A0_1 l0_1.length c0_1]] w fun e w' => e = .returned (.string r) ∧ Below w.heap.size w w' := by
 have hu29 := Tryd.underlying29
 have HR0_0 := ak hr0_0
 have HC0_0 := ak hc0_0
 clear hr0_0 hc0_0
 have HR0_1 := ak hr0_1
 have HC0_1 := ak hc0_1
 clear hr0_1 hc0_1
 have HB := ak (Below.refl w.heap.size w)
 have H := h
 clear h
 unfold ratio_Show.f at H
 revert H
 refine bd_ fun t258 A2 H => ?_
 by_cases c3 : t258 = true
 ·subst c3
  rw [if_pos rfl] at H
  revert H
  refine bd_ fun t259 A4 H => ?_
  obtain ⟨c5, H⟩ : (t259.size + 1 ≤ 9223372036854775807) ∧ _ := it_ H
  have c5b0 := eq_true c5
  have c5b1 := decide_eq_true c5
  try have c5b2 : (9223372036854775807 < t259.size + 1) = False := eq_false (Nat.not_lt.2 c5)
  revert H
  refine bd_ fun t260 A6 H => ?_
  obtain ⟨c7, H⟩ : ((t259 ++ (⟨#[47]⟩ : ByteArray)).size + t260.size ≤ 9223372036854775807) ∧ _ := it_ H
  have c7b0 := eq_true c7
  have c7b1 := decide_eq_true c7
  try have c7b2 : (9223372036854775807 < (t259 ++ (⟨#[47]⟩ : ByteArray)).size + t260.size) = False := eq_false (Nat.not_lt.2 c7)
  have c7b3 : (9223372036854775807 < t259.size + 1 + t260.size) = False := by have h_ := c7b2; rw [ByteArray.size_append] at h_; exact h_
  obtain rfl := Option.some.inj H
  go_enter Tryd.func24, Tryd.ntmps24
  try go_wp2_with (first | ((with_reducible refine gate_dst (N := 1) rfl ?_); refine bx_ 1 29 #[.slice A0_0 l0_0.length c0_0, .slice A0_1 l0_1.length c0_1] ?_; intro gb257 hg w8 hbox hb; refine nx4_ (below_step (bU_ HB.out) hb) (hbox) ((hs_ hg (below_size (bU_ HB.out)))) ((hs_ hg (below_size (bU_ HB.out)))) ?_; clear HB; intro HB BK257 GW257 GE257; clear hb hbox hg; have hcz9_0 := bc0_ BK257.out; have hcz9_1 := bc1_ BK257.out; have hfz9_0 := blk_frozen BK257.out 0; have hfz9_1 := blk_frozen BK257.out 1) | ((with_reducible refine gate_callee (f := 30) rfl ?_); refine gl_ (some 4) Tryd.func30 #[.agg #[.slice A0_0 l0_0.length c0_0, .slice A0_1 l0_1.length c0_1]] ?_; (with_reducible refine (ratio_Valid.calls k _ _ l0_0 _ _ l0_1 true _ ?side1 ?side2 ?side3 ?side4 A2.out).mono ?_); (case side1 => exact cU_ (C_below HR0_0.out HB.out)); (case side2 => exact HC0_0.out); (case side3 => exact cU_ (C_below HR0_1.out HB.out)); (case side4 => exact HC0_1.out); rintro e w10 ⟨rfl, hb⟩; refine ⟨_, rfl, ?_⟩; refine nx2_ (blk_below (kU_ BK257.out) hb) (below_step sU_ hb) ?_; clear BK257 HB; intro BK257 HB; clear hb))
  refine nx2_ (blk_drew BK257.out) (below_drew1 HB.out) ?_
  clear BK257 HB
  intro BK257 HB
  refine start_ (n := 9) (S := fun w' => w'.cell? ⟨gb257, 0, none⟩ = some (.slice A0_0 l0_0.length c0_0) ∧ w'.cell? ⟨gb257, 1, none⟩ = some (.slice A0_1 l0_1.length c0_1)) (ds := []) (bv 9 0) (by kernel_rfl) rfl rfl ⟨bc0_ BK257.out, bc1_ BK257.out⟩ (fun hHeld => ?_); refine with_tabW ratio_Show.tab3 ratio_Show.bits3 (fun HT_ HW_ => ?_)
  generalize w10.drew = w11 at BK257 HB hHeld ⊢
  refine pq_ 0 6 9 1 HT_.out ?_
  refine pq_ 4 10 9 17 HT_.out ?_
  refine tq_ 1 7 9 19 HT_.out HW_.out hHeld ?_
  refine tq_ 5 11 9 51 HT_.out HW_.out hHeld ?_
  refine oq_ 2 8 9 55 HT_.out fun K hK => ?_
  refine goes_ Tryd.func21 (by kernel_rfl) rfl #[.slice A0_0 l0_0.length c0_0] (by rfl) rfl rfl ga_ ?_
  with_reducible refine (ratio_Text.calls k (fun k_ => k_ < w.heap.size) _ _ l0_0 t259 _ ?side1 A4.out).mono ?_
  (case side1 => exact V_mk HC0_0.out (F_below (C_F (heap_int .u32) HR0_0.out) sU_))
  rintro e w12 ⟨rfl, hb⟩
  refine ⟨_, rfl, ?_⟩
  refine nx2_ (blk_below (kU_ BK257.out) hb) (below_step sU_ hb) ?_
  clear BK257 HB
  intro BK257 HB
  (try clear hb)
  (try clear hb2)
  (try clear hk)
  (try clear hi)
  refine hK.out _ _ ⟨bc0_ BK257.out, bc1_ BK257.out⟩ (fun hHeld => ?_)
  clear hK K
  refine norm_ (a' := ?_) ?_ ?_
  rotate_left
  ·show Act.put _ (some 8) _ = _
   simp only [Act.put, s1_, s2_, s3_, i64_w, i32_w]
   rfl
  refine pq_ 3 9 9 63 HT_.out ?_
  refine oq_ 6 12 9 127 HT_.out fun K hK => ?_
  refine goes_ Tryd.func21 (by kernel_rfl) rfl #[.slice A0_1 l0_1.length c0_1] (by rfl) rfl rfl ga_ ?_
  with_reducible refine (ratio_Text.calls k (fun k_ => k_ < w.heap.size) _ _ l0_1 t260 _ ?side1 A6.out).mono ?_
  (case side1 => exact V_mk HC0_1.out (F_below (C_F (heap_int .u32) HR0_1.out) sU_))
  rintro e w13 ⟨rfl, hb⟩
  refine ⟨_, rfl, ?_⟩
  refine nx2_ (blk_below (kU_ BK257.out) hb) (below_step sU_ hb) ?_
  clear BK257 HB
  intro BK257 HB
  (try clear hb)
  (try clear hb2)
  (try clear hk)
  (try clear hi)
  refine hK.out _ _ ⟨bc0_ BK257.out, bc1_ BK257.out⟩ (fun hHeld => ?_)
  clear hK K
  refine norm_ (a' := ?_) ?_ ?_
  rotate_left
  ·show Act.put _ (some 12) _ = _
   simp only [Act.put, s1_, s2_, s3_, i64_w, i32_w]
   rfl
  refine pq_ 7 13 9 255 HT_.out ?_
  refine pq_ 8 2 9 511 HT_.out ?_
  refine done_ (done_of HT_.out (by kernel_rfl)) ?_
  try go_wp2
  go_ret
  exact ⟨eW_, sU_⟩
 ·replace c3 := Bool.eq_false_iff.mpr c3
  subst c3
  rw [if_neg (show ¬ (false = true) by decide)] at H
  obtain rfl := Option.some.inj H
  go_enter Tryd.func24, Tryd.ntmps24
  go_wp2_with (first | ((with_reducible refine gate_dst (N := 1) rfl ?_); refine bx_ 1 29 #[.slice A0_0 l0_0.length c0_0, .slice A0_1 l0_1.length c0_1] ?_; intro gb257 hg w14 hbox hb; refine nx4_ (below_step (bU_ HB.out) hb) (hbox) ((hs_ hg (below_size (bU_ HB.out)))) ((hs_ hg (below_size (bU_ HB.out)))) ?_; clear HB; intro HB BK257 GW257 GE257; clear hb hbox hg; have hcz15_0 := bc0_ BK257.out; have hcz15_1 := bc1_ BK257.out; have hfz15_0 := blk_frozen BK257.out 0; have hfz15_1 := blk_frozen BK257.out 1) | ((with_reducible refine gate_callee (f := 30) rfl ?_); refine gl_ (some 4) Tryd.func30 #[.agg #[.slice A0_0 l0_0.length c0_0, .slice A0_1 l0_1.length c0_1]] ?_; (with_reducible refine (ratio_Valid.calls k _ _ l0_0 _ _ l0_1 false _ ?side1 ?side2 ?side3 ?side4 A2.out).mono ?_); (case side1 => exact cU_ (C_below HR0_0.out HB.out)); (case side2 => exact HC0_0.out); (case side3 => exact cU_ (C_below HR0_1.out HB.out)); (case side4 => exact HC0_1.out); rintro e w16 ⟨rfl, hb⟩; refine ⟨_, rfl, ?_⟩; refine nx2_ (blk_below (kU_ BK257.out) hb) (below_step sU_ hb) ?_; clear BK257 HB; intro BK257 HB; clear hb))
  go_ret
  exact ⟨eW_, sU_⟩

def ratio_Quotient.j0 : Nat → List Int → List Int → Bool → Option (List Int × List Int × Int)
 | 0, _, _, _ => none
 | k + 1, x0, x1, x7 => if x7 = true then (some (([] : List Int), ([] : List Int), 1)) else (if (x1.length : Int) = 0 then (some (([] : List Int), ([] : List Int), 2)) else ((ratio_div.f k x0 x1).bind fun bt263 => (some (bt263.1, bt263.2, 0))))
def ratio_Quotient.f (k : Nat) (l0 : List Int) (l1 : List Int) : Option (List Int × List Int × Int) := (ratio_ValidNat.f k l0).bind fun t261 => (if t261 = true then ((ratio_ValidNat.f k l1).bind fun t262 => (ratio_Quotient.j0 k l0 l1 (!t262))) else (ratio_Quotient.j0 k l0 l1 true))
theorem ratio_Quotient.mono_l : ∀ k, (∀ y0 y1 y2, LeO (ratio_Quotient.j0 k y0 y1 y2) (ratio_Quotient.j0 (k + 1) y0 y1 y2))
 | 0 => fun _ _ _ r h => by simp [ratio_Quotient.j0] at h
 | k + 1 => by
  have ih0 := ratio_Quotient.mono_l k
  ·intro y0 y1 y2
   unfold ratio_Quotient.j0
   with_reducible repeat' first | apply ih0 | apply ratio_ValidNat.mono | apply ratio_div.mono | exact LeO.refl _ | exact LeO.none _ | refine LeO.ite ?_ ?_ | refine LeO.bind ?_ (fun _ => ?_)
theorem ratio_Quotient.mono : ∀ a0 a1 k, LeO (ratio_Quotient.f k a0 a1) (ratio_Quotient.f (k + 1) a0 a1) := by
 intro a0 a1 k
 have ih0 := ratio_Quotient.mono_l k
 unfold ratio_Quotient.f
 with_reducible repeat' first | apply ih0 | apply ratio_ValidNat.mono | apply ratio_div.mono | exact LeO.refl _ | exact LeO.none _ | refine LeO.ite ?_ ?_ | refine LeO.bind ?_ (fun _ => ?_)
set_option maxHeartbeats 8000000 in
set_option maxRecDepth 100000 in
theorem ratio_Quotient.calls (k : Nat) (A0 : Option Addr) (c0 : Nat) (l0 : List Int) (A1 : Option Addr) (c1 : Nat) (l1 : List Int) (r1 : List Int) (r2 : List Int) (r3 : Int) (w : World) (hr0 : Kd.C (Kd.int .u32) w A0 l0.length l0) (hc0 : l0.length ≤ c0) (hr1 : Kd.C (Kd.int .u32) w A1 l1.length l1) (hc1 : l1.length ≤ c1) (h : ratio_Quotient.f k l0 l1 = some (r1, r2, r3)) :
  Calls Tryd.prog 25 #[.slice A0 l0.length c0, .slice A1 l1.length c1] w fun e w' => ∃ v0_ v1_ : Value, e = .returned (.tuple #[v0_, v1_, .int .i64 r3]) ∧ Kd.V (Kd.int .u32) 44 w' w.heap.size (fun k_ => (w.heap.size ≤ k_)) v0_ r1 ∧ Kd.V (Kd.int .u32) 44 w' w.heap.size (fun k_ => (w.heap.size ≤ k_)) v1_ r2 ∧ Below w.heap.size w w' := by
 have HR0 := ak hr0
 have HC0 := ak hc0
 clear hr0 hc0
 have HR1 := ak hr1
 have HC1 := ak hc1
 clear hr1 hc1
 have HB := ak (Below.refl w.heap.size w)
 have H := h
 clear h
 unfold ratio_Quotient.f at H
 have HC3 := ak H
 clear H
 go_enter Tryd.func25, Tryd.ntmps25
 go_upto_region 1 with (fail)
 go_cut [7] (fun v7 wc => ∃ (kq : Nat) (x7_2 : Bool), v7 = .bool x7_2 ∧ Aside0 (ratio_Quotient.j0 kq l0 l1 x7_2 = some (r1, r2, r3)) ∧ Aside0 (kq ≤ k) ∧ Aside0 (Below w.heap.size w wc))
 case first =>
  have H := HC3.out
  clear HC3
  revert H
  refine bd_ fun t261 A4 H => ?_
  by_cases c5 : t261 = true
  ·subst c5
   rw [if_pos rfl] at H
   revert H
   refine bd_ fun t262 A6 H => ?_
   have H' := ak H
   clear H
   go_wp2_with (first | ((with_reducible refine gate_callee (f := 27) rfl ?_); refine gl_ (some 9) Tryd.func27 #[.slice A0 l0.length c0] ?_; (with_reducible refine (ratio_ValidNat.calls k _ _ l0 true _ ?side1 ?side2 A4.out).mono ?_); (case side1 => exact cU_ (C_below HR0.out HB.out)); (case side2 => exact HC0.out); rintro e w7 ⟨rfl, hb⟩; refine ⟨_, rfl, ?_⟩; refine nx1_ (below_step (bU_ HB.out) hb) ?_; clear HB; intro HB; clear hb) | (go_at_call 27; (with_reducible refine (ratio_ValidNat.calls k _ _ l1 t262 _ ?side1 ?side2 A6.out).mono ?_); (case side1 => exact cU_ (C_below HR1.out HB.out)); (case side2 => exact HC1.out); rintro e w8 ⟨rfl, hb⟩; refine nx1_ (below_step (bU_ HB.out) hb) ?_; clear HB; intro HB; clear hb))
   go_meet
   case rel => exact ⟨_, (!t262), gb_, H', ⟨by first | omega | exact Nat.le_refl _⟩, ⟨bU_ HB.out⟩⟩
  ·replace c5 := Bool.eq_false_iff.mpr c5
   subst c5
   rw [if_neg (show ¬ (false = true) by decide)] at H
   have H' := ak H
   clear H
   go_wp2_with (first | ((with_reducible refine gate_callee (f := 27) rfl ?_); refine gl_ (some 9) Tryd.func27 #[.slice A0 l0.length c0] ?_; (with_reducible refine (ratio_ValidNat.calls k _ _ l0 false _ ?side1 ?side2 A4.out).mono ?_); (case side1 => exact cU_ (C_below HR0.out HB.out)); (case side2 => exact HC0.out); rintro e w9 ⟨rfl, hb⟩; refine ⟨_, rfl, ?_⟩; refine nx1_ (below_step (bU_ HB.out) hb) ?_; clear HB; intro HB; clear hb))
   go_meet
   case rel => exact ⟨_, (true), gb_, H', ⟨by first | omega | exact Nat.le_refl _⟩, ⟨bU_ HB.out⟩⟩
 case rest =>
  clear HC3
  (try clear c1); (try clear c2); (try clear p2); (try clear c5)
  obtain ⟨kq, x7_2, rfl, HA, HJ2, HB⟩ := hcut
  cases kq with
  | zero => exact absurd HA.out (by simp [ratio_Quotient.j0])
  | succ kj2 =>
   have H := HA.out
   clear HA
   simp only [ratio_Quotient.j0] at H
   by_cases c10 : x7_2 = true
   ·subst c10
    rw [if_pos rfl] at H
    simp only [Option.some.injEq, Prod.mk.injEq] at H
    obtain ⟨rfl, rfl, rfl⟩ := H
    go_wp2
    go_ret3
    exact ⟨_, _, eW_, Kd.V_nil _ _ _ _ _, Kd.V_nil _ _ _ _ _, bU_ HB.out⟩
   ·replace c10 := Bool.eq_false_iff.mpr c10
    subst c10
    rw [if_neg (show ¬ (false = true) by decide)] at H
    by_cases c11 : (l1.length : Int) = 0
    ·rw [if_pos c11] at H
     have c11b0 := beq_iff_eq.mpr c11
     have c11b1 := bne_eq_false_iff_eq.mpr c11
     clear c11
     simp only [Option.some.injEq, Prod.mk.injEq] at H
     obtain ⟨rfl, rfl, rfl⟩ := H
     go_wp2
     go_ret3
     exact ⟨_, _, eW_, Kd.V_nil _ _ _ _ _, Kd.V_nil _ _ _ _ _, bU_ HB.out⟩
    ·rw [if_neg c11] at H
     have c11b0 := beq_eq_false_iff_ne.mpr c11
     have c11b1 := bne_iff_ne.mpr c11
     have c11b2 : ¬ (l1 = []) := fun h_ => c11 (by rw [h_]; rfl)
     revert H
     refine bd2_ fun t263 t266 A12 H => ?_
     try dsimp only at H
     simp only [Option.some.injEq, Prod.mk.injEq] at H
     obtain ⟨rfl, rfl, rfl⟩ := H
     go_wp2_with (first | ((with_reducible refine gate_callee (f := 73) rfl ?_); refine gl_ (some 23) Tryd.func73 #[.slice A0 l0.length c0, .slice A1 l1.length c1] ?_; (with_reducible refine (ratio_div.calls kj2 _ _ l0 _ _ l1 t263 t266 _ ?side1 ?side2 ?side3 ?side4 A12.out).mono ?_); (case side1 => exact cU_ (C_below HR0.out HB.out)); (case side2 => exact HC0.out); (case side3 => exact cU_ (C_below HR1.out HB.out)); (case side4 => exact HC1.out); rintro e w13 ⟨v264, v267, rfl, ho0, ho1, hb⟩; refine ⟨_, rfl, ?_⟩; refine nx3_ (V_lower (V_mono (ok' := fun k_ => (w.heap.size ≤ k_)) ho0 (fun k_ hk_ => (Nat.le_trans (below_size (bU_ HB.out)) hk_))) (below_size (bU_ HB.out))) (V_lower (V_mono (ok' := fun k_ => (w.heap.size ≤ k_)) ho1 (fun k_ hk_ => (Nat.le_trans (below_size (bU_ HB.out)) hk_))) (below_size (bU_ HB.out))) (below_step (bU_ HB.out) hb) ?_; clear HB; intro HO265 HO268 HB; clear hb ho0 ho1))
     go_ret3
     exact ⟨_, _, eW_, vU_ HO265.out, vU_ HO268.out, bU_ HB.out⟩

def ratio_Sum.j0 : Nat → List Int → List Int → Bool → Option (List Int × Int)
 | 0, _, _, _ => none
 | k + 1, x0, x1, x13 => if x13 = true then (some (([] : List Int), 1)) else ((ratio_add.f k x0 x1).bind fun t271 => ((ratio_bounded.f t271).bind fun bt274 => (some (bt274.1, bt274.2))))
def ratio_Sum.f (k : Nat) (l0 : List Int) (l1 : List Int) : Option (List Int × Int) := (ratio_ValidNat.f k l0).bind fun t269 => (if t269 = true then ((ratio_ValidNat.f k l1).bind fun t270 => (ratio_Sum.j0 k l0 l1 (!t270))) else (ratio_Sum.j0 k l0 l1 true))
theorem ratio_Sum.mono_l : ∀ k, (∀ y0 y1 y2, LeO (ratio_Sum.j0 k y0 y1 y2) (ratio_Sum.j0 (k + 1) y0 y1 y2))
 | 0 => fun _ _ _ r h => by simp [ratio_Sum.j0] at h
 | k + 1 => by
  have ih0 := ratio_Sum.mono_l k
  ·intro y0 y1 y2
   unfold ratio_Sum.j0
   with_reducible repeat' first | apply ih0 | apply ratio_ValidNat.mono | apply ratio_add.mono | exact LeO.refl _ | exact LeO.none _ | refine LeO.ite ?_ ?_ | refine LeO.bind ?_ (fun _ => ?_)
theorem ratio_Sum.mono : ∀ a0 a1 k, LeO (ratio_Sum.f k a0 a1) (ratio_Sum.f (k + 1) a0 a1) := by
 intro a0 a1 k
 have ih0 := ratio_Sum.mono_l k
 unfold ratio_Sum.f
 with_reducible repeat' first | apply ih0 | apply ratio_ValidNat.mono | apply ratio_add.mono | exact LeO.refl _ | exact LeO.none _ | refine LeO.ite ?_ ?_ | refine LeO.bind ?_ (fun _ => ?_)
set_option maxHeartbeats 8000000 in
set_option maxRecDepth 100000 in
theorem ratio_Sum.calls (k : Nat) (P0_ : Nat → Prop) (A0 : Option Addr) (c0 : Nat) (l0 : List Int) (P1_ : Nat → Prop) (A1 : Option Addr) (c1 : Nat) (l1 : List Int) (r1 : List Int) (r2 : Int) (w : World) (hs0 : Kd.V (Kd.int .u32) 44 w w.heap.size (fun k_ => P0_ k_) (.slice A0 l0.length c0) l0) (hs1 : Kd.V (Kd.int .u32) 44 w w.heap.size (fun k_ => P1_ k_) (.slice A1 l1.length c1) l1) (h : ratio_Sum.f k l0 l1 = some (r1, r2)) :
  Calls Tryd.prog 29 #[.slice A0 l0.length c0, .slice A1 l1.length c1] w fun e w' => ∃ v0_ : Value, e = .returned (.tuple #[v0_, .int .i64 r2]) ∧ Kd.V (Kd.int .u32) 44 w' w.heap.size (fun k_ => ((P0_ k_ ∨ P1_ k_) ∨ w.heap.size ≤ k_)) v0_ r1 ∧ Below w.heap.size w w' := by
 have HO0 := ak (show Kd.V (Kd.int .u32) 44 w w.heap.size (fun k_ => ((P0_ k_ ∨ P1_ k_) ∨ w.heap.size ≤ k_)) (.slice A0 l0.length c0) l0 from V_mono hs0 (fun k_ hk => .inl (.inl hk)))
 have HO1 := ak (show Kd.V (Kd.int .u32) 44 w w.heap.size (fun k_ => ((P0_ k_ ∨ P1_ k_) ∨ w.heap.size ≤ k_)) (.slice A1 l1.length c1) l1 from V_mono hs1 (fun k_ hk => .inl (.inr hk)))
 have HB := ak (Below.refl w.heap.size w)
 have H := h
 clear h
 unfold ratio_Sum.f at H
 have HC3 := ak H
 clear H
 go_enter Tryd.func29, Tryd.ntmps29
 go_upto_region 1 with (fail)
 go_cut [13] (fun v13 wc => ∃ (kq : Nat) (x13_2 : Bool), v13 = .bool x13_2 ∧ Aside0 (ratio_Sum.j0 kq l0 l1 x13_2 = some (r1, r2)) ∧ Aside0 (kq ≤ k) ∧ Aside0 (Kd.V (Kd.int .u32) 44 wc w.heap.size (fun k_ => ((P0_ k_ ∨ P1_ k_) ∨ w.heap.size ≤ k_)) (.slice A0 l0.length c0) l0) ∧ Aside0 (Kd.V (Kd.int .u32) 44 wc w.heap.size (fun k_ => ((P0_ k_ ∨ P1_ k_) ∨ w.heap.size ≤ k_)) (.slice A1 l1.length c1) l1) ∧ Aside0 (Below w.heap.size w wc))
 case first =>
  have H := HC3.out
  clear HC3
  revert H
  refine bd_ fun t269 A4 H => ?_
  by_cases c5 : t269 = true
  ·subst c5
   rw [if_pos rfl] at H
   revert H
   refine bd_ fun t270 A6 H => ?_
   have H' := ak H
   clear H
   go_wp2_with (first | ((with_reducible refine gate_callee (f := 27) rfl ?_); refine gl_ (some 7) Tryd.func27 #[.slice A0 l0.length c0] ?_; (with_reducible refine (ratio_ValidNat.calls k _ _ l0 true _ ?side1 ?side2 A4.out).mono ?_); (case side1 => exact cU_ ((V_reads' HO0.out).2.2)); (case side2 => exact (V_reads' HO0.out).2.1); rintro e w7 ⟨rfl, hb⟩; refine ⟨_, rfl, ?_⟩; refine nx3_ (V_below (vU_ HO0.out) hb) (V_below (vU_ HO1.out) hb) (below_step (bU_ HB.out) hb) ?_; clear HO0 HO1 HB; intro HO0 HO1 HB; clear hb) | (go_at_call 27; (with_reducible refine (ratio_ValidNat.calls k _ _ l1 t270 _ ?side1 ?side2 A6.out).mono ?_); (case side1 => exact cU_ ((V_reads' HO1.out).2.2)); (case side2 => exact (V_reads' HO1.out).2.1); rintro e w8 ⟨rfl, hb⟩; refine nx3_ (V_below (vU_ HO0.out) hb) (V_below (vU_ HO1.out) hb) (below_step (bU_ HB.out) hb) ?_; clear HO0 HO1 HB; intro HO0 HO1 HB; clear hb))
   go_meet
   case rel => exact ⟨_, (!t270), gb_, H', ⟨by first | omega | exact Nat.le_refl _⟩, ⟨vU_ HO0.out⟩, ⟨vU_ HO1.out⟩, ⟨bU_ HB.out⟩⟩
  ·replace c5 := Bool.eq_false_iff.mpr c5
   subst c5
   rw [if_neg (show ¬ (false = true) by decide)] at H
   have H' := ak H
   clear H
   go_wp2_with (first | ((with_reducible refine gate_callee (f := 27) rfl ?_); refine gl_ (some 7) Tryd.func27 #[.slice A0 l0.length c0] ?_; (with_reducible refine (ratio_ValidNat.calls k _ _ l0 false _ ?side1 ?side2 A4.out).mono ?_); (case side1 => exact cU_ ((V_reads' HO0.out).2.2)); (case side2 => exact (V_reads' HO0.out).2.1); rintro e w9 ⟨rfl, hb⟩; refine ⟨_, rfl, ?_⟩; refine nx3_ (V_below (vU_ HO0.out) hb) (V_below (vU_ HO1.out) hb) (below_step (bU_ HB.out) hb) ?_; clear HO0 HO1 HB; intro HO0 HO1 HB; clear hb))
   go_meet
   case rel => exact ⟨_, (true), gb_, H', ⟨by first | omega | exact Nat.le_refl _⟩, ⟨vU_ HO0.out⟩, ⟨vU_ HO1.out⟩, ⟨bU_ HB.out⟩⟩
 case rest =>
  clear HC3
  (try clear c1); (try clear c2); (try clear p2); (try clear c5)
  obtain ⟨kq, x13_2, rfl, HA, HJ2, HO_0, HO_1, HB⟩ := hcut
  cases kq with
  | zero => exact absurd HA.out (by simp [ratio_Sum.j0])
  | succ kj2 =>
   have H := HA.out
   clear HA
   simp only [ratio_Sum.j0] at H
   by_cases c10 : x13_2 = true
   ·subst c10
    rw [if_pos rfl] at H
    simp only [Option.some.injEq, Prod.mk.injEq] at H
    obtain ⟨rfl, rfl⟩ := H
    go_wp2
    go_ret2
    exact ⟨_, eW_, Kd.V_nil _ _ _ _ _, bU_ HB.out⟩
   ·replace c10 := Bool.eq_false_iff.mpr c10
    subst c10
    rw [if_neg (show ¬ (false = true) by decide)] at H
    revert H
    refine bd_ fun t271 A11 H => ?_
    revert H
    refine bd2_ fun t274 t277 A12 H => ?_
    try dsimp only at H
    simp only [Option.some.injEq, Prod.mk.injEq] at H
    obtain ⟨rfl, rfl⟩ := H
    go_wp2_with (first | ((with_reducible refine gate_callee (f := 58) rfl ?_); refine gl_ (some 16) Tryd.func58 #[.slice A0 l0.length c0, .slice A1 l1.length c1] ?_; (with_reducible refine (ratio_add.calls kj2 (fun k_ => ((P0_ k_ ∨ P1_ k_) ∨ w.heap.size ≤ k_)) _ _ l0 (fun k_ => ((P0_ k_ ∨ P1_ k_) ∨ w.heap.size ≤ k_)) _ _ l1 t271 _ ?side1 ?side2 A11.out).mono ?_); (case side1 => exact HO_0.out); (case side2 => exact HO_1.out); rintro e w13 ⟨v272, rfl, ho0, hb⟩; refine ⟨_, rfl, ?_⟩; refine nx4_ (V_below (vU_ HO_0.out) hb) (V_below (vU_ HO_1.out) hb) (V_lower (V_mono (ok' := fun k_ => ((P0_ k_ ∨ P1_ k_) ∨ w.heap.size ≤ k_)) ho0 (fun k_ hk_ => Or.elim hk_ (fun hs_ => Or.elim hs_ (fun hs_ => hs_) (fun hs_ => hs_)) (fun hn_ => (.inr (Nat.le_trans (below_size (bU_ HB.out)) hn_))))) (below_size (bU_ HB.out))) (below_step (bU_ HB.out) hb) ?_; clear HO_0 HO_1 HB; intro HO_0 HO_1 HO273 HB; clear hb ho0; obtain ⟨Ao14, co14, eo14⟩ := V_slice HO273.out; subst eo14) | ((with_reducible refine gate_callee (f := 60) rfl ?_); refine gl_ (some 17) Tryd.func60 #[.slice Ao14 t271.length co14] ?_; (with_reducible refine (ratio_bounded.calls (fun k_ => ((P0_ k_ ∨ P1_ k_) ∨ w.heap.size ≤ k_)) _ _ t271 t274 t277 _ ?side1 A12.out).mono ?_); (case side1 => exact HO273.out); rintro e w15 ⟨v275, rfl, ho0, hb⟩; refine ⟨_, rfl, ?_⟩; refine nx5_ (V_below (vU_ HO_0.out) hb) (V_below (vU_ HO_1.out) hb) (V_below (vU_ HO273.out) hb) (V_lower (V_mono (ok' := fun k_ => ((P0_ k_ ∨ P1_ k_) ∨ w.heap.size ≤ k_)) ho0 (fun k_ hk_ => Or.elim hk_ (fun hs_ => hs_) (fun hn_ => (.inr (Nat.le_trans (below_size (bU_ HB.out)) hn_))))) (below_size (bU_ HB.out))) (below_step (bU_ HB.out) hb) ?_; clear HO_0 HO_1 HO273 HB; intro HO_0 HO_1 HO273 HO276 HB; clear hb ho0))
    go_ret2
    exact ⟨_, eW_, vU_ HO276.out, bU_ HB.out⟩

def ratio_Gcd.f (k : Nat) (l0 : List Int) (l1 : List Int) : Option (List Int) := (ratio_ValidNat.f k l0).bind fun t278 => (if t278 = true then ((ratio_ValidNat.f k l1).bind fun t279 => (if t279 = true then ((ratio_gcd.f k l0 l1).bind fun t280 => (some t280)) else (some ([] : List Int)))) else (some ([] : List Int)))
theorem ratio_Gcd.mono : ∀ a0 a1 k, LeO (ratio_Gcd.f k a0 a1) (ratio_Gcd.f (k + 1) a0 a1) := by
 intro a0 a1 k
 unfold ratio_Gcd.f
 with_reducible repeat' first | apply ratio_ValidNat.mono | apply ratio_gcd.mono | exact LeO.refl _ | exact LeO.none _ | refine LeO.ite ?_ ?_ | refine LeO.bind ?_ (fun _ => ?_)
set_option maxHeartbeats 8000000 in
set_option maxRecDepth 100000 in
theorem ratio_Gcd.calls (k : Nat) (A0 : Option Addr) (c0 : Nat) (l0 : List Int) (A1 : Option Addr) (c1 : Nat) (l1 : List Int) (r : List Int) (w : World) (hr0 : Kd.C (Kd.int .u32) w A0 l0.length l0) (hc0 : l0.length ≤ c0) (hr1 : Kd.C (Kd.int .u32) w A1 l1.length l1) (hc1 : l1.length ≤ c1) (h : ratio_Gcd.f k l0 l1 = some r) :
  Calls Tryd.prog 31 #[.slice A0 l0.length c0, .slice A1 l1.length c1] w fun e w' => ∃ v0_ : Value, e = .returned (v0_) ∧ Kd.R (Kd.int .u32) 44 w' w.heap.size (fun _ => True) v0_ r ∧ Below w.heap.size w w' := by
 have HR0 := ak hr0
 have HC0 := ak hc0
 clear hr0 hc0
 have HR1 := ak hr1
 have HC1 := ak hc1
 clear hr1 hc1
 have HB := ak (Below.refl w.heap.size w)
 have H := h
 clear h
 unfold ratio_Gcd.f at H
 revert H
 refine bd_ fun t278 A3 H => ?_
 by_cases c4 : t278 = true
 ·subst c4
  rw [if_pos rfl] at H
  revert H
  refine bd_ fun t279 A5 H => ?_
  by_cases c6 : t279 = true
  ·subst c6
   rw [if_pos rfl] at H
   revert H
   refine bd_ fun t280 A7 H => ?_
   obtain rfl := Option.some.inj H
   go_enter Tryd.func31, Tryd.ntmps31
   go_wp2_with (first | ((with_reducible refine gate_callee (f := 27) rfl ?_); refine gl_ (some 6) Tryd.func27 #[.slice A0 l0.length c0] ?_; (with_reducible refine (ratio_ValidNat.calls k _ _ l0 true _ ?side1 ?side2 A3.out).mono ?_); (case side1 => exact cU_ HR0.out); (case side2 => exact HC0.out); rintro e w8 ⟨rfl, hb⟩; refine ⟨_, rfl, ?_⟩; refine nx1_ (below_step (bU_ HB.out) hb) ?_; clear HB; intro HB; clear hb) | (go_at_call 27; (with_reducible refine (ratio_ValidNat.calls k _ _ l1 true _ ?side1 ?side2 A5.out).mono ?_); (case side1 => exact cU_ (C_below HR1.out HB.out)); (case side2 => exact HC1.out); rintro e w9 ⟨rfl, hb⟩; refine nx1_ (below_step (bU_ HB.out) hb) ?_; clear HB; intro HB; clear hb) | ((with_reducible refine gate_callee (f := 76) rfl ?_); refine gl_ (some 15) Tryd.func76 #[.slice A0 l0.length c0, .slice A1 l1.length c1] ?_; (with_reducible refine (ratio_gcd.calls k (fun k_ => k_ < w.heap.size) _ _ l0 (fun k_ => k_ < w.heap.size) _ _ l1 t280 _ ?side1 ?side2 A7.out).mono ?_); (case side1 => exact V_mk HC0.out (F_below (C_F (heap_int .u32) HR0.out) (bU_ HB.out))); (case side2 => exact V_mk HC1.out (F_below (C_F (heap_int .u32) HR1.out) (bU_ HB.out))); rintro e w10 ⟨v281, rfl, ho0, hb⟩; refine ⟨_, rfl, ?_⟩; refine nx2_ (R_lower (R_mono (ok' := fun k_ => True) ho0 (fun _ hk_ => trivial)) (below_size (bU_ HB.out))) (below_step (bU_ HB.out) hb) ?_; clear HB; intro HO282 HB; clear hb ho0))
   go_ret
   exact ⟨_, eW_, rU_ HO282.out, bU_ HB.out⟩
  ·replace c6 := Bool.eq_false_iff.mpr c6
   subst c6
   rw [if_neg (show ¬ (false = true) by decide)] at H
   obtain rfl := Option.some.inj H
   go_enter Tryd.func31, Tryd.ntmps31
   go_wp2_with (first | ((with_reducible refine gate_callee (f := 27) rfl ?_); refine gl_ (some 6) Tryd.func27 #[.slice A0 l0.length c0] ?_; (with_reducible refine (ratio_ValidNat.calls k _ _ l0 true _ ?side1 ?side2 A3.out).mono ?_); (case side1 => exact cU_ HR0.out); (case side2 => exact HC0.out); rintro e w11 ⟨rfl, hb⟩; refine ⟨_, rfl, ?_⟩; refine nx1_ (below_step (bU_ HB.out) hb) ?_; clear HB; intro HB; clear hb) | (go_at_call 27; (with_reducible refine (ratio_ValidNat.calls k _ _ l1 false _ ?side1 ?side2 A5.out).mono ?_); (case side1 => exact cU_ (C_below HR1.out HB.out)); (case side2 => exact HC1.out); rintro e w12 ⟨rfl, hb⟩; refine nx1_ (below_step (bU_ HB.out) hb) ?_; clear HB; intro HB; clear hb))
   go_ret
   exact ⟨_, eW_, by first | exact Kd.R_nil _ _ _ _ _ | exact Kd.N_nil _ _ _ _ _ | exact Kd.V_nil _ _ _ _ _ | exact Kd.Q_nil _ _ _ _ _ | exact Kd.S_nil _ _ _ _ _, bU_ HB.out⟩
 ·replace c4 := Bool.eq_false_iff.mpr c4
  subst c4
  rw [if_neg (show ¬ (false = true) by decide)] at H
  obtain rfl := Option.some.inj H
  go_enter Tryd.func31, Tryd.ntmps31
  go_wp2_with (first | ((with_reducible refine gate_callee (f := 27) rfl ?_); refine gl_ (some 6) Tryd.func27 #[.slice A0 l0.length c0] ?_; (with_reducible refine (ratio_ValidNat.calls k _ _ l0 false _ ?side1 ?side2 A3.out).mono ?_); (case side1 => exact cU_ HR0.out); (case side2 => exact HC0.out); rintro e w13 ⟨rfl, hb⟩; refine ⟨_, rfl, ?_⟩; refine nx1_ (below_step (bU_ HB.out) hb) ?_; clear HB; intro HB; clear hb))
  go_ret
  exact ⟨_, eW_, by first | exact Kd.R_nil _ _ _ _ _ | exact Kd.N_nil _ _ _ _ _ | exact Kd.V_nil _ _ _ _ _ | exact Kd.Q_nil _ _ _ _ _ | exact Kd.S_nil _ _ _ _ _, bU_ HB.out⟩

def ratio_Add.j0 : Nat → Bool → List Int → List Int → List Int → List Int → Option (List Int × List Int × Int)
 | 0, _, _, _, _, _ => none
 | k + 1, x13, x284000, x284001, x285000, x285001 => if x13 = true then (some (([] : List Int), ([] : List Int), 1)) else ((ratio_mul.f k x284000 x285001).bind fun t288 => ((ratio_mul.f k x285000 x284001).bind fun t291 => ((ratio_add.f k t288 t291).bind fun t294 => ((ratio_mul.f k x284001 x285001).bind fun t297 => ((ratio_lowest.f k t294 t297).bind fun bt300 => (some (bt300.1, bt300.2.1, bt300.2.2)))))))
def ratio_Add.f (k : Nat) (l0_0 : List Int) (l0_1 : List Int) (l1_0 : List Int) (l1_1 : List Int) : Option (List Int × List Int × Int) := (ratio_Valid.f k l0_0 l0_1).bind fun t286 => (if t286 = true then ((ratio_Valid.f k l1_0 l1_1).bind fun t287 => (ratio_Add.j0 k (!t287) l0_0 l0_1 l1_0 l1_1)) else (ratio_Add.j0 k true l0_0 l0_1 l1_0 l1_1))
theorem ratio_Add.mono_l : ∀ k, (∀ y0 y1 y2 y3 y4, LeO (ratio_Add.j0 k y0 y1 y2 y3 y4) (ratio_Add.j0 (k + 1) y0 y1 y2 y3 y4))
 | 0 => fun _ _ _ _ _ r h => by simp [ratio_Add.j0] at h
 | k + 1 => by
  have ih0 := ratio_Add.mono_l k
  ·intro y0 y1 y2 y3 y4
   unfold ratio_Add.j0
   with_reducible repeat' first | apply ih0 | apply ratio_Valid.mono | apply ratio_add.mono | apply ratio_lowest.mono | apply ratio_mul.mono | exact LeO.refl _ | exact LeO.none _ | refine LeO.ite ?_ ?_ | refine LeO.bind ?_ (fun _ => ?_)
theorem ratio_Add.mono : ∀ a0 a1 a2 a3 k, LeO (ratio_Add.f k a0 a1 a2 a3) (ratio_Add.f (k + 1) a0 a1 a2 a3) := by
 intro a0 a1 a2 a3 k
 have ih0 := ratio_Add.mono_l k
 unfold ratio_Add.f
 with_reducible repeat' first | apply ih0 | apply ratio_Valid.mono | apply ratio_add.mono | apply ratio_lowest.mono | apply ratio_mul.mono | exact LeO.refl _ | exact LeO.none _ | refine LeO.ite ?_ ?_ | refine LeO.bind ?_ (fun _ => ?_)
def ratio_Add.T3 : Bool × List (List Nat × List Nat) := (true, [([], []), ([0], [0]), ([], []), ([2], [2]), ([1, 3], [1, 3]), ([], []), ([5], [5]), ([], []), ([7], [7]), ([6, 8, 4], [6, 8]), ([4, 9, 9], [4, 9]), ([], []), ([11], [11]), ([], []), ([13], [13]), ([12, 14, 10], [12, 14]), ([10, 15, 15], [10, 15]), ([16], [16]), ([16], [16]), ([17, 16, 0, 1, 2, 3, 4, 5, 6, 7, 8, 9, 10, 11, 12, 13, 14, 15, 16, 17, 18], [17]), ([18, 19, 0, 1, 2, 3, 4, 5, 6, 7, 8, 9, 10, 11, 12, 13, 14, 15, 16, 17, 18, 19], [18])])
def ratio_Add.B3 : List Nat := [0, 1, 0, 4, 15, 0, 32, 0, 128, 511, 1023, 0, 2048, 0, 8192, 32767, 65535, 131071, 131071, 524287, 1048575]
theorem ratio_Add.tab3 : rtab .any (opsOf Tryd.f33 3) = ratio_Add.T3 := by kernel_rfl
theorem ratio_Add.bits3 : waitsOk ratio_Add.T3.2 ratio_Add.B3 = true := by kernel_rfl
set_option maxHeartbeats 8000000 in
set_option maxRecDepth 100000 in
theorem ratio_Add.calls (k : Nat) (A0_0 : Option Addr) (c0_0 : Nat) (l0_0 : List Int) (A0_1 : Option Addr) (c0_1 : Nat) (l0_1 : List Int) (A1_0 : Option Addr) (c1_0 : Nat) (l1_0 : List Int) (A1_1 : Option Addr) (c1_1 : Nat) (l1_1 : List Int) (r1 : List Int) (r2 : List Int) (r3 : Int) (w : World) (hr0_0 : Kd.C (Kd.int .u32) w A0_0 l0_0.length l0_0) (hc0_0 : l0_0.length ≤ c0_0) (hr0_1 : Kd.C (Kd.int .u32) w A0_1 l0_1.length l0_1) (hc0_1 : l0_1.length ≤ c0_1) (hr1_0 : Kd.C (Kd.int .u32) w A1_0 l1_0.length l1_0) (hc1_0 : l1_0.length ≤ c1_0) (hr1_1 : Kd.C (Kd.int .u32) w A1_1 l1_1.length l1_1) (hc1_1 : l1_1.length ≤ c1_1) (h : ratio_Add.f k l0_0 l0_1 l1_0 l1_1 = some (r1, r2, r3)) :
  Calls Tryd.prog 33 #[.agg #[.slice A0_0 l0_0.length c0_0, .slice A0_1 l0_1.length c0_1], .agg #[.slice A1_0 l1_0.length c1_0, .slice A1_1 l1_1.length c1_1]] w fun e w' => ∃ v0_ v1_ : Value, e = .returned (.tuple #[.agg #[v0_, v1_], .int .i64 r3]) ∧ Kd.V (Kd.int .u32) 44 w' w.heap.size (fun k_ => (w.heap.size ≤ k_)) v0_ r1 ∧ Kd.V (Kd.int .u32) 44 w' w.heap.size (fun k_ => (w.heap.size ≤ k_)) v1_ r2 ∧ Below w.heap.size w w' := by
 have hu29 := Tryd.underlying29
 have HR0_0 := ak hr0_0
 have HC0_0 := ak hc0_0
 clear hr0_0 hc0_0
 have HR0_1 := ak hr0_1
 have HC0_1 := ak hc0_1
 clear hr0_1 hc0_1
 have HR1_0 := ak hr1_0
 have HC1_0 := ak hc1_0
 clear hr1_0 hc1_0
 have HR1_1 := ak hr1_1
 have HC1_1 := ak hc1_1
 clear hr1_1 hc1_1
 have HB := ak (Below.refl w.heap.size w)
 have H := h
 clear h
 unfold ratio_Add.f at H
 have HC3 := ak H
 clear H
 go_enter Tryd.func33, Tryd.ntmps33
 go_upto_region 1 with (first | ((with_reducible refine gate_dst (N := 2) rfl ?_); refine bx_ 2 29 #[.slice A0_0 l0_0.length c0_0, .slice A0_1 l0_1.length c0_1] ?_; intro gb283 hg w4 hbox hb; refine nx4_ (below_step (bU_ HB.out) hb) (hbox) ((hs_ hg (below_size (bU_ HB.out)))) ((hs_ hg (below_size (bU_ HB.out)))) ?_; clear HB; intro HB BK283 GW283 GE283; clear hb hbox hg) | ((with_reducible refine gate_dst (N := 3) rfl ?_); refine bx_ 3 29 #[.slice A1_0 l1_0.length c1_0, .slice A1_1 l1_1.length c1_1] ?_; intro gb284 hg w5 hbox hb; refine nx7_ (blk_below (kU_ BK283.out) hb) (below_step sU_ hb) (hbox) ((hs_ hg (below_size sU_) : w.heap.size ≤ gb284)) ((hs_ hg (below_size sU_) : w.heap.size ≤ gb284)) ((hl_ hg (kU_ BK283.out))) ((hm_ hg (kU_ BK283.out))) ?_; clear BK283 HB; intro BK283 HB BK284 GW284 GE284 NB283_284 NB284_283; clear hb hbox hg) | ((with_reducible refine gate_dst (N := 4) rfl ?_); refine bx_ 4 29 #[.slice none 0 0, .slice none 0 0] ?_; intro gb285 hg w6 hbox hb; refine nx10_ (blk_below (kU_ BK283.out) hb) (blk_below (kU_ BK284.out) hb) (below_step sU_ hb) (hbox) ((hs_ hg (below_size sU_) : w.heap.size ≤ gb285)) ((hs_ hg (below_size sU_) : w.heap.size ≤ gb285)) ((hl_ hg (kU_ BK283.out))) ((hm_ hg (kU_ BK283.out))) ((hl_ hg (kU_ BK284.out))) ((hm_ hg (kU_ BK284.out))) ?_; clear BK283 BK284 HB; intro BK283 BK284 HB BK285 GW285 GE285 NB283_285 NB285_283 NB284_285 NB285_284; clear hb hbox hg))
 (try simp only [Act.put, s1_, s2_, s3_])
 go_cut [13] (fun v13 wc => ∃ (kq : Nat) (x13_2 : Bool), v13 = .bool x13_2 ∧ Aside0 (ratio_Add.j0 kq x13_2 l0_0 l0_1 l1_0 l1_1 = some (r1, r2, r3)) ∧ Aside0 (kq ≤ k) ∧ Aside0 (wc.heap[gb283]? = some (.cells #[(.slice A0_0 l0_0.length c0_0), (.slice A0_1 l0_1.length c0_1)] 29 (0, 0))) ∧ Aside0 (wc.heap[gb284]? = some (.cells #[(.slice A1_0 l1_0.length c1_0), (.slice A1_1 l1_1.length c1_1)] 29 (0, 0))) ∧ Aside0 (wc.heap[gb285]? = some (.cells #[(.slice none 0 0), (.slice none 0 0)] 29 (0, 0))) ∧ Aside0 (Below w.heap.size w wc))
 case first =>
  have H := HC3.out
  clear HC3
  revert H
  refine bd_ fun t286 A7 H => ?_
  by_cases c8 : t286 = true
  ·subst c8
   rw [if_pos rfl] at H
   revert H
   refine bd_ fun t287 A9 H => ?_
   have H' := ak H
   clear H
   have hnb10 := NB283_284.out
   have hnc10 := NB284_283.out
   have hnb11 := NB283_285.out
   have hnc11 := NB285_283.out
   have hcz12_0 := bc0_ BK283.out
   have hcz12_1 := bc1_ BK283.out
   have hfz12_0 := blk_frozen BK283.out 0
   have hfz12_1 := blk_frozen BK283.out 1
   go_wp2_with (first | ((with_reducible refine gate_callee (f := 30) rfl ?_); refine gl_ (some 7) Tryd.func30 #[.agg #[.slice A0_0 l0_0.length c0_0, .slice A0_1 l0_1.length c0_1]] ?_; (with_reducible refine (ratio_Valid.calls k _ _ l0_0 _ _ l0_1 true _ ?side1 ?side2 ?side3 ?side4 A7.out).mono ?_); (case side1 => exact cU_ (C_below HR0_0.out HB.out)); (case side2 => exact HC0_0.out); (case side3 => exact cU_ (C_below HR0_1.out HB.out)); (case side4 => exact HC0_1.out); rintro e w13 ⟨rfl, hb⟩; refine ⟨_, rfl, ?_⟩; refine nx4_ (blk_below (kU_ BK283.out) hb) (blk_below (kU_ BK284.out) hb) (blk_below (kU_ BK285.out) hb) (below_step sU_ hb) ?_; clear BK283 BK284 BK285 HB; intro BK283 BK284 BK285 HB; clear hb; have hnb14 := NB284_285.out; have hnc14 := NB285_284.out; have hcz15_0 := bc0_ BK284.out; have hcz15_1 := bc1_ BK284.out; have hfz15_0 := blk_frozen BK284.out 0; have hfz15_1 := blk_frozen BK284.out 1) | (go_at_call 30; (with_reducible refine (ratio_Valid.calls k _ _ l1_0 _ _ l1_1 t287 _ ?side1 ?side2 ?side3 ?side4 A9.out).mono ?_); (case side1 => exact cU_ (C_below HR1_0.out HB.out)); (case side2 => exact HC1_0.out); (case side3 => exact cU_ (C_below HR1_1.out HB.out)); (case side4 => exact HC1_1.out); rintro e w16 ⟨rfl, hb⟩; refine nx4_ (blk_below (kU_ BK283.out) hb) (blk_below (kU_ BK284.out) hb) (blk_below (kU_ BK285.out) hb) (below_step sU_ hb) ?_; clear BK283 BK284 BK285 HB; intro BK283 BK284 BK285 HB; clear hb))
   go_meet
   case rel => exact ⟨_, (!t287), gb_, H', ⟨by first | omega | exact Nat.le_refl _⟩, ⟨by (with_reducible repeat (first | refine blk_drewN ?_ _ | refine blk_drew ?_ | refine blk_alloc ?_ _)); exact BK283.out⟩, ⟨by (with_reducible repeat (first | refine blk_drewN ?_ _ | refine blk_drew ?_ | refine blk_alloc ?_ _)); exact BK284.out⟩, ⟨by (with_reducible repeat (first | refine blk_drewN ?_ _ | refine blk_drew ?_ | refine blk_alloc ?_ _)); exact BK285.out⟩, ⟨sU_⟩⟩
  ·replace c8 := Bool.eq_false_iff.mpr c8
   subst c8
   rw [if_neg (show ¬ (false = true) by decide)] at H
   have H' := ak H
   clear H
   have hnb17 := NB283_284.out
   have hnc17 := NB284_283.out
   have hnb18 := NB283_285.out
   have hnc18 := NB285_283.out
   have hcz19_0 := bc0_ BK283.out
   have hcz19_1 := bc1_ BK283.out
   have hfz19_0 := blk_frozen BK283.out 0
   have hfz19_1 := blk_frozen BK283.out 1
   go_wp2_with (first | ((with_reducible refine gate_callee (f := 30) rfl ?_); refine gl_ (some 7) Tryd.func30 #[.agg #[.slice A0_0 l0_0.length c0_0, .slice A0_1 l0_1.length c0_1]] ?_; (with_reducible refine (ratio_Valid.calls k _ _ l0_0 _ _ l0_1 false _ ?side1 ?side2 ?side3 ?side4 A7.out).mono ?_); (case side1 => exact cU_ (C_below HR0_0.out HB.out)); (case side2 => exact HC0_0.out); (case side3 => exact cU_ (C_below HR0_1.out HB.out)); (case side4 => exact HC0_1.out); rintro e w20 ⟨rfl, hb⟩; refine ⟨_, rfl, ?_⟩; refine nx4_ (blk_below (kU_ BK283.out) hb) (blk_below (kU_ BK284.out) hb) (blk_below (kU_ BK285.out) hb) (below_step sU_ hb) ?_; clear BK283 BK284 BK285 HB; intro BK283 BK284 BK285 HB; clear hb))
   go_meet
   case rel => exact ⟨_, (true), gb_, H', ⟨by first | omega | exact Nat.le_refl _⟩, ⟨by (with_reducible repeat (first | refine blk_drewN ?_ _ | refine blk_drew ?_ | refine blk_alloc ?_ _)); exact BK283.out⟩, ⟨by (with_reducible repeat (first | refine blk_drewN ?_ _ | refine blk_drew ?_ | refine blk_alloc ?_ _)); exact BK284.out⟩, ⟨by (with_reducible repeat (first | refine blk_drewN ?_ _ | refine blk_drew ?_ | refine blk_alloc ?_ _)); exact BK285.out⟩, ⟨sU_⟩⟩
 case rest =>
  clear HC3
  (try clear c1); (try clear p2); (try clear c3); (try clear c8); (try clear c10); (try clear c11); (try clear c14); (try clear c17); (try clear c18); (try clear hcz12_0); (try clear hcz12_1); (try clear hcz15_0); (try clear hcz15_1); (try clear hcz19_0); (try clear hcz19_1); (try clear hfz12_0); (try clear hfz12_1); (try clear hfz15_0); (try clear hfz15_1); (try clear hfz19_0); (try clear hfz19_1)
  obtain ⟨kq, x13_2, rfl, HA, HJ2, BK283, BK284, BK285, HB⟩ := hcut
  cases kq with
  | zero => exact absurd HA.out (by simp [ratio_Add.j0])
  | succ kj2 =>
   have H := HA.out
   clear HA
   simp only [ratio_Add.j0] at H
   by_cases c21 : x13_2 = true
   ·subst c21
    rw [if_pos rfl] at H
    simp only [Option.some.injEq, Prod.mk.injEq] at H
    obtain ⟨rfl, rfl, rfl⟩ := H
    have hnb22 := NB285_283.out
    have hnc22 := NB283_285.out
    have hnb23 := NB285_284.out
    have hnc23 := NB284_285.out
    have hcz24_0 := bc0_ BK285.out
    have hcz24_1 := bc1_ BK285.out
    have hfz24_0 := blk_frozen BK285.out 0
    have hfz24_1 := blk_frozen BK285.out 1
    go_wp2
    refine bodyPost_ret (results_ct rfl _ _ gb285 29 #[.slice none 0 0, .slice none 0 0] (0, 0) _ rfl kp_ Tryd.underlying29 rfl (by kernel_rfl)) rfl ?_
    exact ⟨_, _, eW_, Kd.V_nil _ _ _ _ _, Kd.V_nil _ _ _ _ _, sU_⟩
   ·replace c21 := Bool.eq_false_iff.mpr c21
    subst c21
    rw [if_neg (show ¬ (false = true) by decide)] at H
    revert H
    refine bd_ fun t288 A25 H => ?_
    revert H
    refine bd_ fun t291 A26 H => ?_
    revert H
    refine bd_ fun t294 A27 H => ?_
    revert H
    refine bd_ fun t297 A28 H => ?_
    revert H
    refine bd3_ fun t300 t303 t306 A29 H => ?_
    try dsimp only at H
    simp only [Option.some.injEq, Prod.mk.injEq] at H
    obtain ⟨rfl, rfl, rfl⟩ := H
    try go_wp2
    refine nx4_ (blk_drew BK283.out) (blk_drew BK284.out) (blk_drew BK285.out) (below_drew1 HB.out) ?_
    clear BK283 BK284 BK285 HB
    intro BK283 BK284 BK285 HB
    refine start_ (n := 21) (S := fun w' => w'.cell? ⟨gb283, 0, none⟩ = some (.slice A0_0 l0_0.length c0_0) ∧ w'.cell? ⟨gb283, 1, none⟩ = some (.slice A0_1 l0_1.length c0_1) ∧ w'.cell? ⟨gb284, 0, none⟩ = some (.slice A1_0 l1_0.length c1_0) ∧ w'.cell? ⟨gb284, 1, none⟩ = some (.slice A1_1 l1_1.length c1_1)) (ds := []) (bv 21 0) (by kernel_rfl) rfl rfl ⟨bc0_ BK283.out, bc1_ BK283.out, bc0_ BK284.out, bc1_ BK284.out⟩ (fun hHeld => ?_); refine with_tabW ratio_Add.tab3 ratio_Add.bits3 (fun HT_ HW_ => ?_)
    generalize wc.drew = w30 at BK283 BK284 BK285 HB hHeld ⊢
    refine pq_ 0 15 21 1 HT_.out ?_
    refine pq_ 2 17 21 5 HT_.out ?_
    refine pq_ 5 20 21 37 HT_.out ?_
    refine pq_ 7 22 21 165 HT_.out ?_
    refine pq_ 11 26 21 2213 HT_.out ?_
    refine pq_ 13 28 21 10405 HT_.out ?_
    refine tq_ 1 16 21 10407 HT_.out HW_.out hHeld ?_
    refine tq_ 3 18 21 10415 HT_.out HW_.out hHeld ?_
    refine tq_ 6 21 21 10479 HT_.out HW_.out hHeld ?_
    refine tq_ 8 23 21 10735 HT_.out HW_.out hHeld ?_
    refine tq_ 12 27 21 14831 HT_.out HW_.out hHeld ?_
    refine tq_ 14 29 21 31215 HT_.out HW_.out hHeld ?_
    refine oq_ 4 19 21 31231 HT_.out fun K hK => ?_
    refine goes_ Tryd.func59 (by kernel_rfl) rfl #[.slice A0_0 l0_0.length c0_0, .slice A1_1 l1_1.length c1_1] (by rfl) rfl rfl ga_ ?_
    with_reducible refine (ratio_mul.calls kj2 _ _ l0_0 _ _ l1_1 t288 _ ?side1 ?side2 ?side3 ?side4 A25.out).mono ?_
    (case side1 => exact cU_ (C_below HR0_0.out HB.out))
    (case side2 => exact HC0_0.out)
    (case side3 => exact cU_ (C_below HR1_1.out HB.out))
    (case side4 => exact HC1_1.out)
    rintro e w31 ⟨v289, rfl, ho0, hb⟩
    refine ⟨_, rfl, ?_⟩
    refine nx5_ (V_lower (V_mono (ok' := fun k_ => (w.heap.size ≤ k_) ∧ k_ ≠ gb283 ∧ k_ ≠ gb284 ∧ k_ ≠ gb285) ho0 (fun k_ hk_ => ⟨(Nat.le_trans (below_size sU_) hk_), (freshB (kU_ BK283.out) k_ hk_), (freshB (kU_ BK284.out) k_ hk_), (freshB (kU_ BK285.out) k_ hk_)⟩)) (below_size sU_)) (blk_below (kU_ BK283.out) hb) (blk_below (kU_ BK284.out) hb) (blk_below (kU_ BK285.out) hb) (below_step sU_ hb) ?_
    clear BK283 BK284 BK285 HB
    intro HO290 BK283 BK284 BK285 HB
    (try clear hb)
    (try clear hb2)
    (try clear hk)
    (try clear hi)
    (try clear ho0)
    refine hK.out _ _ ⟨bc0_ BK283.out, bc1_ BK283.out, bc0_ BK284.out, bc1_ BK284.out⟩ (fun hHeld => ?_)
    clear hK K
    refine norm_ (a' := ?_) ?_ ?_
    rotate_left
    ·show Act.put _ (some 19) _ = _
     simp only [Act.put, s1_, s2_, s3_, i64_w, i32_w]
     rfl
    refine oq_ 9 24 21 31743 HT_.out fun K hK => ?_
    refine goes_ Tryd.func59 (by kernel_rfl) rfl #[.slice A1_0 l1_0.length c1_0, .slice A0_1 l0_1.length c0_1] (by rfl) rfl rfl ga_ ?_
    with_reducible refine (ratio_mul.calls kj2 _ _ l1_0 _ _ l0_1 t291 _ ?side1 ?side2 ?side3 ?side4 A26.out).mono ?_
    (case side1 => exact cU_ (C_below HR1_0.out HB.out))
    (case side2 => exact HC1_0.out)
    (case side3 => exact cU_ (C_below HR0_1.out HB.out))
    (case side4 => exact HC0_1.out)
    rintro e w32 ⟨v292, rfl, ho0, hb⟩
    refine ⟨_, rfl, ?_⟩
    refine nx6_ (V_below (vU_ HO290.out) hb) (V_lower (V_mono (ok' := fun k_ => (w.heap.size ≤ k_) ∧ k_ ≠ gb283 ∧ k_ ≠ gb284 ∧ k_ ≠ gb285) ho0 (fun k_ hk_ => ⟨(Nat.le_trans (below_size sU_) hk_), (freshB (kU_ BK283.out) k_ hk_), (freshB (kU_ BK284.out) k_ hk_), (freshB (kU_ BK285.out) k_ hk_)⟩)) (below_size sU_)) (blk_below (kU_ BK283.out) hb) (blk_below (kU_ BK284.out) hb) (blk_below (kU_ BK285.out) hb) (below_step sU_ hb) ?_
    clear HO290 BK283 BK284 BK285 HB
    intro HO290 HO293 BK283 BK284 BK285 HB
    (try clear hb)
    (try clear hb2)
    (try clear hk)
    (try clear hi)
    (try clear ho0)
    obtain ⟨Ao33, co33, eo33⟩ := V_slice HO290.out
    (first | subst eo33 | (injection eo33 with f1_ f2_ f3_; have f4_ := f1_.symm; have f5_ := f3_.symm; clear f1_ f2_ f3_; subst f4_; subst f5_))
    obtain ⟨Ao34, co34, eo34⟩ := V_slice HO293.out
    (first | subst eo34 | (injection eo34 with f1_ f2_ f3_; have f4_ := f1_.symm; have f5_ := f3_.symm; clear f1_ f2_ f3_; subst f4_; subst f5_))
    refine hK.out _ _ ⟨bc0_ BK283.out, bc1_ BK283.out, bc0_ BK284.out, bc1_ BK284.out⟩ (fun hHeld => ?_)
    clear hK K
    refine norm_ (a' := ?_) ?_ ?_
    rotate_left
    ·show Act.put _ (some 24) _ = _
     simp only [Act.put, s1_, s2_, s3_, i64_w, i32_w]
     rfl
    refine oq_ 10 25 21 32767 HT_.out fun K hK => ?_
    refine goes_ Tryd.func58 (by kernel_rfl) rfl #[.slice Ao33 t288.length co33, .slice Ao34 t291.length co34] (by rfl) rfl rfl ga_ ?_
    with_reducible refine (ratio_add.calls kj2 (fun k_ => ((w.heap.size ≤ k_) ∧ (k_ ≠ gb283 ∧ (k_ ≠ gb284 ∧ k_ ≠ gb285)))) _ _ t288 (fun k_ => ((w.heap.size ≤ k_) ∧ (k_ ≠ gb283 ∧ (k_ ≠ gb284 ∧ k_ ≠ gb285)))) _ _ t291 t294 _ ?side1 ?side2 A27.out).mono ?_
    (case side1 => exact HO290.out)
    (case side2 => exact HO293.out)
    rintro e w35 ⟨v295, rfl, ho0, hb⟩
    refine ⟨_, rfl, ?_⟩
    refine nx7_ (V_below (vU_ HO290.out) hb) (V_below (vU_ HO293.out) hb) (V_lower (V_mono (ok' := fun k_ => (w.heap.size ≤ k_) ∧ k_ ≠ gb283 ∧ k_ ≠ gb284 ∧ k_ ≠ gb285) ho0 (fun k_ hk_ => ⟨Or.elim hk_ (fun hs_ => Or.elim hs_ (fun hs_ => hs_.1) (fun hs_ => hs_.1)) (fun hn_ => (Nat.le_trans (below_size sU_) hn_)), Or.elim hk_ (fun hs_ => Or.elim hs_ (fun hs_ => hs_.2.1) (fun hs_ => hs_.2.1)) (fun hn_ => (freshB (kU_ BK283.out) k_ hn_)), Or.elim hk_ (fun hs_ => Or.elim hs_ (fun hs_ => hs_.2.2.1) (fun hs_ => hs_.2.2.1)) (fun hn_ => (freshB (kU_ BK284.out) k_ hn_)), Or.elim hk_ (fun hs_ => Or.elim hs_ (fun hs_ => hs_.2.2.2) (fun hs_ => hs_.2.2.2)) (fun hn_ => (freshB (kU_ BK285.out) k_ hn_))⟩)) (below_size sU_)) (blk_below (kU_ BK283.out) hb) (blk_below (kU_ BK284.out) hb) (blk_below (kU_ BK285.out) hb) (below_step sU_ hb) ?_
    clear HO290 HO293 BK283 BK284 BK285 HB
    intro HO290 HO293 HO296 BK283 BK284 BK285 HB
    (try clear hb)
    (try clear hb2)
    (try clear hk)
    (try clear hi)
    (try clear ho0)
    refine hK.out _ _ ⟨bc0_ BK283.out, bc1_ BK283.out, bc0_ BK284.out, bc1_ BK284.out⟩ (fun hHeld => ?_)
    clear hK K
    refine norm_ (a' := ?_) ?_ ?_
    rotate_left
    ·show Act.put _ (some 25) _ = _
     simp only [Act.put, s1_, s2_, s3_, i64_w, i32_w]
     rfl
    refine oq_ 15 30 21 65535 HT_.out fun K hK => ?_
    refine goes_ Tryd.func59 (by kernel_rfl) rfl #[.slice A0_1 l0_1.length c0_1, .slice A1_1 l1_1.length c1_1] (by rfl) rfl rfl ga_ ?_
    with_reducible refine (ratio_mul.calls kj2 _ _ l0_1 _ _ l1_1 t297 _ ?side1 ?side2 ?side3 ?side4 A28.out).mono ?_
    (case side1 => exact cU_ (C_below HR0_1.out HB.out))
    (case side2 => exact HC0_1.out)
    (case side3 => exact cU_ (C_below HR1_1.out HB.out))
    (case side4 => exact HC1_1.out)
    rintro e w36 ⟨v298, rfl, ho0, hb⟩
    refine ⟨_, rfl, ?_⟩
    refine nx8_ (V_below (vU_ HO290.out) hb) (V_below (vU_ HO293.out) hb) (V_below (vU_ HO296.out) hb) (V_lower (V_mono (ok' := fun k_ => (w.heap.size ≤ k_) ∧ k_ ≠ gb283 ∧ k_ ≠ gb284 ∧ k_ ≠ gb285) ho0 (fun k_ hk_ => ⟨(Nat.le_trans (below_size sU_) hk_), (freshB (kU_ BK283.out) k_ hk_), (freshB (kU_ BK284.out) k_ hk_), (freshB (kU_ BK285.out) k_ hk_)⟩)) (below_size sU_)) (blk_below (kU_ BK283.out) hb) (blk_below (kU_ BK284.out) hb) (blk_below (kU_ BK285.out) hb) (below_step sU_ hb) ?_
    clear HO290 HO293 HO296 BK283 BK284 BK285 HB
    intro HO290 HO293 HO296 HO299 BK283 BK284 BK285 HB
    (try clear hb)
    (try clear hb2)
    (try clear hk)
    (try clear hi)
    (try clear ho0)
    obtain ⟨Ao37, co37, eo37⟩ := V_slice HO296.out
    (first | subst eo37 | (injection eo37 with f1_ f2_ f3_; have f4_ := f1_.symm; have f5_ := f3_.symm; clear f1_ f2_ f3_; subst f4_; subst f5_))
    obtain ⟨Ao38, co38, eo38⟩ := V_slice HO299.out
    (first | subst eo38 | (injection eo38 with f1_ f2_ f3_; have f4_ := f1_.symm; have f5_ := f3_.symm; clear f1_ f2_ f3_; subst f4_; subst f5_))
    refine hK.out _ _ ⟨bc0_ BK283.out, bc1_ BK283.out, bc0_ BK284.out, bc1_ BK284.out⟩ (fun hHeld => ?_)
    clear hK K
    refine norm_ (a' := ?_) ?_ ?_
    rotate_left
    ·show Act.put _ (some 30) _ = _
     simp only [Act.put, s1_, s2_, s3_, i64_w, i32_w]
     rfl
    refine oq_ 16 31 21 131071 HT_.out fun K hK => ?_
    refine goes_ Tryd.func77 (by kernel_rfl) rfl #[.slice Ao37 t294.length co37, .slice Ao38 t297.length co38] (by rfl) rfl rfl ga_ ?_
    with_reducible refine (ratio_lowest.calls kj2 _ _ t294 _ _ t297 t300 t303 t306 _ ?side1 ?side2 ?side3 ?side4 A29.out).mono ?_
    (case side1 => exact cU_ ((V_reads' HO296.out).2.2))
    (case side2 => exact (V_reads' HO296.out).2.1)
    (case side3 => exact cU_ ((V_reads' HO299.out).2.2))
    (case side4 => exact (V_reads' HO299.out).2.1)
    rintro e w39 ⟨v301, v304, rfl, ho0, ho1, hb⟩
    refine ⟨_, rfl, ?_⟩
    refine nx10_ (V_below (vU_ HO290.out) hb) (V_below (vU_ HO293.out) hb) (V_below (vU_ HO296.out) hb) (V_below (vU_ HO299.out) hb) (V_lower (V_mono (ok' := fun k_ => (w.heap.size ≤ k_) ∧ k_ ≠ gb283 ∧ k_ ≠ gb284 ∧ k_ ≠ gb285) ho0 (fun k_ hk_ => ⟨(Nat.le_trans (below_size sU_) hk_), (freshB (kU_ BK283.out) k_ hk_), (freshB (kU_ BK284.out) k_ hk_), (freshB (kU_ BK285.out) k_ hk_)⟩)) (below_size sU_)) (V_lower (V_mono (ok' := fun k_ => (w.heap.size ≤ k_) ∧ k_ ≠ gb283 ∧ k_ ≠ gb284 ∧ k_ ≠ gb285) ho1 (fun k_ hk_ => ⟨(Nat.le_trans (below_size sU_) hk_), (freshB (kU_ BK283.out) k_ hk_), (freshB (kU_ BK284.out) k_ hk_), (freshB (kU_ BK285.out) k_ hk_)⟩)) (below_size sU_)) (blk_below (kU_ BK283.out) hb) (blk_below (kU_ BK284.out) hb) (blk_below (kU_ BK285.out) hb) (below_step sU_ hb) ?_
    clear HO290 HO293 HO296 HO299 BK283 BK284 BK285 HB
    intro HO290 HO293 HO296 HO299 HO302 HO305 BK283 BK284 BK285 HB
    (try clear hb)
    (try clear hb2)
    (try clear hk)
    (try clear hi)
    (try clear ho0)
    (try clear ho1)
    obtain ⟨Ao40, co40, eo40⟩ := V_slice HO302.out
    (first | subst eo40 | (injection eo40 with f1_ f2_ f3_; have f4_ := f1_.symm; have f5_ := f3_.symm; clear f1_ f2_ f3_; subst f4_; subst f5_))
    obtain ⟨Ao42, co42, eo42⟩ := V_slice HO305.out
    (first | subst eo42 | (injection eo42 with f1_ f2_ f3_; have f4_ := f1_.symm; have f5_ := f3_.symm; clear f1_ f2_ f3_; subst f4_; subst f5_))
    refine hK.out _ _ ⟨bc0_ BK283.out, bc1_ BK283.out, bc0_ BK284.out, bc1_ BK284.out⟩ (fun hHeld => ?_)
    clear hK K
    refine norm_ (a' := ?_) ?_ ?_
    rotate_left
    ·show Act.put _ (some 31) _ = _
     simp only [Act.put, s1_, s2_, s3_, i64_w, i32_w]
     rfl
    refine pq_ 17 32 21 262143 HT_.out ?_
    refine pq_ 18 33 21 524287 HT_.out ?_
    refine one_ (i := 19) (N := none) (bv 21 1048575) rfl rfl (one_of HT_.out (by kernel_rfl)) (by decide) (fun K hK => ?_)
    have hs41 : w39.cell? ⟨gb285, 0, none⟩ = some (.slice none 0 0) := bc0_ BK285.out
    have hfs41 := blk_frozen BK285.out 0
    have hns41_0 := NB283_285.out
    have hns41_1 := NB284_285.out
    have hms41_0 := NB285_283.out
    have hms41_1 := NB285_284.out
    have hs43 : w39.cell? ⟨gb285, 1, none⟩ = some (.slice none 0 0) := bc1_ BK285.out
    have hfs43 := blk_frozen BK285.out 1
    have hns43_0 := NB283_285.out
    have hns43_1 := NB284_285.out
    have hms43_0 := NB285_283.out
    have hms43_1 := NB285_284.out
    refine skip_ (w1 := ?_) (by rfl) rfl ?_ ?_
    rotate_left
    ·go_simp
     rfl
    refine hK.out _ _ ⟨((cell_far (p := ⟨gb285, _, none⟩) NB283_285.out _).trans (((cell_far (p := ⟨gb285, _, none⟩) NB283_285.out _).trans (hHeld.1)))), ((cell_far (p := ⟨gb285, _, none⟩) NB283_285.out _).trans (((cell_far (p := ⟨gb285, _, none⟩) NB283_285.out _).trans (hHeld.2.1)))), ((cell_far (p := ⟨gb285, _, none⟩) NB284_285.out _).trans (((cell_far (p := ⟨gb285, _, none⟩) NB284_285.out _).trans (hHeld.2.2.1)))), ((cell_far (p := ⟨gb285, _, none⟩) NB284_285.out _).trans (((cell_far (p := ⟨gb285, _, none⟩) NB284_285.out _).trans (hHeld.2.2.2))))⟩ (fun hHeld => ?_)
    clear hK K
    refine pq_ 20 5 21 2097151 HT_.out ?_
    refine done_ (done_of HT_.out (by kernel_rfl)) ?_
    try go_wp2
    refine bodyPost_ret (results_ct rfl _ _ gb285 29 #[.slice Ao40 t300.length co40, .slice Ao42 t303.length co42] (0, 0) _ rfl kp_ Tryd.underlying29 rfl (by kernel_rfl)) rfl ?_
    exact ⟨_, _, eW_, by (with_reducible repeat (first | apply Kd.V_alloc | apply Kd.V_drewN | apply V_drew)); exact V_mono (V_far (p := ⟨gb285, 1, none⟩) (V_far (p := ⟨gb285, 0, none⟩) (V_mono HO302.out (fun k_ hk => (⟨hk, hk.2.2.2⟩ : _ ∧ k_ ≠ gb285))) (fun _ hk => hk.2) (.slice Ao40 t300.length co40)) (fun _ hk => hk.2) (.slice Ao42 t303.length co42)) (fun _ hk => hk.1.1), by (with_reducible repeat (first | apply Kd.V_alloc | apply Kd.V_drewN | apply V_drew)); exact V_mono (V_far (p := ⟨gb285, 1, none⟩) (V_far (p := ⟨gb285, 0, none⟩) (V_mono HO305.out (fun k_ hk => (⟨hk, hk.2.2.2⟩ : _ ∧ k_ ≠ gb285))) (fun _ hk => hk.2) (.slice Ao40 t300.length co40)) (fun _ hk => hk.2) (.slice Ao42 t303.length co42)) (fun _ hk => hk.1.1), sU_⟩

def ratio_Of.f (k : Nat) (a0 : Int) (a1 : Int) : Option (List Int × List Int × Int) := (ratio_Nat.f k a0).bind fun t308 => ((ratio_Nat.f k a1).bind fun t311 => ((ratio_New.f k t308 t311).bind fun bt314 => (some (bt314.1, bt314.2.1, bt314.2.2))))
theorem ratio_Of.mono : ∀ a0 a1 k, LeO (ratio_Of.f k a0 a1) (ratio_Of.f (k + 1) a0 a1) := by
 intro a0 a1 k
 unfold ratio_Of.f
 with_reducible repeat' first | apply ratio_Nat.mono | apply ratio_New.mono | exact LeO.refl _ | exact LeO.none _ | refine LeO.ite ?_ ?_ | refine LeO.bind ?_ (fun _ => ?_)
set_option maxHeartbeats 8000000 in
set_option maxRecDepth 100000 in
theorem ratio_Of.calls (k : Nat) (a0 : Int) (a1 : Int) (r1 : List Int) (r2 : List Int) (r3 : Int) (w : World) (h : ratio_Of.f k a0 a1 = some (r1, r2, r3)) :
  Calls Tryd.prog 56 #[.int .u64 a0, .int .u64 a1] w fun e w' => ∃ v0_ v1_ : Value, e = .returned (.tuple #[.agg #[v0_, v1_], .int .i64 r3]) ∧ Kd.V (Kd.int .u32) 44 w' w.heap.size (fun k_ => (w.heap.size ≤ k_)) v0_ r1 ∧ Kd.V (Kd.int .u32) 44 w' w.heap.size (fun k_ => (w.heap.size ≤ k_)) v1_ r2 ∧ Below w.heap.size w w' := by
 have hu29 := Tryd.underlying29
 have HB := ak (Below.refl w.heap.size w)
 have H := h
 clear h
 unfold ratio_Of.f at H
 revert H
 refine bd_ fun t308 A3 H => ?_
 revert H
 refine bd_ fun t311 A4 H => ?_
 revert H
 refine bd3_ fun t314 t317 t320 A5 H => ?_
 try dsimp only at H
 simp only [Option.some.injEq, Prod.mk.injEq] at H
 obtain ⟨rfl, rfl, rfl⟩ := H
 go_enter Tryd.func56, Tryd.ntmps56
 go_wp2_with (first | ((with_reducible refine gate_dst (N := 4) rfl ?_); refine bx_ 4 29 #[.slice none 0 0, .slice none 0 0] ?_; intro gb307 hg w6 hbox hb; refine nx4_ (below_step (bU_ HB.out) hb) (hbox) ((hs_ hg (below_size (bU_ HB.out)))) ((hs_ hg (below_size (bU_ HB.out)))) ?_; clear HB; intro HB BK307 GW307 GE307; clear hb hbox hg) | ((with_reducible refine gate_callee (f := 16) rfl ?_); refine gl_ (some 7) Tryd.func16 #[.int .u64 a0] ?_; (with_reducible refine (ratio_Nat.calls k a0 t308 _ A3.out).mono ?_); rintro e w7 ⟨v309, rfl, ho0, hb⟩; refine ⟨_, rfl, ?_⟩; refine nx3_ (V_lower (V_mono (ok' := fun k_ => (w.heap.size ≤ k_) ∧ k_ ≠ gb307) ho0 (fun k_ hk_ => ⟨(Nat.le_trans (below_size sU_) hk_), (freshB (kU_ BK307.out) k_ hk_)⟩)) (below_size sU_)) (blk_below (kU_ BK307.out) hb) (below_step sU_ hb) ?_; clear BK307 HB; intro HO310 BK307 HB; clear hb ho0) | ((with_reducible refine gate_callee (f := 16) rfl ?_); refine gl_ (some 9) Tryd.func16 #[.int .u64 a1] ?_; (with_reducible refine (ratio_Nat.calls k a1 t311 _ A4.out).mono ?_); rintro e w8 ⟨v312, rfl, ho0, hb⟩; refine ⟨_, rfl, ?_⟩; refine nx4_ (V_below (vU_ HO310.out) hb) (V_lower (V_mono (ok' := fun k_ => (w.heap.size ≤ k_) ∧ k_ ≠ gb307) ho0 (fun k_ hk_ => ⟨(Nat.le_trans (below_size sU_) hk_), (freshB (kU_ BK307.out) k_ hk_)⟩)) (below_size sU_)) (blk_below (kU_ BK307.out) hb) (below_step sU_ hb) ?_; clear HO310 BK307 HB; intro HO310 HO313 BK307 HB; clear hb ho0; obtain ⟨Ao9, co9, eo9⟩ := V_slice HO310.out; subst eo9; obtain ⟨Ao10, co10, eo10⟩ := V_slice HO313.out; subst eo10) | ((with_reducible refine gate_callee (f := 32) rfl ?_); refine gl_ (some 10) Tryd.func32 #[.slice Ao9 t308.length co9, .slice Ao10 t311.length co10] ?_; (with_reducible refine (ratio_New.calls k _ _ t308 _ _ t311 t314 t317 t320 _ ?side1 ?side2 ?side3 ?side4 A5.out).mono ?_); (case side1 => exact cU_ ((V_reads' HO310.out).2.2)); (case side2 => exact (V_reads' HO310.out).2.1); (case side3 => exact cU_ ((V_reads' HO313.out).2.2)); (case side4 => exact (V_reads' HO313.out).2.1); rintro e w11 ⟨v315, v318, rfl, ho0, ho1, hb⟩; refine ⟨_, rfl, ?_⟩; refine nx6_ (V_below (vU_ HO310.out) hb) (V_below (vU_ HO313.out) hb) (V_lower (V_mono (ok' := fun k_ => (w.heap.size ≤ k_) ∧ k_ ≠ gb307) ho0 (fun k_ hk_ => ⟨(Nat.le_trans (below_size sU_) hk_), (freshB (kU_ BK307.out) k_ hk_)⟩)) (below_size sU_)) (V_lower (V_mono (ok' := fun k_ => (w.heap.size ≤ k_) ∧ k_ ≠ gb307) ho1 (fun k_ hk_ => ⟨(Nat.le_trans (below_size sU_) hk_), (freshB (kU_ BK307.out) k_ hk_)⟩)) (below_size sU_)) (blk_below (kU_ BK307.out) hb) (below_step sU_ hb) ?_; clear HO310 HO313 BK307 HB; intro HO310 HO313 HO316 HO319 BK307 HB; clear hb ho0 ho1; obtain ⟨Ao12, co12, eo12⟩ := V_slice HO316.out; subst eo12; have hcz13_0 := bc0_ BK307.out; have hcz13_1 := bc1_ BK307.out; have hfz13_0 := blk_frozen BK307.out 0; have hfz13_1 := blk_frozen BK307.out 1; obtain ⟨Ao14, co14, eo14⟩ := V_slice HO319.out; subst eo14))
 refine bodyPost_ret (results_ct rfl _ _ gb307 29 #[.slice Ao12 t314.length co12, .slice Ao14 t317.length co14] (0, 0) _ rfl kp_ Tryd.underlying29 rfl (by kernel_rfl)) rfl ?_
 exact ⟨_, _, eW_, by (with_reducible repeat (first | apply Kd.V_alloc | apply Kd.V_drewN | apply V_drew)); exact V_mono (V_far (p := ⟨gb307, 1, none⟩) (V_far (p := ⟨gb307, 0, none⟩) (V_mono HO316.out (fun k_ hk => (⟨hk, hk.2⟩ : _ ∧ k_ ≠ gb307))) (fun _ hk => hk.2) (.slice Ao12 t314.length co12)) (fun _ hk => hk.2) (.slice Ao14 t317.length co14)) (fun _ hk => hk.1.1), by (with_reducible repeat (first | apply Kd.V_alloc | apply Kd.V_drewN | apply V_drew)); exact V_mono (V_far (p := ⟨gb307, 1, none⟩) (V_far (p := ⟨gb307, 0, none⟩) (V_mono HO319.out (fun k_ hk => (⟨hk, hk.2⟩ : _ ∧ k_ ≠ gb307))) (fun _ hk => hk.2) (.slice Ao12 t314.length co12)) (fun _ hk => hk.2) (.slice Ao14 t317.length co14)) (fun _ hk => hk.1.1), sU_⟩

end Go.Proofs.YtjjjoepnlhpjdaaDoor.Q
