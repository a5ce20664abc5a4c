/- Qx5, PlainSize, PlainPlace, PlainName, PlainOk, GAt, Qx10, GSat, GTo, GSz, GEq, Qx13 -/
import Derived.Test.YtebcepbamlokcaaDoorBAt1
namespace Go.Proofs.YtebcepbamlokcaaDoor.Q
open Go.RowKit Go.Proofs.YtebcepbamlokcaaDoorW.PrintWords Go.Proofs.YtebcepbamlokcaaDoorW.PrintLast Go.Proofs.YtebcepbamlokcaaDoorW.PrintMore
attribute [local go_sem] max2_int min2_int max_two min_two max_three min_three max_four min_four   -- for this text's walks alone
set_option linter.unusedVariables false
set_option linter.unusedSimpArgs false

theorem qQx5s0_ {P : Prop} (h : P := by repeat (first | (with_reducible first | exact HB.out | apply below_alloc | apply pw_below_drewN | apply below_drew1) | exact HB.out)) : P := h
theorem qQx5s1_ {P : Prop} (h : P := by repeat (first | (with_reducible first | exact HB.out | apply below_alloc | apply pw_below_drewN | apply below_drew1 | refine below_set ?_ GE110.out) | exact HB.out)) : P := h
theorem qQx5s2_ {P : Prop} (h : P := by repeat (first | (with_reducible first | exact HB.out | apply below_alloc | apply pw_below_drewN | apply below_drew1 | refine below_set ?_ GE106.out) | exact HB.out)) : P := h
theorem qQx5s3_ {P : Prop} (h : P := by repeat (first | (with_reducible first | exact HB.out | apply below_alloc | apply pw_below_drewN | apply below_drew1 | refine below_set ?_ GE106.out | refine below_set ?_ GE108.out) | exact HB.out)) : P := h
theorem qQx5s4_ {P : Prop} (h : P := by exact (blk_below (g := gb110) (o := .cells #[.int .i64 a0_0, .int .i64 a0_1, .int .i64 a0_2, .string a0_3, .slice A0_4 l0_4.length c0_4, .slice A0_5 l0_5.length c0_5] 28 (0, 0)) (by (with_reducible repeat (first | refine blk_drewN ?_ _ | refine blk_drew ?_ | refine blk_alloc ?_ _)); exact BK110.out) hb)) : P := h
theorem qQx5s5_ {P : Prop} (h : P := by (with_reducible repeat (first | refine blk_drewN ?_ _ | refine blk_drew ?_ | refine blk_alloc ?_ _)); exact BK106.out) : P := h
theorem qQx5s6_ {P : Prop} (h : P := by repeat (first | exact (Kd.C_below HR0_4.out HB.out) | (with_reducible refine Kd.C_alloc ?_ _) | (with_reducible refine Kd.C_drewN ?_ _) | (with_reducible refine Kd.C_drew ?_))) : P := h
theorem qQx5s7_ {P : Prop} (h : P := by repeat (first | exact (Kd.C_below HR0_5.out HB.out) | (with_reducible refine Kd.C_alloc ?_ _) | (with_reducible refine Kd.C_drewN ?_ _) | (with_reducible refine Kd.C_drew ?_))) : P := h
theorem qQx5s8_ {P : Prop} (h : P := by (try simp only [List.map_toArray, List.map_cons, List.map_nil]); first | done | rfl | (simp only [List.length_drop, List.length_take]; rfl)) : P := h
theorem qQx5s9_ {P : Prop} (h : P := by first | rfl | (simp [errW_none, errW_some] <;> rfl) | (simp [*, errW_none, errW_some] <;> rfl)) : P := h
theorem qQx5s10_ {P : Prop} (h : P := by first | rfl | (simp; done) | (simp [*]; done)) : P := h
theorem qQx5s11_ {P : Prop} (h : P := by first | (go_simp; done) | (go_simp; rfl)) : P := h
/-! ### impl_ValueSize: function 61 -/
mutual
def impl_ValueSize.l0 : Nat → Int → List (S28) → Int → Int → Option (Int)
 | 0, _, _, _, _ => none
 | k + 1, x3, x7, x8, x9 => if x9 < x8 then (if 0 ≤ x9 then (if x9 < (x7.length : Int) then ((impl_ValueSize.f k ((rd_T28 x7 x9).f0) ((rd_T28 x7 x9).f1.f0) ((rd_T28 x7 x9).f1.f1) ((rd_T28 x7 x9).f2) ((rd_T28 x7 x9).f3) ((rd_T28 x7 x9).f4)).bind fun t109 => (impl_ValueSize.l0 k (wrap64 (x3 + t109)) x7 x8 (wrap64 (x9 + 1)))) else (none)) else (none)) else (some x3)
def impl_ValueSize.f : Nat → Int → Int → Int → ByteArray → List (S28) → List ByteArray → Option (Int)
 | 0, _, _, _, _, _, _ => none
 | k + 1, a0_0, a0_1, a0_2, a0_3, l0_4, l0_5 => impl_ValueSize.l0 k 1 l0_4 (l0_4.length : Int) 0
end
theorem impl_ValueSize.mono_l : ∀ k, (∀ y0 y1 y2 y3 y4 y5, LeO (impl_ValueSize.f k y0 y1 y2 y3 y4 y5) (impl_ValueSize.f (k + 1) y0 y1 y2 y3 y4 y5)) ∧ (∀ y0 y1 y2 y3, LeO (impl_ValueSize.l0 k y0 y1 y2 y3) (impl_ValueSize.l0 (k + 1) y0 y1 y2 y3))
 | 0 => ⟨fun _ _ _ _ _ _ r h => by simp [impl_ValueSize.f] at h, fun _ _ _ _ r h => by simp [impl_ValueSize.l0] at h⟩
 | k + 1 => by
  obtain ⟨ih0, ih1⟩ := impl_ValueSize.mono_l k
  refine ⟨?_, ?_⟩
  ·intro y0 y1 y2 y3 y4 y5
   unfold impl_ValueSize.f
   repeat' first
   | (with_reducible exact ih0 _ _ _ _ _ _)
   | (with_reducible exact ih1 _ _ _ _)
   | (with_reducible exact LeO.refl _)
   | (with_reducible exact LeO.none _)
   | (with_reducible refine LeO.ite ?_ ?_)
   | (with_reducible refine LeO.bind ?_ (fun _ => ?_))
   | exact ih0 _ _ _ _ _ _
   | exact ih1 _ _ _ _
   | exact LeO.none _
   | refine LeO.ite ?_ ?_
   | refine LeO.bind ?_ (fun _ => ?_)
  ·intro y0 y1 y2 y3
   unfold impl_ValueSize.l0
   repeat' first
   | (with_reducible exact ih0 _ _ _ _ _ _)
   | (with_reducible exact ih1 _ _ _ _)
   | (with_reducible exact LeO.refl _)
   | (with_reducible exact LeO.none _)
   | (with_reducible refine LeO.ite ?_ ?_)
   | (with_reducible refine LeO.bind ?_ (fun _ => ?_))
   | exact ih0 _ _ _ _ _ _
   | exact ih1 _ _ _ _
   | exact LeO.none _
   | refine LeO.ite ?_ ?_
   | refine LeO.bind ?_ (fun _ => ?_)
theorem impl_ValueSize.mono : ∀ a0 a1 a2 a3 a4 a5 k, LeO (impl_ValueSize.f k a0 a1 a2 a3 a4 a5) (impl_ValueSize.f (k + 1) a0 a1 a2 a3 a4 a5) := by
 intro a0 a1 a2 a3 a4 a5 k
 obtain ⟨ih0, ih1⟩ := impl_ValueSize.mono_l k
 exact ih0 a0 a1 a2 a3 a4 a5
set_option maxHeartbeats 8000000 in
set_option maxRecDepth 100000 in
theorem impl_ValueSize.calls (k : Nat) : ∀ (a0_0 : Int) (a0_1 : Int) (a0_2 : Int) (a0_3 : ByteArray) (A0_4 : Option Addr) (c0_4 : Nat) (l0_4 : List (S28)) (A0_5 : Option Addr) (c0_5 : Nat) (l0_5 : List ByteArray) (r : Int) (w : World) (hr0_4 : Kd.C k28 w A0_4 l0_4.length l0_4) (hc0_4 : l0_4.length ≤ c0_4) (hr0_5 : Kd.C Kd.string w A0_5 l0_5.length l0_5) (hc0_5 : l0_5.length ≤ c0_5) (h : impl_ValueSize.f k a0_0 a0_1 a0_2 a0_3 l0_4 l0_5 = some r),
  Calls Tryd.prog 61 #[.agg #[.int .i64 a0_0, .int .i64 a0_1, .int .i64 a0_2, .string a0_3, .slice A0_4 l0_4.length c0_4, .slice A0_5 l0_5.length c0_5]] w fun e w' => e = .returned (.int .i64 r) ∧ Below w.heap.size w w' := by
 induction k using Nat.strongRecOn with
 | _ k ih =>
 intro a0_0 a0_1 a0_2 a0_3 A0_4 c0_4 l0_4 A0_5 c0_5 l0_5 r w hr0_4 hc0_4 hr0_5 hc0_5 h
 cases k with
 | zero => exact absurd h (by simp [impl_ValueSize.f])
 | succ k =>
 simp only [impl_ValueSize.f] at h
 have hu28 := Tryd.underlying28
 have HR0_4 := Aside0.mk hr0_4
 have HC0_4 := Aside0.mk hc0_4
 clear hr0_4 hc0_4
 have HR0_5 := Aside0.mk hr0_5
 have HC0_5 := Aside0.mk hc0_5
 clear hr0_5 hc0_5
 have HB := Aside0.mk (Below.refl w.heap.size w)
 have H : (impl_ValueSize.l0 k 1 l0_4 (l0_4.length : Int) 0) = some r := h
 clear h
 have H' := Aside0.mk H
 clear H
 go_enter Tryd.func61, Tryd.ntmps61
 go_wp2_with (first | ((with_reducible refine gate_dst (N := 1) rfl ?_); refine box_event ?hg (N := 1) ?hd (cs := #[.int .i64 a0_0, .int .i64 a0_1, .int .i64 a0_2, .string a0_3, .slice A0_4 l0_4.length c0_4, .slice A0_5 l0_5.length c0_5]) (t := 28) ?hr ?_; (case hd => rfl); (case hg => rfl); (case hr => exact qQx5s11_); intro gb106 hg w_ hbox hb; have n0_ := Aside0.mk (below_step qQx5s0_ hb); have n1_ := Aside0.mk (hbox); have n2_ := Aside0.mk ((by rw [hg]; exact (below_size qQx5s0_) : w.heap.size ≤ gb106)); have n3_ := Aside0.mk ((by rw [hg]; exact (below_size qQx5s0_) : w.heap.size ≤ gb106)); clear HB; have HB := n0_; have BK106 := n1_; have GW106 := n2_; have GE106 := n3_; clear n0_ n1_ n2_ n3_ hb hbox hg; have hcz3_0 : w_.cell? ⟨gb106, 0, none⟩ = some (.int .i64 a0_0) := (blk_cell BK106.out 0).trans rfl; have hcz3_1 : w_.cell? ⟨gb106, 1, none⟩ = some (.int .i64 a0_1) := (blk_cell BK106.out 1).trans rfl; have hcz3_2 : w_.cell? ⟨gb106, 2, none⟩ = some (.int .i64 a0_2) := (blk_cell BK106.out 2).trans rfl; have hcz3_3 : w_.cell? ⟨gb106, 3, none⟩ = some (.string a0_3) := (blk_cell BK106.out 3).trans rfl; have hcz3_4 : w_.cell? ⟨gb106, 4, none⟩ = some (.slice A0_4 l0_4.length c0_4) := (blk_cell BK106.out 4).trans rfl; have hcz3_5 : w_.cell? ⟨gb106, 5, none⟩ = some (.slice A0_5 l0_5.length c0_5) := (blk_cell BK106.out 5).trans rfl; have hfz3_0 := blk_frozen BK106.out 0; have hfz3_1 := blk_frozen BK106.out 1; have hfz3_2 := blk_frozen BK106.out 2; have hfz3_3 := blk_frozen BK106.out 3; have hfz3_4 := blk_frozen BK106.out 4; have hfz3_5 := blk_frozen BK106.out 5))
 go_loopg [3, 9] k (fun kq v3 v9 w' => ∃ (x3_1 : Int) (x9_1 : Int), v3 = .int .i64 x3_1 ∧ v9 = .int .i64 x9_1 ∧ Aside0 (impl_ValueSize.l0 kq x3_1 l0_4 (l0_4.length : Int) x9_1 = some r) ∧ Aside0 (kq ≤ k) ∧ Aside0 (w'.heap[gb106]? = some (.cells #[.int .i64 a0_0, .int .i64 a0_1, .int .i64 a0_2, .string a0_3, (.slice A0_4 l0_4.length c0_4), (.slice A0_5 l0_5.length c0_5)] 28 (0, 0))) ∧ Aside0 (Below w.heap.size w w'))
 case atStart => exact ⟨(1), (0), qQx5s10_, qQx5s10_, H', ⟨Nat.le_refl _⟩, ⟨qQx5s5_⟩, ⟨qQx5s2_⟩⟩
 case round =>
  clear H'
  try clear p2
  try clear hcz3_0
  try clear hcz3_1
  try clear hcz3_2
  try clear hcz3_3
  try clear hcz3_4
  try clear hcz3_5
  try clear hfz3_0
  try clear hfz3_1
  try clear hfz3_2
  try clear hfz3_3
  try clear hfz3_4
  try clear hfz3_5
  obtain ⟨x3_1, x9_1, rfl, rfl, HA, HK1, BK106, HB⟩ := hrel
  cases gk with
  | zero => exact absurd HA.out (by simp [impl_ValueSize.l0])
  | succ k1 =>
   have H := HA.out
   clear HA
   simp only [impl_ValueSize.l0] at H
   by_cases c4 : x9_1 < (l0_4.length : Int)
   ·rw [if_pos c4] at H
    have c4b0 : decide (x9_1 < (l0_4.length : Int)) = true := decide_eq_true c4
    clear c4
    by_cases c5 : 0 ≤ x9_1
    ·rw [if_pos c5] at H
     have c5b0 : decide (0 ≤ x9_1) = true := decide_eq_true c5
     have c5q := c5
     clear c5
     by_cases c6 : x9_1 < (l0_4.length : Int)
     ·rw [if_pos c6] at H
      have c6b0 : decide (x9_1 < (l0_4.length : Int)) = true := decide_eq_true c6
      clear c6
      replace H := Option.bind_eq_some_iff.mp H
      obtain ⟨t109, A70, H⟩ := H
      replace H : (impl_ValueSize.l0 k1 (wrap64 (x3_1 + t109)) l0_4 (l0_4.length : Int) (wrap64 (x9_1 + 1))) = some r := H
      have A7 := Aside0.mk A70
      clear A70
      have H' := Aside0.mk H
      clear H
      have p107 : 0 ≤ (x9_1 : Int) := of_decide_eq_true (by first | (with_reducible assumption) | assumption)
      have q107 : x9_1 < (l0_4.length : Int) := of_decide_eq_true (by first | (with_reducible assumption) | assumption)
      obtain ⟨ad107, A107_4, c107_4, A107_5, c107_5, e107, hx107_0, hx107_1, hx107_2, hx107_3, hx107_4, hx107_5, hl107_4, hi107_4, hl107_5, hi107_5⟩ := at_T28 HR0_4.out x9_1 p107 q107
      cases e107
      replace hx107_0 := (HB.out.cell (World.block_lt_of_cell? w _ hx107_0)).trans hx107_0
      replace hx107_1 := (HB.out.cell (World.block_lt_of_cell? w _ hx107_1)).trans hx107_1
      replace hx107_2 := (HB.out.cell (World.block_lt_of_cell? w _ hx107_2)).trans hx107_2
      replace hx107_3 := (HB.out.cell (World.block_lt_of_cell? w _ hx107_3)).trans hx107_3
      replace hx107_4 := (HB.out.cell (World.block_lt_of_cell? w _ hx107_4)).trans hx107_4
      replace hx107_5 := (HB.out.cell (World.block_lt_of_cell? w _ hx107_5)).trans hx107_5
      have HR107_4 := Aside0.mk hi107_4
      have HC107_4 := Aside0.mk hl107_4
      clear hi107_4 hl107_4
      have HR107_5 := Aside0.mk hi107_5
      have HC107_5 := Aside0.mk hl107_5
      clear hi107_5 hl107_5
      replace p107 := eq_true p107
      replace q107 := eq_true q107
      go_wp2_with (first | ((with_reducible refine gate_dst (N := 5) rfl ?_); refine box_event ?hg (N := 5) ?hd (cs := #[.int .i64 0, .int .i64 0, .int .i64 0, .string (⟨#[]⟩ : ByteArray), .slice none 0 0, .slice none 0 0]) (t := 28) ?hr ?_; (case hd => rfl); (case hg => rfl); (case hr => exact qQx5s11_); intro gb108 hg w_ hbox hb; have n0_ := Aside0.mk (blk_below (g := gb106) (o := .cells #[.int .i64 a0_0, .int .i64 a0_1, .int .i64 a0_2, .string a0_3, .slice (some ad107) l0_4.length c0_4, .slice A0_5 l0_5.length c0_5] 28 (0, 0)) qQx5s5_ hb); have n1_ := Aside0.mk (below_step qQx5s2_ hb); have n2_ := Aside0.mk (hbox); have n3_ := Aside0.mk ((by rw [hg]; exact (below_size qQx5s2_) : w.heap.size ≤ gb108)); have n4_ := Aside0.mk ((by rw [hg]; exact (below_size qQx5s2_) : w.heap.size ≤ gb108)); have n5_ := Aside0.mk ((by rw [hg]; exact Nat.ne_of_lt (blk_lt (g := gb106) (o := .cells #[.int .i64 a0_0, .int .i64 a0_1, .int .i64 a0_2, .string a0_3, .slice (some ad107) l0_4.length c0_4, .slice A0_5 l0_5.length c0_5] 28 (0, 0)) qQx5s5_) : gb106 ≠ gb108)); have n6_ := Aside0.mk ((by rw [hg]; exact Nat.ne_of_gt (blk_lt (g := gb106) (o := .cells #[.int .i64 a0_0, .int .i64 a0_1, .int .i64 a0_2, .string a0_3, .slice (some ad107) l0_4.length c0_4, .slice A0_5 l0_5.length c0_5] 28 (0, 0)) qQx5s5_) : gb108 ≠ gb106)); clear BK106 HB; have BK106 := n0_; have HB := n1_; have BK108 := n2_; have GW108 := n3_; have GE108 := n4_; have NB106_108 := n5_; have NB108_106 := n6_; clear n0_ n1_ n2_ n3_ n4_ n5_ n6_ hb hbox hg; have hnb9 := NB108_106.out; have hnc9 := NB106_108.out; have hcz10_0 : w_.cell? ⟨gb108, 0, none⟩ = some (.int .i64 0) := (blk_cell BK108.out 0).trans rfl; have hcz10_1 : w_.cell? ⟨gb108, 1, none⟩ = some (.int .i64 0) := (blk_cell BK108.out 1).trans rfl; have hcz10_2 : w_.cell? ⟨gb108, 2, none⟩ = some (.int .i64 0) := (blk_cell BK108.out 2).trans rfl; have hcz10_3 : w_.cell? ⟨gb108, 3, none⟩ = some (.string (⟨#[]⟩ : ByteArray)) := (blk_cell BK108.out 3).trans rfl; have hcz10_4 : w_.cell? ⟨gb108, 4, none⟩ = some (.slice none 0 0) := (blk_cell BK108.out 4).trans rfl; have hcz10_5 : w_.cell? ⟨gb108, 5, none⟩ = some (.slice none 0 0) := (blk_cell BK108.out 5).trans rfl; have hfz10_0 := blk_frozen BK108.out 0; have hfz10_1 := blk_frozen BK108.out 1; have hfz10_2 := blk_frozen BK108.out 2; have hfz10_3 := blk_frozen BK108.out 3; have hfz10_4 := blk_frozen BK108.out 4; have hfz10_5 := blk_frozen BK108.out 5) | ((with_reducible refine gate_callee (f := 61) rfl ?_); refine goesL_ (some 15) rfl rfl Tryd.func61 (by kernel_rfl) rfl #[.agg #[.int .i64 ((rd_T28 l0_4 x9_1).f0), .int .i64 ((rd_T28 l0_4 x9_1).f1.f0), .int .i64 ((rd_T28 l0_4 x9_1).f1.f1), .string ((rd_T28 l0_4 x9_1).f2), .slice A107_4 ((rd_T28 l0_4 x9_1).f3).length c107_4, .slice A107_5 ((rd_T28 l0_4 x9_1).f4).length c107_5]] rfl qQx5s8_ ?_; (with_reducible refine (ih k1 (by have := HK1.out; omega) ((rd_T28 l0_4 x9_1).f0) ((rd_T28 l0_4 x9_1).f1.f0) ((rd_T28 l0_4 x9_1).f1.f1) ((rd_T28 l0_4 x9_1).f2) _ _ ((rd_T28 l0_4 x9_1).f3) _ _ ((rd_T28 l0_4 x9_1).f4) t109 _ ?side1 ?side2 ?side3 ?side4 A7.out).mono ?_); (case side1 => exact (by exact Kd.C_below HR107_4.out qQx5s3_)); (case side2 => exact (by exact HC107_4.out)); (case side3 => exact (by exact Kd.C_below HR107_5.out qQx5s3_)); (case side4 => exact (by exact HC107_5.out)); rintro e w_ ⟨rfl, hb⟩; refine ⟨_, rfl, ?_⟩; have n0_ := Aside0.mk (blk_below (g := gb106) (o := .cells #[.int .i64 a0_0, .int .i64 a0_1, .int .i64 a0_2, .string a0_3, .slice (some ad107) l0_4.length c0_4, .slice A0_5 l0_5.length c0_5] 28 (0, 0)) (by (with_reducible repeat (first | refine blk_drewN ?_ _ | refine blk_drew ?_ | refine blk_alloc ?_ _)); refine blk_far ?_ NB106_108.out _; (with_reducible repeat (first | refine blk_drewN ?_ _ | refine blk_drew ?_ | refine blk_alloc ?_ _)); refine blk_far ?_ NB106_108.out _; (with_reducible repeat (first | refine blk_drewN ?_ _ | refine blk_drew ?_ | refine blk_alloc ?_ _)); refine blk_far ?_ NB106_108.out _; (with_reducible repeat (first | refine blk_drewN ?_ _ | refine blk_drew ?_ | refine blk_alloc ?_ _)); refine blk_far ?_ NB106_108.out _; (with_reducible repeat (first | refine blk_drewN ?_ _ | refine blk_drew ?_ | refine blk_alloc ?_ _)); refine blk_far ?_ NB106_108.out _; (with_reducible repeat (first | refine blk_drewN ?_ _ | refine blk_drew ?_ | refine blk_alloc ?_ _)); refine blk_far ?_ NB106_108.out _; (with_reducible repeat (first | refine blk_drewN ?_ _ | refine blk_drew ?_ | refine blk_alloc ?_ _)); exact BK106.out) hb); have n1_ := Aside0.mk (blk_below (g := gb108) (o := .cells #[.int .i64 ((rd_T28 l0_4 x9_1).f0), .int .i64 ((rd_T28 l0_4 x9_1).f1.f0), .int .i64 ((rd_T28 l0_4 x9_1).f1.f1), .string ((rd_T28 l0_4 x9_1).f2), .slice A107_4 ((rd_T28 l0_4 x9_1).f3).length c107_4, .slice A107_5 ((rd_T28 l0_4 x9_1).f4).length c107_5] 28 (0, 0)) (by (with_reducible repeat (first | refine blk_drewN ?_ _ | refine blk_drew ?_ | refine blk_alloc ?_ _)); refine blk_put (cs := #[.int .i64 ((rd_T28 l0_4 x9_1).f0), .int .i64 ((rd_T28 l0_4 x9_1).f1.f0), .int .i64 ((rd_T28 l0_4 x9_1).f1.f1), .string ((rd_T28 l0_4 x9_1).f2), .slice A107_4 ((rd_T28 l0_4 x9_1).f3).length c107_4, .slice none 0 0]) ?_ 5 _ rfl; (with_reducible repeat (first | refine blk_drewN ?_ _ | refine blk_drew ?_ | refine blk_alloc ?_ _)); refine blk_put (cs := #[.int .i64 ((rd_T28 l0_4 x9_1).f0), .int .i64 ((rd_T28 l0_4 x9_1).f1.f0), .int .i64 ((rd_T28 l0_4 x9_1).f1.f1), .string ((rd_T28 l0_4 x9_1).f2), .slice none 0 0, .slice none 0 0]) ?_ 4 _ rfl; (with_reducible repeat (first | refine blk_drewN ?_ _ | refine blk_drew ?_ | refine blk_alloc ?_ _)); refine blk_put (cs := #[.int .i64 ((rd_T28 l0_4 x9_1).f0), .int .i64 ((rd_T28 l0_4 x9_1).f1.f0), .int .i64 ((rd_T28 l0_4 x9_1).f1.f1), .string (⟨#[]⟩ : ByteArray), .slice none 0 0, .slice none 0 0]) ?_ 3 _ rfl; (with_reducible repeat (first | refine blk_drewN ?_ _ | refine blk_drew ?_ | refine blk_alloc ?_ _)); refine blk_put (cs := #[.int .i64 ((rd_T28 l0_4 x9_1).f0), .int .i64 ((rd_T28 l0_4 x9_1).f1.f0), .int .i64 0, .string (⟨#[]⟩ : ByteArray), .slice none 0 0, .slice none 0 0]) ?_ 2 _ rfl; (with_reducible repeat (first | refine blk_drewN ?_ _ | refine blk_drew ?_ | refine blk_alloc ?_ _)); refine blk_put (cs := #[.int .i64 ((rd_T28 l0_4 x9_1).f0), .int .i64 0, .int .i64 0, .string (⟨#[]⟩ : ByteArray), .slice none 0 0, .slice none 0 0]) ?_ 1 _ rfl; (with_reducible repeat (first | refine blk_drewN ?_ _ | refine blk_drew ?_ | refine blk_alloc ?_ _)); refine blk_put (cs := #[.int .i64 0, .int .i64 0, .int .i64 0, .string (⟨#[]⟩ : ByteArray), .slice none 0 0, .slice none 0 0]) ?_ 0 _ rfl; (with_reducible repeat (first | refine blk_drewN ?_ _ | refine blk_drew ?_ | refine blk_alloc ?_ _)); exact BK108.out) hb); have n2_ := Aside0.mk (below_step qQx5s3_ hb); clear BK106 BK108 HB; have BK106 := n0_; have BK108 := n1_; have HB := n2_; clear n0_ n1_ n2_; (try clear hb); (try clear hb2); (try clear hk); (try clear hi)))
      go_roundg k1
      case measure => have := HK1.out; omega
      case rel => exact ⟨(wrap64 (x3_1 + t109)), (wrap64 (x9_1 + 1)), qQx5s10_, qQx5s10_, H', ⟨by have := HK1.out; omega⟩, ⟨qQx5s5_⟩, ⟨qQx5s3_⟩⟩
     ·rw [if_neg c6] at H
      exact absurd H (by simp)
    ·rw [if_neg c5] at H
     exact absurd H (by simp)
   ·rw [if_neg c4] at H
    have c4b0 : decide (x9_1 < (l0_4.length : Int)) = false := decide_eq_false c4
    clear c4
    obtain rfl := Option.some.inj H
    go_wp2
    go_ret
    exact ⟨qQx5s9_, qQx5s2_⟩

/-! ### impl_ValueOk: function 21 -/
def impl_ValueOk.f (k : Nat) (a0_0 : Int) (a0_1 : Int) (a0_2 : Int) (a0_3 : ByteArray) (l0_4 : List (S28)) (l0_5 : List ByteArray) : Option (Bool) := (impl_valueOk.f k a0_0 a0_1 a0_2 a0_3 l0_4 l0_5 20).bind fun t111 => (if t111 = true then ((impl_ValueSize.f k a0_0 a0_1 a0_2 a0_3 l0_4 l0_5).bind fun t112 => (some (decide (t112 ≤ 200)))) else (some false))
theorem impl_ValueOk.mono : ∀ a0 a1 a2 a3 a4 a5 k, LeO (impl_ValueOk.f k a0 a1 a2 a3 a4 a5) (impl_ValueOk.f (k + 1) a0 a1 a2 a3 a4 a5) := by
 intro a0 a1 a2 a3 a4 a5 k
 unfold impl_ValueOk.f
 repeat' first
   | (with_reducible exact impl_ValueSize.mono _ _ _ _ _ _ _)
   | (with_reducible exact impl_valueOk.mono _ _ _ _ _ _ _ _)
   | (with_reducible exact LeO.refl _)
   | (with_reducible exact LeO.none _)
   | (with_reducible refine LeO.ite ?_ ?_)
   | (with_reducible refine LeO.bind ?_ (fun _ => ?_))
   | exact impl_ValueSize.mono _ _ _ _ _ _ _
   | exact impl_valueOk.mono _ _ _ _ _ _ _ _
   | exact LeO.none _
   | refine LeO.ite ?_ ?_
   | refine LeO.bind ?_ (fun _ => ?_)
set_option maxHeartbeats 8000000 in
set_option maxRecDepth 100000 in
theorem impl_ValueOk.calls (k : Nat) (a0_0 : Int) (a0_1 : Int) (a0_2 : Int) (a0_3 : ByteArray) (A0_4 : Option Addr) (c0_4 : Nat) (l0_4 : List (S28)) (A0_5 : Option Addr) (c0_5 : Nat) (l0_5 : List ByteArray) (r : Bool) (w : World) (hr0_4 : Kd.C k28 w A0_4 l0_4.length l0_4) (hc0_4 : l0_4.length ≤ c0_4) (hr0_5 : Kd.C Kd.string w A0_5 l0_5.length l0_5) (hc0_5 : l0_5.length ≤ c0_5) (hG : LaidG 2 w) (h : impl_ValueOk.f k a0_0 a0_1 a0_2 a0_3 l0_4 l0_5 = some r) :
  Calls Tryd.prog 21 #[.agg #[.int .i64 a0_0, .int .i64 a0_1, .int .i64 a0_2, .string a0_3, .slice A0_4 l0_4.length c0_4, .slice A0_5 l0_5.length c0_5]] w fun e w' => e = .returned (.bool r) ∧ Below w.heap.size w w' := by
 have hu28 := Tryd.underlying28
 have HR0_4 := Aside0.mk hr0_4
 have HC0_4 := Aside0.mk hc0_4
 clear hr0_4 hc0_4
 have HR0_5 := Aside0.mk hr0_5
 have HC0_5 := Aside0.mk hc0_5
 clear hr0_5 hc0_5
 have HGL := Aside0.mk hG
 clear hG
 have HB := Aside0.mk (Below.refl w.heap.size w)
 have H : ((impl_valueOk.f k a0_0 a0_1 a0_2 a0_3 l0_4 l0_5 20).bind fun t111 => (if t111 = true then ((impl_ValueSize.f k a0_0 a0_1 a0_2 a0_3 l0_4 l0_5).bind fun t112 => (some (decide (t112 ≤ 200)))) else (some false))) = some r := h
 clear h
 replace H := Option.bind_eq_some_iff.mp H
 obtain ⟨t111, A20, H⟩ := H
 replace H : (if t111 = true then ((impl_ValueSize.f k a0_0 a0_1 a0_2 a0_3 l0_4 l0_5).bind fun t112 => (some (decide (t112 ≤ 200)))) else (some false)) = some r := H
 have A2 := Aside0.mk A20
 clear A20
 by_cases c3 : t111 = true
 ·subst c3
  have H1 : ((impl_ValueSize.f k a0_0 a0_1 a0_2 a0_3 l0_4 l0_5).bind fun t112 => (some (decide (t112 ≤ 200)))) = some r := by rw [if_pos rfl] at H; exact H
  clear H
  have H := H1
  clear H1
  replace H := Option.bind_eq_some_iff.mp H
  obtain ⟨t112, A40, H⟩ := H
  replace H : (some (decide (t112 ≤ 200))) = some r := H
  have A4 := Aside0.mk A40
  clear A40
  obtain rfl := Option.some.inj H
  go_enter Tryd.func21, Tryd.ntmps21
  go_wp2_with (first | ((with_reducible refine gate_dst (N := 1) rfl ?_); refine box_event ?hg (N := 1) ?hd (cs := #[.int .i64 a0_0, .int .i64 a0_1, .int .i64 a0_2, .string a0_3, .slice A0_4 l0_4.length c0_4, .slice A0_5 l0_5.length c0_5]) (t := 28) ?hr ?_; (case hd => rfl); (case hg => rfl); (case hr => exact qQx5s11_); intro gb110 hg w_ hbox hb; have n0_ := Aside0.mk (below_step qQx5s0_ hb); have n1_ := Aside0.mk (hbox); have n2_ := Aside0.mk ((by rw [hg]; exact (below_size qQx5s0_) : w.heap.size ≤ gb110)); have n3_ := Aside0.mk ((by rw [hg]; exact (below_size qQx5s0_) : w.heap.size ≤ gb110)); clear HB; have HB := n0_; have BK110 := n1_; have GW110 := n2_; have GE110 := n3_; clear n0_ n1_ n2_ n3_ hb hbox hg; have hcz6_0 : w_.cell? ⟨gb110, 0, none⟩ = some (.int .i64 a0_0) := (blk_cell BK110.out 0).trans rfl; have hcz6_1 : w_.cell? ⟨gb110, 1, none⟩ = some (.int .i64 a0_1) := (blk_cell BK110.out 1).trans rfl; have hcz6_2 : w_.cell? ⟨gb110, 2, none⟩ = some (.int .i64 a0_2) := (blk_cell BK110.out 2).trans rfl; have hcz6_3 : w_.cell? ⟨gb110, 3, none⟩ = some (.string a0_3) := (blk_cell BK110.out 3).trans rfl; have hcz6_4 : w_.cell? ⟨gb110, 4, none⟩ = some (.slice A0_4 l0_4.length c0_4) := (blk_cell BK110.out 4).trans rfl; have hcz6_5 : w_.cell? ⟨gb110, 5, none⟩ = some (.slice A0_5 l0_5.length c0_5) := (blk_cell BK110.out 5).trans rfl; have hfz6_0 := blk_frozen BK110.out 0; have hfz6_1 := blk_frozen BK110.out 1; have hfz6_2 := blk_frozen BK110.out 2; have hfz6_3 := blk_frozen BK110.out 3; have hfz6_4 := blk_frozen BK110.out 4; have hfz6_5 := blk_frozen BK110.out 5) | ((with_reducible refine gate_callee (f := 60) rfl ?_); refine goesL_ (some 4) rfl rfl Tryd.func60 (by kernel_rfl) rfl #[.agg #[.int .i64 a0_0, .int .i64 a0_1, .int .i64 a0_2, .string a0_3, .slice A0_4 l0_4.length c0_4, .slice A0_5 l0_5.length c0_5], .int .i64 20] rfl qQx5s8_ ?_; (with_reducible refine (impl_valueOk.calls k a0_0 a0_1 a0_2 a0_3 _ _ l0_4 _ _ l0_5 20 true _ ?side1 ?side2 ?side3 ?side4 ?side5 A2.out).mono ?_); (case side1 => exact qQx5s6_); (case side2 => exact (by exact HC0_4.out)); (case side3 => exact qQx5s7_); (case side4 => exact (by exact HC0_5.out)); (case side5 => exact (by exact LaidG.below (m := 2) (by decide) HGL.out qQx5s1_)); rintro e w_ ⟨rfl, hb⟩; refine ⟨_, rfl, ?_⟩; have n0_ := Aside0.mk qQx5s4_; have n1_ := Aside0.mk (below_step qQx5s1_ hb); clear BK110 HB; have BK110 := n0_; have HB := n1_; clear n0_ n1_; (try clear hb); (try clear hb2); (try clear hk); (try clear hi); have hcz8_0 : w_.cell? ⟨gb110, 0, none⟩ = some (.int .i64 a0_0) := (blk_cell BK110.out 0).trans rfl; have hcz8_1 : w_.cell? ⟨gb110, 1, none⟩ = some (.int .i64 a0_1) := (blk_cell BK110.out 1).trans rfl; have hcz8_2 : w_.cell? ⟨gb110, 2, none⟩ = some (.int .i64 a0_2) := (blk_cell BK110.out 2).trans rfl; have hcz8_3 : w_.cell? ⟨gb110, 3, none⟩ = some (.string a0_3) := (blk_cell BK110.out 3).trans rfl; have hcz8_4 : w_.cell? ⟨gb110, 4, none⟩ = some (.slice A0_4 l0_4.length c0_4) := (blk_cell BK110.out 4).trans rfl; have hcz8_5 : w_.cell? ⟨gb110, 5, none⟩ = some (.slice A0_5 l0_5.length c0_5) := (blk_cell BK110.out 5).trans rfl; have hfz8_0 := blk_frozen BK110.out 0; have hfz8_1 := blk_frozen BK110.out 1; have hfz8_2 := blk_frozen BK110.out 2; have hfz8_3 := blk_frozen BK110.out 3; have hfz8_4 := blk_frozen BK110.out 4; have hfz8_5 := blk_frozen BK110.out 5) | (go_at_call 61; (with_reducible refine (impl_ValueSize.calls k a0_0 a0_1 a0_2 a0_3 _ _ l0_4 _ _ l0_5 t112 _ ?side1 ?side2 ?side3 ?side4 A4.out).mono ?_); (case side1 => exact qQx5s6_); (case side2 => exact (by exact HC0_4.out)); (case side3 => exact qQx5s7_); (case side4 => exact (by exact HC0_5.out)); rintro e w_ ⟨rfl, hb⟩; have n0_ := Aside0.mk qQx5s4_; have n1_ := Aside0.mk (below_step qQx5s1_ hb); clear BK110 HB; have BK110 := n0_; have HB := n1_; clear n0_ n1_; (try clear hb); (try clear hb2); (try clear hk); (try clear hi)))
  go_ret
  exact ⟨qQx5s9_, qQx5s1_⟩
 ·replace c3 := Bool.eq_false_iff.mpr c3
  subst c3
  have H1 : (some false) = some r := by rw [if_neg (show ¬ (false = true) by decide)] at H; exact H
  clear H
  have H := H1
  clear H1
  obtain rfl := Option.some.inj H
  go_enter Tryd.func21, Tryd.ntmps21
  go_wp2_with (first | ((with_reducible refine gate_dst (N := 1) rfl ?_); refine box_event ?hg (N := 1) ?hd (cs := #[.int .i64 a0_0, .int .i64 a0_1, .int .i64 a0_2, .string a0_3, .slice A0_4 l0_4.length c0_4, .slice A0_5 l0_5.length c0_5]) (t := 28) ?hr ?_; (case hd => rfl); (case hg => rfl); (case hr => exact qQx5s11_); intro gb110 hg w_ hbox hb; have n0_ := Aside0.mk (below_step qQx5s0_ hb); have n1_ := Aside0.mk (hbox); have n2_ := Aside0.mk ((by rw [hg]; exact (below_size qQx5s0_) : w.heap.size ≤ gb110)); have n3_ := Aside0.mk ((by rw [hg]; exact (below_size qQx5s0_) : w.heap.size ≤ gb110)); clear HB; have HB := n0_; have BK110 := n1_; have GW110 := n2_; have GE110 := n3_; clear n0_ n1_ n2_ n3_ hb hbox hg; have hcz11_0 : w_.cell? ⟨gb110, 0, none⟩ = some (.int .i64 a0_0) := (blk_cell BK110.out 0).trans rfl; have hcz11_1 : w_.cell? ⟨gb110, 1, none⟩ = some (.int .i64 a0_1) := (blk_cell BK110.out 1).trans rfl; have hcz11_2 : w_.cell? ⟨gb110, 2, none⟩ = some (.int .i64 a0_2) := (blk_cell BK110.out 2).trans rfl; have hcz11_3 : w_.cell? ⟨gb110, 3, none⟩ = some (.string a0_3) := (blk_cell BK110.out 3).trans rfl; have hcz11_4 : w_.cell? ⟨gb110, 4, none⟩ = some (.slice A0_4 l0_4.length c0_4) := (blk_cell BK110.out 4).trans rfl; have hcz11_5 : w_.cell? ⟨gb110, 5, none⟩ = some (.slice A0_5 l0_5.length c0_5) := (blk_cell BK110.out 5).trans rfl; have hfz11_0 := blk_frozen BK110.out 0; have hfz11_1 := blk_frozen BK110.out 1; have hfz11_2 := blk_frozen BK110.out 2; have hfz11_3 := blk_frozen BK110.out 3; have hfz11_4 := blk_frozen BK110.out 4; have hfz11_5 := blk_frozen BK110.out 5) | ((with_reducible refine gate_callee (f := 60) rfl ?_); refine goesL_ (some 4) rfl rfl Tryd.func60 (by kernel_rfl) rfl #[.agg #[.int .i64 a0_0, .int .i64 a0_1, .int .i64 a0_2, .string a0_3, .slice A0_4 l0_4.length c0_4, .slice A0_5 l0_5.length c0_5], .int .i64 20] rfl qQx5s8_ ?_; (with_reducible refine (impl_valueOk.calls k a0_0 a0_1 a0_2 a0_3 _ _ l0_4 _ _ l0_5 20 false _ ?side1 ?side2 ?side3 ?side4 ?side5 A2.out).mono ?_); (case side1 => exact qQx5s6_); (case side2 => exact (by exact HC0_4.out)); (case side3 => exact qQx5s7_); (case side4 => exact (by exact HC0_5.out)); (case side5 => exact (by exact LaidG.below (m := 2) (by decide) HGL.out qQx5s1_)); rintro e w_ ⟨rfl, hb⟩; refine ⟨_, rfl, ?_⟩; have n0_ := Aside0.mk qQx5s4_; have n1_ := Aside0.mk (below_step qQx5s1_ hb); clear BK110 HB; have BK110 := n0_; have HB := n1_; clear n0_ n1_; (try clear hb); (try clear hb2); (try clear hk); (try clear hi)))
  go_ret
  exact ⟨qQx5s9_, qQx5s1_⟩

end Go.Proofs.YtebcepbamlokcaaDoor.Q
namespace Go.Proofs.YtebcepbamlokcaaDoor.Q
open Go.RowKit Go.Proofs.YtebcepbamlokcaaDoorW.PrintWords Go.Proofs.YtebcepbamlokcaaDoorW.PrintLast Go.Proofs.YtebcepbamlokcaaDoorW.PrintMore
set_option linter.unusedVariables false
set_option linter.unusedSimpArgs false

theorem rdT {xs : List S28} {i : Nat} (hi : i < xs.length) : rd_T28 xs (i : Int) = xs[i] := by
  unfold rd_T28; rw [Int.toNat_natCast, List.getD_eq_getElem?_getD, List.getElem?_eq_getElem hi]; rfl
theorem w64p {n : Int} (h0 : -9223372036854775808 ≤ n) (h1 : n ≤ 9223372036854775807) : wrap64 n = n := by unfold wrap64; omega
theorem w64s {i : Nat} (h : i < 9223372036854775807) : wrap64 ((i : Int) + 1) = ((i + 1 : Nat) : Int) := by rw [w64p (by omega) (by omega)]; omega

/-- Rounds enough for a row. -/
def fu : Nat → List S28 → Nat
  | 0, _ => 3
  | e + 1, xs => xs.length + 3 + (xs.map (fun x => fu e x.f3)).sum
theorem le_sum_map {α : Type} (f : α → Nat) : ∀ {l : List α} {a : α}, a ∈ l → f a ≤ (l.map f).sum
  | b :: r, a, h => by
    rw [List.map_cons, List.sum_cons]
    rcases List.mem_cons.1 h with rfl | h
    · omega
    · have := le_sum_map f h; omega

/-- How many values. -/
def szT : Nat → S28 → Nat
  | 0, _ => 1
  | e + 1, x => 1 + (x.f3.map (szT e)).sum
/-- How deep. -/
def mxT (f : S28 → Nat) : List S28 → Nat
  | [] => 0
  | x :: r => max (f x) (mxT f r)
def dpT : Nat → S28 → Nat
  | 0, _ => 1
  | e + 1, x => mxT (dpT e) x.f3 + 1

theorem specSize_step (x : S28) (S Fu : S28 → Nat) (hk : ∀ y ∈ x.f3, ∀ k, Fu y ≤ k → spec_ValueSize.f k y.f0 y.f1.f0 y.f1.f1 y.f2 y.f3 y.f4 = some (S y : Int)) (hb : 1 + (x.f3.map S).sum ≤ 1099511627776) (hl : x.f3.length ≤ 1099511627776) :
    ∀ k, x.f3.length + 2 + (x.f3.map Fu).sum ≤ k → spec_ValueSize.f k x.f0 x.f1.f0 x.f1.f1 x.f2 x.f3 x.f4 = some ((1 + (x.f3.map S).sum : Nat) : Int) := by
  have hloop : ∀ (n i : Nat) (acc : Nat), i + n = x.f3.length → acc + ((x.f3.drop i).map S).sum ≤ 1099511627776 → ∀ k, n + 1 + (x.f3.map Fu).sum ≤ k → spec_ValueSize.l0 k (acc : Int) (i : Int) x.f0 x.f1.f0 x.f1.f1 x.f2 x.f3 x.f4 = some ((acc + ((x.f3.drop i).map S).sum : Nat) : Int) := by
    intro n
    induction n with
    | zero =>
      intro i acc hi hs k hk'
      obtain ⟨k, rfl⟩ : ∃ m, k = m + 1 := ⟨k - 1, by omega⟩
      rw [spec_ValueSize.l0, if_neg (by omega), List.drop_of_length_le (by omega)]; simp
    | succ n ih =>
      intro i acc hi hs k hk'
      obtain ⟨k, rfl⟩ : ∃ m, k = m + 1 := ⟨k - 1, by omega⟩
      have hlt : i < x.f3.length := by omega
      have hd : x.f3.drop i = x.f3[i] :: x.f3.drop (i + 1) := List.drop_eq_getElem_cons hlt
      rw [hd, List.map_cons, List.sum_cons] at hs
      have hm := List.getElem_mem hlt
      have hF := le_sum_map Fu hm
      rw [spec_ValueSize.l0, if_pos (by omega), if_pos (by omega), rdT hlt, hk _ hm k (by omega)]
      simp only [Option.bind_some]
      rw [w64s (by omega), w64p (by omega) (by omega)]
      have := ih (i + 1) (acc + S x.f3[i]) (by omega) (by omega) k (by omega)
      rw [show ((acc : Int) + (S x.f3[i] : Int)) = ((acc + S x.f3[i] : Nat) : Int) by omega, this, hd, List.map_cons, List.sum_cons]
      congr 2; omega
  intro k hk'
  obtain ⟨k, rfl⟩ : ∃ m, k = m + 1 := ⟨k - 1, by omega⟩
  have := hloop x.f3.length 0 1 (by omega) (by rw [List.drop_zero]; omega) k (by omega)
  rw [List.drop_zero] at this
  rw [spec_ValueSize.f]
  exact this
theorem specSize : ∀ (e : Nat) (x : S28), Fit e x.f3 → szT e x ≤ 1099511627776 → ∀ k, fu e x.f3 ≤ k → spec_ValueSize.f k x.f0 x.f1.f0 x.f1.f1 x.f2 x.f3 x.f4 = some (szT e x : Int)
  | 0, x, hf, _, k, hk => by
    have hx : x.f3 = [] := hf
    have := specSize_step x (fun _ => 0) (fun _ => 0) (by rw [hx]; simp) (by rw [hx]; simp) (by rw [hx]; simp) k (by rw [hx]; simp; unfold fu at hk; omega)
    rw [this, hx]; rfl
  | e + 1, x, hf, hs, k, hk => by
    have hs' : 1 + (x.f3.map (szT e)).sum ≤ 1099511627776 := hs
    refine specSize_step x (szT e) (fun y => fu e y.f3) (fun y hy k hk => specSize e y (hf.2 y hy).2 ?_ k hk) hs' (Nat.le_trans hf.1 (by decide)) k (by unfold fu at hk; omega)
    have := le_sum_map (szT e) hy; omega

theorem implSize_step (x : S28) (S Fu : S28 → Nat) (hk : ∀ y ∈ x.f3, ∀ k, Fu y ≤ k → impl_ValueSize.f k y.f0 y.f1.f0 y.f1.f1 y.f2 y.f3 y.f4 = some (S y : Int)) (hb : 1 + (x.f3.map S).sum ≤ 1099511627776) (hl : x.f3.length ≤ 1099511627776) :
    ∀ k, x.f3.length + 2 + (x.f3.map Fu).sum ≤ k → impl_ValueSize.f k x.f0 x.f1.f0 x.f1.f1 x.f2 x.f3 x.f4 = some ((1 + (x.f3.map S).sum : Nat) : Int) := by
  have hloop : ∀ (n i : Nat) (acc : Nat), i + n = x.f3.length → acc + ((x.f3.drop i).map S).sum ≤ 1099511627776 → ∀ k, n + 1 + (x.f3.map Fu).sum ≤ k → impl_ValueSize.l0 k (acc : Int) x.f3 (x.f3.length : Int) (i : Int) = some ((acc + ((x.f3.drop i).map S).sum : Nat) : Int) := by
    intro n
    induction n with
    | zero =>
      intro i acc hi hs k hk'
      obtain ⟨k, rfl⟩ : ∃ m, k = m + 1 := ⟨k - 1, by omega⟩
      rw [impl_ValueSize.l0, if_neg (by omega), List.drop_of_length_le (by omega)]; simp
    | succ n ih =>
      intro i acc hi hs k hk'
      obtain ⟨k, rfl⟩ : ∃ m, k = m + 1 := ⟨k - 1, by omega⟩
      have hlt : i < x.f3.length := by omega
      have hd : x.f3.drop i = x.f3[i] :: x.f3.drop (i + 1) := List.drop_eq_getElem_cons hlt
      rw [hd, List.map_cons, List.sum_cons] at hs
      have hm := List.getElem_mem hlt
      have hF := le_sum_map Fu hm
      rw [impl_ValueSize.l0, if_pos (by omega), if_pos (by omega), if_pos (by omega), rdT hlt, hk _ hm k (by omega)]
      simp only [Option.bind_some]
      rw [w64s (by omega), w64p (by omega) (by omega)]
      have := ih (i + 1) (acc + S x.f3[i]) (by omega) (by omega) k (by omega)
      rw [show ((acc : Int) + (S x.f3[i] : Int)) = ((acc + S x.f3[i] : Nat) : Int) by omega, this, hd, List.map_cons, List.sum_cons]
      congr 2; omega
  intro k hk'
  obtain ⟨k, rfl⟩ : ∃ m, k = m + 1 := ⟨k - 1, by omega⟩
  have := hloop x.f3.length 0 1 (by omega) (by rw [List.drop_zero]; omega) k (by omega)
  rw [List.drop_zero] at this
  rw [impl_ValueSize.f]
  exact this
theorem implSize : ∀ (e : Nat) (x : S28), Fit e x.f3 → szT e x ≤ 1099511627776 → ∀ k, fu e x.f3 ≤ k → impl_ValueSize.f k x.f0 x.f1.f0 x.f1.f1 x.f2 x.f3 x.f4 = some (szT e x : Int)
  | 0, x, hf, _, k, hk => by
    have hx : x.f3 = [] := hf
    have := implSize_step x (fun _ => 0) (fun _ => 0) (by rw [hx]; simp) (by rw [hx]; simp) (by rw [hx]; simp) k (by rw [hx]; simp; unfold fu at hk; omega)
    rw [this, hx]; rfl
  | e + 1, x, hf, hs, k, hk => by
    have hs' : 1 + (x.f3.map (szT e)).sum ≤ 1099511627776 := hs
    refine implSize_step x (szT e) (fun y => fu e y.f3) (fun y hy k hk => implSize e y (hf.2 y hy).2 ?_ k hk) hs' (Nat.le_trans hf.1 (by decide)) k (by unfold fu at hk; omega)
    have := le_sum_map (szT e) hy; omega

theorem mxT_le (f : S28 → Nat) : ∀ {l : List S28} {n : Nat}, (∀ y ∈ l, f y ≤ n) → mxT f l ≤ n
  | [], n, _ => Nat.zero_le n
  | x :: r, n, h => by
    show max (f x) (mxT f r) ≤ n
    have h1 := h x List.mem_cons_self
    have h2 := mxT_le f (l := r) (fun y hy => h y (List.mem_cons_of_mem _ hy))
    omega
theorem le_mxT (f : S28 → Nat) : ∀ {l : List S28} {y : S28}, y ∈ l → f y ≤ mxT f l
  | x :: r, y, h => by
    show f y ≤ max (f x) (mxT f r)
    rcases List.mem_cons.1 h with rfl | h
    · omega
    · have := le_mxT f h; omega
theorem mxT_append (f : S28 → Nat) : ∀ (l r : List S28), mxT f (l ++ r) = max (mxT f l) (mxT f r)
  | [], r => by rw [List.nil_append]; show mxT f r = max 0 (mxT f r); omega
  | x :: l, r => by rw [List.cons_append]; show max (f x) (mxT f (l ++ r)) = max (max (f x) (mxT f l)) (mxT f r); rw [mxT_append f l r]; omega

theorem specDeep_step (x : S28) (S Fu : S28 → Nat) (hk : ∀ y ∈ x.f3, ∀ k, Fu y ≤ k → spec_l7Deep.f k y.f0 y.f1.f0 y.f1.f1 y.f2 y.f3 y.f4 = some (S y : Int)) (hb : ∀ y ∈ x.f3, S y ≤ 1099511627776) (hl : x.f3.length ≤ 1099511627776) :
    ∀ k, x.f3.length + 2 + (x.f3.map Fu).sum ≤ k → spec_l7Deep.f k x.f0 x.f1.f0 x.f1.f1 x.f2 x.f3 x.f4 = some ((mxT S x.f3 + 1 : Nat) : Int) := by
  have hloop : ∀ (n i : Nat) (acc : Nat), i + n = x.f3.length → acc ≤ 1099511627776 → ∀ k, n + 1 + (x.f3.map Fu).sum ≤ k → spec_l7Deep.l0 k (acc : Int) (i : Int) x.f0 x.f1.f0 x.f1.f1 x.f2 x.f3 x.f4 = some ((max acc (mxT S (x.f3.drop i)) + 1 : Nat) : Int) := by
    intro n
    induction n with
    | zero =>
      intro i acc hi hs k hk'
      obtain ⟨k, rfl⟩ : ∃ m, k = m + 1 := ⟨k - 1, by omega⟩
      rw [spec_l7Deep.l0, if_neg (by omega), List.drop_of_length_le (by omega), w64p (by omega) (by omega)]
      unfold mxT
      congr 1; omega
    | succ n ih =>
      intro i acc hi hs k hk'
      obtain ⟨k, rfl⟩ : ∃ m, k = m + 1 := ⟨k - 1, by omega⟩
      have hlt : i < x.f3.length := by omega
      have hd : x.f3.drop i = x.f3[i] :: x.f3.drop (i + 1) := List.drop_eq_getElem_cons hlt
      have hm := List.getElem_mem hlt
      have hF := le_sum_map Fu hm
      have hS := hb _ hm
      rw [spec_l7Deep.l0, if_pos (by omega), if_pos (by omega), rdT hlt, hk _ hm k (by omega)]
      simp only [Option.bind_some]
      rw [w64s (by omega), hd, show mxT S (x.f3[i] :: x.f3.drop (i + 1)) = max (S x.f3[i]) (mxT S (x.f3.drop (i + 1))) from rfl]
      by_cases hg : (S x.f3[i] : Int) > (acc : Int)
      · rw [if_pos hg, ih (i + 1) (S x.f3[i]) (by omega) hS k (by omega)]
        congr 1; omega
      · rw [if_neg hg, ih (i + 1) acc (by omega) hs k (by omega)]
        congr 1; omega
  intro k hk'
  obtain ⟨k, rfl⟩ : ∃ m, k = m + 1 := ⟨k - 1, by omega⟩
  have := hloop x.f3.length 0 0 (by omega) (by omega) k (by omega)
  rw [List.drop_zero] at this
  rw [spec_l7Deep.f]
  rw [show ((0 : Int)) = ((0 : Nat) : Int) from rfl, this, Nat.zero_max]
theorem dpT_le : ∀ (e : Nat) (x : S28), dpT e x ≤ szT e x
  | 0, _ => Nat.le_refl _
  | e + 1, x => by
    show mxT (dpT e) x.f3 + 1 ≤ 1 + (x.f3.map (szT e)).sum
    have := mxT_le (dpT e) (l := x.f3) (n := (x.f3.map (szT e)).sum) (fun y hy => Nat.le_trans (dpT_le e y) (le_sum_map (szT e) hy)); omega
theorem specDeep : ∀ (e : Nat) (x : S28), szT e x ≤ 1099511627776 → Fit e x.f3 → ∀ k, fu e x.f3 ≤ k → spec_l7Deep.f k x.f0 x.f1.f0 x.f1.f1 x.f2 x.f3 x.f4 = some (dpT e x : Int)
  | 0, x, _, hf, k, hk => by
    have hx : x.f3 = [] := hf
    have := specDeep_step x (fun _ => 0) (fun _ => 0) (by rw [hx]; simp) (by rw [hx]; simp) (by rw [hx]; simp) k (by rw [hx]; simp; unfold fu at hk; omega)
    rw [this, hx]; rfl
  | e + 1, x, hs, hf, k, hk => by
    have hs' : 1 + (x.f3.map (szT e)).sum ≤ 1099511627776 := hs
    have hy0 : ∀ y ∈ x.f3, szT e y ≤ 1099511627776 := fun y hy => by have := le_sum_map (szT e) hy; omega
    exact specDeep_step x (dpT e) (fun y => fu e y.f3) (fun y hy k hk => specDeep e y (hy0 y hy) (hf.2 y hy).2 k hk) (fun y hy => Nat.le_trans (dpT_le e y) (hy0 y hy)) (Nat.le_trans hf.1 (by decide)) k (by unfold fu at hk; omega)
end Go.Proofs.YtebcepbamlokcaaDoor.Q
namespace Go.Proofs.YtebcepbamlokcaaDoor.Q
open Go.RowKit Go.Proofs.YtebcepbamlokcaaDoorW.PrintWords Go.Proofs.YtebcepbamlokcaaDoorW.PrintLast Go.Proofs.YtebcepbamlokcaaDoorW.PrintMore
set_option linter.unusedVariables false
set_option linter.unusedSimpArgs false

/-- A step's place. -/
def plP (x : S28) (s : ByteArray) : Int := if x.f0 = 6 then idxI s 0 x.f4 else placeB x.f0 x.f3.length s
theorem idxI_lt (s : ByteArray) : ∀ (l : List ByteArray) (i : Nat), idxI s i l < ((i + l.length : Nat) : Int)
  | [], i => by unfold idxI; omega
  | y :: r, i => by
    unfold idxI
    rw [List.length_cons]
    split
    · omega
    · have := idxI_lt s r (i + 1); omega
theorem placeB_lt (kind : Int) (n : Nat) (s : ByteArray) : placeB kind n s < (n : Int) := by
  unfold placeB
  split
  · rename_i h; exact h.2.2.2.1
  · omega
theorem plP_lt (x : S28) (s : ByteArray) (h : x.f0 = 6 → x.f4.length = x.f3.length) : plP x s < (x.f3.length : Int) := by
  unfold plP
  split
  · rename_i h6
    have := idxI_lt s x.f4 0
    rw [h h6] at this
    omega
  · exact placeB_lt _ _ _
theorem impl_place_is (x : S28) (s : ByteArray) (h3 : x.f3.length ≤ 140737488355328) (h4 : x.f4.length ≤ 140737488355328) (hs : s.size ≤ 281474976710656) : impl_Value_place.f x.f0 x.f1.f0 x.f1.f1 x.f2 x.f3 x.f4 s = some (plP x s) := by
  unfold impl_Value_place.f plP
  by_cases h6 : x.f0 = 6
  · rw [if_pos h6, if_pos h6, if_pos h4]
  · rw [if_neg h6, if_neg h6, if_pos ⟨hs, h3⟩]

theorem step_l0 (x : S28) (s : ByteArray) (hl : x.f4.length ≤ 140737488355328) : ∀ (n i : Nat), i + n = x.f4.length → ∀ k, n < k → spec_l13Step.l0 k s (i : Int) x.f0 x.f1.f0 x.f1.f1 x.f2 x.f3 x.f4 = some (idxI s i (x.f4.drop i))
  | _, _, _, 0, hk => absurd hk (by omega)
  | 0, i, hi, k + 1, hk => by
    rw [spec_l13Step.l0, if_neg (by omega), List.drop_of_length_le (by omega)]; rfl
  | n + 1, i, hi, k + 1, hk => by
    have hlt : i < x.f4.length := by omega
    have e : rdOf ByteArray.empty x.f4 (i : Int) = x.f4[i] := by
      unfold rdOf
      rw [Int.toNat_natCast, List.getD_eq_getElem?_getD, List.getElem?_eq_getElem hlt]; rfl
    rw [spec_l13Step.l0, if_pos (by omega), if_pos (by omega), e, List.drop_eq_getElem_cons hlt, idxI]
    by_cases hx : x.f4[i].toList = s.toList
    · rw [if_pos hx, if_pos hx.symm]
    · rw [if_neg hx, if_neg (fun h => hx h.symm), w64s (by omega)]
      exact step_l0 x s hl n (i + 1) (by omega) k (by omega)
/-- The first number from i on, of n, whose text it is. -/
def dgI (s : ByteArray) : Nat → Nat → Int
  | _, 0 => -1
  | i, n + 1 => if Lib.decDigits i = s.toList then (i : Int) else dgI s (i + 1) n
theorem step_l1 (x : S28) (s : ByteArray) (hl : x.f3.length ≤ 99999999) : ∀ (n i : Nat), i + n = x.f3.length → ∀ k, n + 9 < k → spec_l13Step.l1 k s (i : Int) x.f0 x.f1.f0 x.f1.f1 x.f2 x.f3 x.f4 = some (dgI s i n)
  | _, _, _, 0, hk => absurd hk (by omega)
  | 0, i, hi, k + 1, hk => by
    rw [spec_l13Step.l1, if_neg (by omega)]; rfl
  | n + 1, i, hi, k + 1, hk => by
    rw [spec_l13Step.l1, if_pos (by omega), spec_dec 8 i (by omega) (by omega) (by omega) k (by omega), Option.bind_some, bs_toList, dgI]
    by_cases hx : Lib.decDigits i = s.toList
    · rw [if_pos hx, if_pos hx]
    · rw [if_neg hx, if_neg hx, w64s (by omega)]
      exact step_l1 x s hl n (i + 1) (by omega) k (by omega)
theorem digits_inj {a b : Nat} (h : Lib.decDigits a = Lib.decDigits b) : a = b := by
  have h1 := (decDigits_all a).2.1
  rw [h, (decDigits_all b).2.1] at h1
  exact h1.symm
theorem dgI_hit (s : ByteArray) : ∀ (n i j : Nat), i ≤ j → j < i + n → Lib.decDigits j = s.toList → dgI s i n = (j : Int)
  | 0, i, j, h1, h2, _ => absurd h2 (by omega)
  | n + 1, i, j, h1, h2, h => by
    unfold dgI
    by_cases hx : Lib.decDigits i = s.toList
    · rw [if_pos hx, digits_inj (hx.trans h.symm)]
    · rw [if_neg hx]
      have : i ≠ j := by rintro rfl; exact hx h
      exact dgI_hit s n (i + 1) j (by omega) (by omega) h
theorem dgI_miss (s : ByteArray) : ∀ (n i : Nat), (∀ j, i ≤ j → j < i + n → Lib.decDigits j ≠ s.toList) → dgI s i n = -1
  | 0, _, _ => rfl
  | n + 1, i, h => by
    unfold dgI
    rw [if_neg (h i (by omega) (by omega))]
    exact dgI_miss s n (i + 1) (fun j h1 h2 => h j (by omega) (by omega))
theorem itoa_nat (n : Nat) : Lib.itoa (n : Int) = Lib.decDigits n := by
  unfold Lib.itoa
  rw [if_neg (by omega)]
  rfl
theorem atoiR_digits {s : ByteArray} {j : Nat} (h : Lib.decDigits j = s.toList) (hj : j < 9223372036854775808) : atoiR s = ((j : Int), false) := by
  obtain ⟨h1, h2, h3, _⟩ := decDigits_all j
  unfold atoiR
  rw [← Lib.toList_data, ← h, atoiAll_dig _ h1 h3 (by rw [h2]; exact hj), h2]
theorem dgI_place (s : ByteArray) (n : Nat) (hn : n ≤ 99999999) : dgI s 0 n = placeB 5 n s := by
  by_cases h : ∃ j, j < n ∧ Lib.decDigits j = s.toList
  · obtain ⟨j, hj, hd⟩ := h
    rw [dgI_hit s n 0 j (by omega) (by omega) hd]
    unfold placeB
    rw [atoiR_digits hd (by omega), if_pos ⟨rfl, rfl, by show (0 : Int) ≤ (j : Int); omega, by show (j : Int) < (n : Int); omega, (itoa_nat j).trans hd⟩]
  · rw [dgI_miss s n 0 (fun j _ h2 hd => h ⟨j, by omega, hd⟩)]
    unfold placeB
    rw [if_neg]
    rintro ⟨_, _, h1, h2, h3⟩
    refine h ⟨(atoiR s).1.toNat, by omega, ?_⟩
    rw [← itoa_nat, Int.toNat_of_nonneg h1, h3]
theorem spec_step_is (x : S28) (s : ByteArray) (h3 : x.f3.length ≤ 99999999) (h4 : x.f4.length ≤ 140737488355328) (h5 : x.f0 ≠ 5 → x.f0 ≠ 6 → x.f3.length = 0) (k : Nat) (hk : x.f3.length + x.f4.length + 9 < k) : spec_l13Step.f k x.f0 x.f1.f0 x.f1.f1 x.f2 x.f3 x.f4 s = some (plP x s) := by
  unfold spec_l13Step.f plP
  by_cases h6 : x.f0 = 6
  · rw [if_pos h6, if_pos h6]
    have := step_l0 x s h4 x.f4.length 0 (by omega) k (by omega)
    rw [List.drop_zero] at this
    exact this
  · rw [if_neg h6, if_neg h6]
    have := step_l1 x s h3 x.f3.length 0 (by omega) k (by omega)
    refine this.trans (congrArg some ?_)
    by_cases hk5 : x.f0 = 5
    · rw [hk5]; exact dgI_place s _ h3
    · rw [h5 hk5 h6]
      unfold placeB
      rw [if_neg (fun h => hk5 h.1)]; rfl
end Go.Proofs.YtebcepbamlokcaaDoor.Q
namespace Go.Proofs.YtebcepbamlokcaaDoor.Q
open Go.RowKit Go.Proofs.YtebcepbamlokcaaDoorW.PrintWords Go.Proofs.YtebcepbamlokcaaDoorW.PrintLast Go.Proofs.YtebcepbamlokcaaDoorW.PrintMore
set_option linter.unusedVariables false
set_option linter.unusedSimpArgs false

theorem low_is (c : UInt8) : spec_l2Low.f (c.toNat : Int) = some (letB c) := isLetter_is c
theorem sfig_is (c : UInt8) : spec_l2Figure.f (c.toNat : Int) = some (figN c) := isFigure_is c
theorem len_size (s : ByteArray) : s.data.toList.length = s.size := by
  have : s.size = s.data.toList.length := by simp
  exact this.symm
theorem bt_at {s : ByteArray} {i : Nat} {c : UInt8} (h : s.data.toList[i]? = some c) : bt s (i : Int) = (c.toNat : Int) := by
  obtain ⟨hl, he⟩ := List.getElem?_eq_some_iff.1 h
  have hsz : i < s.size := by rw [← len_size s]; exact hl
  unfold bt
  rw [dif_pos (show ((i : Int).toNat) < s.size by simpa using hsz)]
  simp only [Int.toNat_natCast]
  have : s[i] = c := by rw [← he]; simp [ByteArray.getElem_eq_getElem_data]
  rw [this]
theorem w64n {n : Int} (h0 : -9223372036854775808 ≤ n) (h1 : n ≤ 9223372036854775807) : wrap64 n = n := by unfold wrap64; omega

theorem letters_l0 (s : ByteArray) (hs : s.size ≤ 1073741824) : ∀ (n i : Nat), i + n = s.size → 1 ≤ i → ∀ k, n < k → spec_l2Letters.l0 k s (i : Int) = some ((s.data.toList.drop i).all nameB && (decide (1 ≤ s.size) && decide (s.size ≤ 12)))
  | _, _, _, _, 0, hk => absurd hk (by omega)
  | 0, i, hi, h1, k + 1, hk => by
    have hl := len_size s
    rw [spec_l2Letters.l0, if_neg (by omega), List.drop_of_length_le (by omega)]
    unfold spec_l1In.f
    rw [if_pos (by omega)]
    simp only [Option.bind_some, List.all_nil, Bool.true_and]
    rw [decide_eq_true (show 1 ≤ s.size by omega), Bool.true_and]
    congr 1
    rw [Bool.eq_iff_iff, decide_eq_true_iff, decide_eq_true_iff]; omega
  | n + 1, i, hi, h1, k + 1, hk => by
    have hl := len_size s
    have hlt : i < s.data.toList.length := by omega
    have hc := List.getElem?_eq_getElem hlt
    rw [spec_l2Letters.l0, if_pos (by omega), if_pos (by omega), bt_at hc, low_is, List.drop_eq_getElem_cons hlt, List.all_cons]
    simp only [Option.bind_some]
    generalize s.data.toList[i] = c
    have he : wrap64 ((i : Int) + 1) = ((i + 1 : Nat) : Int) := by rw [w64n (by omega) (by omega)]; omega
    have ih := letters_l0 s hs n (i + 1) (by omega) (by omega) k (by omega)
    unfold nameB
    cases hb : letB c with
    | true => rw [if_pos rfl, he, ih]; simp only [Bool.true_or, Bool.true_and]; rfl
    | false =>
      rw [if_neg (by decide), if_neg (by omega), sfig_is]
      simp only [Option.bind_some]
      cases hf : figN c with
      | true => rw [if_pos rfl, he, ih]; simp only [Bool.false_or, Bool.true_and]; rfl
      | false => rw [if_neg (by decide)]; simp
theorem letters_is (s : ByteArray) (hs : s.size ≤ 1073741824) (k : Nat) (hk : s.size < k) : spec_l2Letters.f k s = some (decide (0 < s.size) && decide (s.size ≤ 12) && (s.data.toList.head?.any letB) && allN s) := by
  have hl := len_size s
  unfold spec_l2Letters.f allN
  obtain ⟨k, rfl⟩ : ∃ m, k = m + 1 := ⟨k - 1, by omega⟩
  cases hlist : s.data.toList with
  | nil =>
    have h0 : s.size = 0 := by rw [← hl, hlist]; rfl
    rw [spec_l2Letters.l0, if_neg (by omega)]
    unfold spec_l1In.f
    rw [if_neg (by omega)]
    simp [h0]
  | cons c r =>
    have hlt : 0 < s.data.toList.length := by rw [hlist]; simp
    have hc : s.data.toList[0]? = some c := by rw [hlist]; rfl
    have hb0 := bt_at hc
    have h1 := letters_l0 s hs (s.size - 1) 1 (by omega) (by omega) k (by omega)
    have hd : s.data.toList.drop 1 = r := by rw [hlist]; rfl
    rw [hd] at h1
    rw [spec_l2Letters.l0, if_pos (by omega), if_pos (by omega)]
    have e0 : bt s 0 = (c.toNat : Int) := hb0
    rw [e0, low_is]
    simp only [Option.bind_some, List.head?_cons, Option.any_some, List.all_cons]
    have he : wrap64 ((0 : Int) + 1) = ((1 : Nat) : Int) := by rw [w64n (by omega) (by omega)]; rfl
    unfold nameB
    have hp : decide (0 < s.size) = decide (1 ≤ s.size) := rfl
    cases hb : letB c with
    | true =>
      rw [if_pos rfl, he, h1, hp]
      simp only [Bool.true_or, Bool.true_and, Bool.and_true]
      rw [Bool.and_comm]; rfl
    | false => rw [if_neg (by decide)]; simp
theorem has_l0 (l : List ByteArray) (x : ByteArray) (hl : l.length ≤ 1000) : ∀ (n i : Nat), i + n = l.length → ∀ k, n < k → spec_l2Has.l0 k l x (i : Int) = some ((l.drop i).any (fun y => decide (x.toList = y.toList)))
  | _, _, _, 0, hk => absurd hk (by omega)
  | 0, i, hi, k + 1, hk => by rw [spec_l2Has.l0, if_neg (by omega), List.drop_of_length_le (by omega)]; rfl
  | n + 1, i, hi, k + 1, hk => by
    have hlt : i < l.length := by omega
    have e : rdOf ByteArray.empty l (i : Int) = l[i] := by
      unfold rdOf
      rw [Int.toNat_natCast, List.getD_eq_getElem?_getD, List.getElem?_eq_getElem hlt]; rfl
    rw [spec_l2Has.l0, if_pos (by omega), if_pos (by omega), e, List.drop_eq_getElem_cons hlt, List.any_cons]
    have he : wrap64 ((i : Int) + 1) = ((i + 1 : Nat) : Int) := by rw [w64n (by omega) (by omega)]; omega
    by_cases hx : l[i].toList = x.toList
    · rw [if_pos hx, decide_eq_true hx.symm, Bool.true_or]
    · rw [if_neg hx, he, has_l0 l x hl n (i + 1) (by omega) k (by omega), decide_eq_false (fun h => hx h.symm), Bool.false_or]
theorem words_is : spec_l2Words.f = some wordsL := rfl
theorem nameOk_is (s : ByteArray) (hs : s.size ≤ 1073741824) (k : Nat) (hk : s.size + 20 < k) : spec_NameOk.f k s = some (nameOkB s) := by
  unfold spec_NameOk.f nameOkB
  rw [letters_is s hs k (by omega)]
  simp only [Option.bind_some]
  generalize (decide (0 < s.size) && decide (s.size ≤ 12) && (s.data.toList.head?.any letB) && allN s) = b
  cases b with
  | false => rw [if_neg (by decide)]; rfl
  | true =>
    rw [if_pos rfl, words_is]
    simp only [Option.bind_some]
    unfold spec_l2Has.f
    have h15 : wordsL.length = 15 := rfl
    have := has_l0 wordsL s (by rw [h15]; omega) 15 0 (by rw [h15]) k (by omega)
    rw [show ((0 : Int)) = ((0 : Nat) : Int) from rfl, this]
    simp only [Option.bind_some, List.drop_zero, Bool.true_and]
    rfl
end Go.Proofs.YtebcepbamlokcaaDoor.Q
namespace Go.Proofs.YtebcepbamlokcaaDoor.Q
open Go.RowKit Go.Proofs.YtebcepbamlokcaaDoorW.PrintWords Go.Proofs.YtebcepbamlokcaaDoorW.PrintLast Go.Proofs.YtebcepbamlokcaaDoorW.PrintMore
set_option linter.unusedVariables false
set_option linter.unusedSimpArgs false

/-- From some number of rounds on. -/
def Ev (p : Nat → Prop) : Prop := ∃ K, ∀ k, K ≤ k → p k
theorem Ev.and {p q : Nat → Prop} (h : Ev p) (g : Ev q) : Ev (fun k => p k ∧ q k) := by
 obtain ⟨K, h⟩ := h; obtain ⟨L, g⟩ := g
 exact ⟨K + L, fun k hk => ⟨h k (by omega), g k (by omega)⟩⟩
theorem Ev.next {p q : Nat → Prop} (h : Ev p) (f : ∀ k, p k → q (k + 1)) : Ev q := by
 obtain ⟨K, h⟩ := h
 refine ⟨K + 1, fun k hk => ?_⟩
 obtain ⟨k, rfl⟩ : ∃ m, k = m + 1 := ⟨k - 1, (by omega)⟩
 exact f k (h k (by omega))
theorem Ev.imp {p q : Nat → Prop} (h : Ev p) (f : ∀ k, p k → q k) : Ev q := by
 obtain ⟨K, h⟩ := h
 exact ⟨K, fun k hk => f k (h k hk)⟩
theorem Ev.big (n : Nat) : Ev (fun k => n ≤ k) := ⟨n, fun _ h => h⟩
theorem Ev.all {α : Type} {p : Nat → α → Prop} : ∀ {l : List α}, (∀ y ∈ l, Ev (fun k => p k y)) → Ev (fun k => ∀ y ∈ l, p k y)
 | [], _ => ⟨0, fun _ _ y hy => by cases hy⟩
 | y :: r, h => by
  refine Ev.imp ((h y List.mem_cons_self).and (Ev.all (l := r) fun z hz => h z (List.mem_cons_of_mem _ hz))) (fun k hk z hz => ?_)
  rcases List.mem_cons.1 hz with rfl | hz
  ·exact hk.1
  ·exact hk.2 z hz
theorem Ev.some {p : Nat → Prop} (h : Ev p) : ∃ K, ∀ k, K ≤ k → p k := h

/-- No row too long, no name too long. -/
def Sml : Nat → S28 → Prop
 | 0, x => x.f3 = [] ∧ x.f4.length ≤ 2097152 ∧ ∀ s ∈ x.f4, s.size ≤ 1073741824
 | e + 1, x => x.f3.length ≤ 2097152 ∧ x.f4.length ≤ 2097152 ∧ (∀ s ∈ x.f4, s.size ≤ 1073741824) ∧ ∀ y ∈ x.f3, Sml e y
theorem Sml.l3 : ∀ {e : Nat} {x : S28}, Sml e x → x.f3.length ≤ 2097152
 | 0, x, h => by rw [h.1]; exact Nat.zero_le _
 | e + 1, x, h => h.1
theorem Sml.l4 : ∀ {e : Nat} {x : S28}, Sml e x → x.f4.length ≤ 2097152
 | 0, x, h => h.2.1
 | e + 1, x, h => h.2.1
theorem Sml.ns : ∀ {e : Nat} {x : S28}, Sml e x → ∀ s ∈ x.f4, s.size ≤ 1073741824
 | 0, x, h => h.2.2
 | e + 1, x, h => h.2.2.1
theorem Sml.kid : ∀ {e : Nat} {x : S28}, Sml e x → ∀ y ∈ x.f3, ∃ e', Sml e' y
 | 0, x, h, y, hy => by rw [h.1] at hy; cases hy
 | e + 1, x, h, y, hy => ⟨e, h.2.2.2 y hy⟩

/-! ### Names in order -/
def nmG (l : List ByteArray) : Nat → Nat → Bool
 | 0, _ => true
 | n + 1, i => nmAt nameOkB l i && nmG l n (i + 1)
theorem nmG_iff (l : List ByteArray) : ∀ (n i : Nat), nmG l n i = true ↔ ∀ j, i ≤ j → j < i + n → nmAt nameOkB l j = true
 | 0, i => ⟨fun _ j h1 h2 => absurd h2 (by omega), fun _ => rfl⟩
 | n + 1, i => by
  show (nmAt nameOkB l i && nmG l n (i + 1)) = true ↔ _
  rw [Bool.and_eq_true, nmG_iff l n (i + 1)]
  constructor
  ·rintro ⟨h1, h2⟩ j hi hj
   by_cases h : j = i
   ·rw [h]; exact h1
   ·exact h2 j (by omega) (by omega)
  ·intro h
   exact ⟨h i (by omega) (by omega), fun j h1 h2 => h j (by omega) (by omega)⟩
theorem nmG_all (l : List ByteArray) : nmG l l.length 0 = nmsB nameOkB l := by
 rw [Bool.eq_iff_iff, nmG_iff]
 constructor
 ·intro h; exact nmsB_true (fun i hi => h i (by omega) (by omega))
 ·intro h j _ hj
  cases hn : nmAt nameOkB l j with
  | true => rfl
  | false => rw [nmsB_false (show j < l.length by omega) hn] at h; cases h
theorem spec_names (l : List ByteArray) (hs : ∀ s ∈ l, s.size ≤ 1073741824) : Ev (fun k => spec_l7Names.f k l = some (nmsB nameOkB l)) := by
 have h : Ev (fun k => ∀ s ∈ l, spec_NameOk.f k s = some (nameOkB s)) := Ev.all (fun s hm => Ev.imp (Ev.big (s.size + 21)) (fun k hk => nameOk_is s (hs s hm) k (by omega)))
 refine h.imp fun k hk => ?_
 unfold spec_l7Names.f
 rw [if_pos (fun s hm => by rw [hk s hm]; rfl)]
 refine congrArg some ?_
 have hn : ∀ s ∈ l, nokB k s = nameOkB s := fun s hm => by unfold nokB; rw [hk s hm]; rfl
 have ha : ∀ i, i < l.length → nmAt (nokB k) l i = nmAt nameOkB l i := fun i hi => by unfold nmAt; rw [hn _ (rd_mem hi)]
 rw [Bool.eq_iff_iff]
 constructor
 ·intro h; refine nmsB_true fun i hi => ?_
  cases hc : nmAt nameOkB l i with
  | true => rfl
  | false => rw [nmsB_false hi ((ha i hi).trans hc)] at h; cases h
 ·intro h; refine nmsB_true fun i hi => ?_
  cases hc : nmAt (nokB k) l i with
  | true => rfl
  | false => rw [nmsB_false hi ((ha i hi).symm.trans hc)] at h; cases h

/-! ### One node -/
def dz (x : S28) : Bool := x.f1.f0 == 0 && x.f1.f1 == 0
def tz (x : S28) : Bool := decide (x.f2.toList = [])
def iz (x : S28) : Bool := (x.f3.length : Int) == 0
def nz (x : S28) : Bool := (x.f4.length : Int) == 0
def nodeB (x : S28) : Bool :=
 if x.f0 = 0 ∨ x.f0 = 1 ∨ x.f0 = 2 then dz x && tz x && iz x && nz x
 else if x.f0 = 3 then decide (Ok x.f1.f0 x.f1.f1) && tz x && iz x && nz x
 else if x.f0 = 4 then dz x && decide ((x.f2.size : Int) ≤ 1500) && iz x && nz x
 else if x.f0 = 5 then dz x && tz x && nz x
 else if x.f0 = 6 then dz x && tz x && decide ((x.f4.length : Int) = (x.f3.length : Int)) && nmsB nameOkB x.f4
 else false
theorem one_j0 (x : S28) (k : Nat) : spec_l7One.j0 (k + 1) x.f0 true x.f0 x.f1.f0 x.f1.f1 x.f2 x.f3 x.f4 = some (dz x && tz x && iz x && nz x) := by
 rw [spec_l7One.j0, if_pos rfl]
 unfold dz tz iz nz
 by_cases h1 : (x.f1.f0 == 0 && x.f1.f1 == 0) = true
 ·rw [if_pos h1, h1]
  by_cases h2 : x.f2.toList = []
  ·rw [if_pos h2, decide_eq_true h2]
   by_cases h3 : (x.f3.length : Int) = 0
   ·rw [if_pos h3, beq_iff_eq.2 h3]; simp
   ·rw [if_neg h3, beq_eq_false_iff_ne.2 h3]; simp
  ·rw [if_neg h2, decide_eq_false h2]; simp
 ·rw [if_neg h1, Bool.eq_false_iff.2 h1]; simp
theorem one_is (x : S28) (k : Nat) (hn : spec_l7Names.f k x.f4 = some (nmsB nameOkB x.f4)) : spec_l7One.f (k + 1) x.f0 x.f1.f0 x.f1.f1 x.f2 x.f3 x.f4 = some (nodeB x) := by
 unfold spec_l7One.f
 by_cases h0 : x.f0 = 0
 ·rw [if_pos h0, beq_iff_eq.2 h0, one_j0]; unfold nodeB; rw [if_pos (Or.inl h0)]
 rw [if_neg h0]
 by_cases h1 : x.f0 = 1
 ·rw [if_pos h1, beq_iff_eq.2 h1, one_j0]; unfold nodeB; rw [if_pos (Or.inr (Or.inl h1))]
 rw [if_neg h1]
 by_cases h2 : x.f0 = 2
 ·rw [beq_iff_eq.2 h2, one_j0]; unfold nodeB; rw [if_pos (Or.inr (Or.inr h2))]
 rw [beq_eq_false_iff_ne.2 h2, spec_l7One.j0, if_neg (by decide)]
 unfold nodeB
 rw [if_neg (show ¬(x.f0 = 0 ∨ x.f0 = 1 ∨ x.f0 = 2) from fun h => h.elim h0 (fun h => h.elim h1 h2))]
 unfold dz tz iz nz
 by_cases h3 : x.f0 = 3
 ·rw [if_pos h3, if_pos h3, spec_ok, Option.bind_some]
  by_cases g1 : Ok x.f1.f0 x.f1.f1
  ·rw [decide_eq_true g1, if_pos rfl]
   by_cases g2 : x.f2.toList = []
   ·rw [if_pos g2, decide_eq_true g2]
    by_cases g3 : (x.f3.length : Int) = 0
    ·rw [if_pos g3, beq_iff_eq.2 g3]; simp
    ·rw [if_neg g3, beq_eq_false_iff_ne.2 g3]; simp
   ·rw [if_neg g2, decide_eq_false g2]; simp
  ·rw [decide_eq_false g1, if_neg (by decide)]; simp
 rw [if_neg h3, if_neg h3]
 by_cases h4 : x.f0 = 4
 ·rw [if_pos h4, if_pos h4]
  by_cases g1 : (x.f1.f0 == 0 && x.f1.f1 == 0) = true
  ·rw [if_pos g1, g1]
   by_cases g2 : (x.f2.size : Int) ≤ 1500
   ·rw [if_pos g2, decide_eq_true g2]
    by_cases g3 : (x.f3.length : Int) = 0
    ·rw [if_pos g3, beq_iff_eq.2 g3]; simp
    ·rw [if_neg g3, beq_eq_false_iff_ne.2 g3]; simp
   ·rw [if_neg g2, decide_eq_false g2]; simp
  ·rw [if_neg g1, Bool.eq_false_iff.2 g1]; simp
 rw [if_neg h4, if_neg h4]
 by_cases h5 : x.f0 = 5
 ·rw [if_pos h5, if_pos h5]
  by_cases g1 : (x.f1.f0 == 0 && x.f1.f1 == 0) = true
  ·rw [if_pos g1, g1]
   by_cases g2 : x.f2.toList = []
   ·rw [if_pos g2, decide_eq_true g2]; simp
   ·rw [if_neg g2, decide_eq_false g2]; simp
  ·rw [if_neg g1, Bool.eq_false_iff.2 g1]; simp
 rw [if_neg h5, if_neg h5]
 by_cases h6 : x.f0 = 6
 ·rw [if_pos h6, if_pos h6]
  by_cases g1 : (x.f1.f0 == 0 && x.f1.f1 == 0) = true
  ·rw [if_pos g1, g1]
   by_cases g2 : x.f2.toList = []
   ·rw [if_pos g2, decide_eq_true g2]
    by_cases g3 : (x.f4.length : Int) = (x.f3.length : Int)
    ·rw [if_pos g3, decide_eq_true g3, hn]; simp
    ·rw [if_neg g3, decide_eq_false g3]; simp
   ·rw [if_neg g2, decide_eq_false g2]; simp
  ·rw [if_neg g1, Bool.eq_false_iff.2 g1]; simp
 rw [if_neg h6, if_neg h6]
def allS : Nat → S28 → Bool
 | 0, x => nodeB x
 | e + 1, x => nodeB x && x.f3.all (allS e)
theorem all_step (x : S28) (S : S28 → Bool) (hl : x.f3.length ≤ 2097152) (hs : ∀ s ∈ x.f4, s.size ≤ 1073741824) (hk : ∀ y ∈ x.f3, Ev (fun k => spec_l7All.f k y.f0 y.f1.f0 y.f1.f1 y.f2 y.f3 y.f4 = some (S y))) :
  Ev (fun k => spec_l7All.f k x.f0 x.f1.f0 x.f1.f1 x.f2 x.f3 x.f4 = some (nodeB x && x.f3.all S)) := by
 have hloop : ∀ (n i : Nat), i + n = x.f3.length → Ev (fun k => spec_l7All.l0 k (i : Int) x.f0 x.f1.f0 x.f1.f1 x.f2 x.f3 x.f4 = some ((x.f3.drop i).all S)) := by
  intro n
  induction n with
  | zero =>
   intro i hi
   refine (Ev.big 0).next fun k _ => ?_
   rw [spec_l7All.l0, if_neg (by omega), List.drop_of_length_le (by omega)]; rfl
  | succ n ih =>
   intro i hi
   have hlt : i < x.f3.length := by omega
   refine ((hk _ (List.getElem_mem hlt)).and (ih (i + 1) (by omega))).next fun k h => ?_
   rw [spec_l7All.l0, if_pos (by omega), if_pos (by omega), rdT hlt, h.1, Option.bind_some, List.drop_eq_getElem_cons hlt, List.all_cons, w64s (by omega), h.2]
   cases S x.f3[i] <;> simp
 have h1 : Ev (fun k => spec_l7One.f k x.f0 x.f1.f0 x.f1.f1 x.f2 x.f3 x.f4 = some (nodeB x)) := (spec_names x.f4 hs).next (fun k h => one_is x k h)
 refine (h1.and (hloop x.f3.length 0 (by omega))).next fun k h => ?_
 rw [spec_l7All.f, h.1, Option.bind_some]
 have h2 := h.2
 rw [List.drop_zero] at h2
 rw [show (0 : Int) = ((0 : Nat) : Int) from rfl, h2]
 cases nodeB x <;> simp
theorem all_is : ∀ (e : Nat) (x : S28), Sml e x → Ev (fun k => spec_l7All.f k x.f0 x.f1.f0 x.f1.f1 x.f2 x.f3 x.f4 = some (allS e x))
 | 0, x, h => by
  have := all_step x (fun _ => true) h.l3 h.ns (by rw [h.1]; intro y hy; cases hy)
  rw [h.1] at this
  refine this.imp fun k hk => ?_
  rw [h.1]
  refine hk.trans ?_
  show some (nodeB x && true) = some (nodeB x)
  rw [Bool.and_true]
 | e + 1, x, h => all_step x (allS e) h.l3 h.ns (fun y hy => all_is e y (h.2.2.2 y hy))

/-! ### The program's -/
def wrongB (x : S28) : Bool := (decide (x.f0 ≠ 3) && !dz x) || (decide (x.f0 ≠ 4) && !tz x) || (decide (x.f0 < 5) && decide ((x.f3.length : Int) > 0)) || (decide (x.f0 ≠ 6) && decide ((x.f4.length : Int) > 0))
theorem vok_j0 (k : Nat) (x : S28) (n : Int) (h : n ≠ 0) : impl_valueOk.f k x.f0 x.f1.f0 x.f1.f1 x.f2 x.f3 x.f4 n = impl_valueOk.j0 k n (wrongB x) x.f0 x.f1.f0 x.f1.f1 x.f2 x.f3 x.f4 := by
 obtain ⟨f0, ⟨m, e⟩, t, xs, ns⟩ := x
 unfold impl_valueOk.f wrongB dz tz
 simp only
 rw [if_neg h]
 generalize hA : impl_valueOk.j0 k n = A
 have hd : (!(m == 0) || !(e == 0)) = !(m == 0 && e == 0) := by cases (m == 0) <;> cases (e == 0) <;> rfl
 rw [hd]
 generalize (m == 0 && e == 0) = D
 generalize hX : decide ((xs.length : Int) > 0) = X
 generalize hN : decide ((ns.length : Int) > 0) = Y
 have hx : ((xs.length : Int) > 0) = (X = true) := by rw [← hX]; simp
 simp only [hx]
 by_cases h2 : t.toList = []
 ·by_cases h3 : f0 = 3
  ·subst h3; cases D <;> cases X <;> cases Y <;> simp [h2]
  by_cases h4 : f0 = 4
  ·subst h4; cases D <;> cases X <;> cases Y <;> simp [h2]
  by_cases h6 : f0 = 6
  ·subst h6; cases D <;> cases X <;> cases Y <;> simp [h2]
  by_cases h5 : f0 < 5
  ·cases D <;> cases X <;> cases Y <;> simp [h2, h3, h4, h5, h6]
  ·cases D <;> cases X <;> cases Y <;> simp [h2, h3, h4, h5, h6]
 ·by_cases h3 : f0 = 3
  ·subst h3; cases D <;> cases X <;> cases Y <;> simp [h2]
  by_cases h4 : f0 = 4
  ·subst h4; cases D <;> cases X <;> cases Y <;> simp [h2]
  by_cases h6 : f0 = 6
  ·subst h6; cases D <;> cases X <;> cases Y <;> simp [h2]
  by_cases h5 : f0 < 5
  ·cases D <;> cases X <;> cases Y <;> simp [h2, h3, h4, h5, h6]
  ·cases D <;> cases X <;> cases Y <;> simp [h2, h3, h4, h5, h6]
theorem vok_r (k : Nat) (x : S28) (n : Int) : impl_valueOk.r (k + 1) x.f0 x.f1.f0 x.f1.f1 x.f2 x.f3 x.f4 n = impl_valueOk.f k x.f0 x.f1.f0 x.f1.f1 x.f2 x.f3 x.f4 n := by
 rw [impl_valueOk.r, impl_valueOk.f]
theorem idx_is (g : ElemF) (b : S28 → Bool) (l : List S28) (hl : l.length ≤ 1099511627776) (hg : ∀ y ∈ l, g y.f0 y.f1.f0 y.f1.f1 y.f2 y.f3 y.f4 = some (!b y)) :
  ∀ (n i : Nat), i + n = l.length → ∀ k, n < k → ∃ r, idxF.l0 g k l (l.length : Int) (i : Int) = some r ∧ decide (r ≥ 0) = !((l.drop i).all b)
 | _, _, _, 0, hk => absurd hk (by omega)
 | 0, i, hi, k + 1, hk => by
  refine ⟨-1, ?_, ?_⟩
  ·rw [idxF.l0, if_neg (by omega)]
  ·rw [List.drop_of_length_le (by omega)]; rfl
 | n + 1, i, hi, k + 1, hk => by
  have hlt : i < l.length := by omega
  rw [idxF.l0, if_pos (by omega), if_pos (by omega), if_pos (by omega), rdT hlt, hg _ (List.getElem_mem hlt), Option.bind_some, List.drop_eq_getElem_cons hlt, List.all_cons]
  cases hb : b l[i] with
  | true =>
   rw [if_neg (by decide), w64s (by omega), Bool.true_and]
   exact idx_is g b l hl hg n (i + 1) (by omega) k (by omega)
  | false =>
   rw [if_pos (by decide)]
   exact ⟨(i : Int), rfl, (by rw [decide_eq_true (by omega)]; rfl)⟩
theorem con_is (b : S28 → Bool) (l : List S28) (n : Nat) (hl : l.length ≤ 1099511627776) (hn : n ≤ 1000) (hk : ∀ y ∈ l, Ev (fun k => impl_valueOk.f k y.f0 y.f1.f0 y.f1.f1 y.f2 y.f3 y.f4 (n : Int) = some (b y))) :
  Ev (fun k => conV.f k l ((n + 1 : Nat) : Int) = some (!l.all b)) := by
 have h1 : Ev (fun k => ∀ y ∈ l, impl_valueOk.r k y.f0 y.f1.f0 y.f1.f1 y.f2 y.f3 y.f4 (n : Int) = some (b y)) := Ev.all (fun y hy => (hk y hy).next fun k h => by rw [vok_r]; exact h)
 refine (h1.and (Ev.big (l.length + 1))).imp fun k h => ?_
 unfold conV.f
 rw [show wrap64 (((n + 1 : Nat) : Int) - 1) = (n : Int) by rw [w64p (by omega) (by omega)]; omega]
 obtain ⟨r, hr, hd⟩ := idx_is (fun b0 b1 b2 b3 b4 b5 => (impl_valueOk.r k b0 b1 b2 b3 b4 b5 (n : Int)).bind fun t_ => some (!t_)) b l hl (fun y hy => by rw [h.1 y hy]; rfl) l.length 0 (by omega) k (by omega)
 unfold idxF.f
 rw [show (0 : Int) = ((0 : Nat) : Int) from rfl, hr, Option.bind_some]
 rw [List.drop_zero] at hd
 exact congrArg some hd
def kidK (x : S28) : Bool := decide (x.f0 = 0 ∨ x.f0 = 1 ∨ x.f0 = 2 ∨ x.f0 = 5)
def okB (x : S28) (K : Bool) : Bool :=
 if kidK x = true then K else if x.f0 = 3 then decide (Ok x.f1.f0 x.f1.f1) else if x.f0 = 4 then decide ((x.f2.size : Int) ≤ 1500) else if x.f0 = 6 then nmsB nameOkB x.f4 && decide ((x.f4.length : Int) = (x.f3.length : Int)) && K else false
theorem vok_l0 (x : S28) (n : Int) (K : Bool) (hc : Ev (fun k => conV.f k x.f3 n = some (!K))) (hl : x.f4.length ≤ 2097152) : ∀ (m i : Nat), i + m = x.f4.length → Ev (fun k => impl_valueOk.l0 k n x.f4 (x.f4.length : Int) (i : Int) x.f0 x.f1.f0 x.f1.f1 x.f2 x.f3 x.f4 = some (nmG x.f4 m i && decide ((x.f4.length : Int) = (x.f3.length : Int)) && K))
 | 0, i, hi => by
  refine hc.next fun k h => ?_
  rw [impl_valueOk.l0, if_neg (by omega)]
  by_cases hE : (x.f4.length : Int) = (x.f3.length : Int)
  ·rw [if_pos hE, decide_eq_true hE]
   refine (congrArg (fun o : Option Bool => o.bind fun t => some (!t)) h).trans ?_
   rw [Option.bind_some, Bool.not_not]; rfl
  ·rw [if_neg hE, decide_eq_false hE]; unfold nmG; simp
 | m + 1, i, hi => by
  have hlt : i < x.f4.length := by omega
  refine (vok_l0 x n K hc hl m (i + 1) (by omega)).next fun k h => ?_
  rw [impl_valueOk.l0, if_pos (by omega), if_pos (by omega), if_pos (by omega)]
  unfold impl_NameOk.f
  rw [Option.bind_some]
  show _ = some ((nmAt nameOkB x.f4 i && nmG x.f4 m (i + 1)) && _ && K)
  unfold nmAt
  cases hb : nameOkB (rdOf ByteArray.empty x.f4 (i : Int)) with
  | false => rw [if_neg (by decide)]; simp
  | true =>
   rw [if_pos rfl, w64s (by omega), h]
   by_cases h0 : i = 0
   ·subst h0
    rw [if_neg (by omega)]; simp
   ·rw [if_pos (by omega), w64p (by omega) (by omega), if_pos (by omega), if_pos (by omega), beq_eq_false_iff_ne.2 h0]
    cases Op.bytesLess (rdOf ByteArray.empty x.f4 ((i : Int) - 1)).toList (rdOf ByteArray.empty x.f4 (i : Int)).toList <;> simp
theorem vok_step (x : S28) (n : Nat) (K : Bool) (hn : n ≤ 1000) (hl : x.f4.length ≤ 2097152) (hc : Ev (fun k => conV.f k x.f3 ((n + 1 : Nat) : Int) = some (!K))) :
  Ev (fun k => impl_valueOk.f k x.f0 x.f1.f0 x.f1.f1 x.f2 x.f3 x.f4 ((n + 1 : Nat) : Int) = some (!wrongB x && okB x K)) := by
 have h1 : Ev (fun k => impl_valueOk.j1 k ((n + 1 : Nat) : Int) x.f0 (kidK x) x.f0 x.f1.f0 x.f1.f1 x.f2 x.f3 x.f4 = some (okB x K)) := by
  refine (hc.and (vok_l0 x _ K hc hl x.f4.length 0 (by omega))).next fun k h => ?_
  rw [impl_valueOk.j1]
  unfold okB
  by_cases hk : kidK x = true
  ·rw [if_pos hk, if_pos hk]
   refine (congrArg (fun o : Option Bool => o.bind fun t => some (!t)) h.1).trans ?_
   rw [Option.bind_some, Bool.not_not]
  rw [if_neg hk, if_neg hk]
  by_cases h3 : x.f0 = 3
  ·rw [if_pos h3, if_pos h3, impl_ok]; rfl
  rw [if_neg h3, if_neg h3]
  by_cases h4 : x.f0 = 4
  ·rw [if_pos h4, if_pos h4]
  rw [if_neg h4, if_neg h4]
  by_cases h6 : x.f0 = 6
  ·rw [if_pos h6, if_pos h6]
   refine h.2.trans ?_
   rw [nmG_all]
  rw [if_neg h6, if_neg h6]
 refine h1.next fun k h => ?_
 rw [vok_j0 _ _ _ (by omega), impl_valueOk.j0]
 cases hw : wrongB x with
 | true => rw [if_pos rfl]; rfl
 | false =>
  rw [if_neg (by decide), Bool.not_false, Bool.true_and]
  unfold kidK at h
  by_cases h0 : x.f0 = 0
  ·rw [if_pos h0, beq_iff_eq.2 h0]; rw [decide_eq_true (Or.inl h0)] at h; exact h
  rw [if_neg h0]
  by_cases h1 : x.f0 = 1
  ·rw [if_pos h1, beq_iff_eq.2 h1]; rw [decide_eq_true (Or.inr (Or.inl h1))] at h; exact h
  rw [if_neg h1]
  by_cases h2 : x.f0 = 2
  ·rw [if_pos h2, beq_iff_eq.2 h2]; rw [decide_eq_true (Or.inr (Or.inr (Or.inl h2)))] at h; exact h
  rw [if_neg h2]
  by_cases h5 : x.f0 = 5
  ·rw [beq_iff_eq.2 h5]; rw [decide_eq_true (Or.inr (Or.inr (Or.inr h5)))] at h; exact h
  rw [beq_eq_false_iff_ne.2 h5]; rw [decide_eq_false (by rintro (h | h | h | h) <;> contradiction)] at h; exact h
def allI : Nat → S28 → Bool
 | 0, _ => false
 | n + 1, x => nodeB x && x.f3.all (allI n)
theorem node_ok (x : S28) (p : S28 → Bool) : (!wrongB x && okB x (x.f3.all p)) = (nodeB x && x.f3.all p) := by
 unfold wrongB okB nodeB kidK iz nz
 have hnil : (x.f3.length : Int) = 0 → x.f3.all p = true := fun h => by
  have : x.f3 = [] := List.length_eq_zero_iff.1 (by omega)
  rw [this]; rfl
 generalize x.f3.all p = K at *
 generalize dz x = D
 generalize tz x = T
 generalize decide (Ok x.f1.f0 x.f1.f1) = O
 generalize decide ((x.f2.size : Int) ≤ 1500) = S
 generalize decide ((x.f4.length : Int) = (x.f3.length : Int)) = E
 generalize nmsB nameOkB x.f4 = M
 have hy : ((x.f4.length : Int) == 0) = !decide ((x.f4.length : Int) > 0) := by
  by_cases h : (x.f4.length : Int) = 0
  ·rw [beq_iff_eq.2 h, decide_eq_false (by omega)]; rfl
  ·rw [beq_eq_false_iff_ne.2 h, decide_eq_true (by omega)]; rfl
 have hx : ((x.f3.length : Int) == 0) = !decide ((x.f3.length : Int) > 0) := by
  by_cases h : (x.f3.length : Int) = 0
  ·rw [beq_iff_eq.2 h, decide_eq_false (by omega)]; rfl
  ·rw [beq_eq_false_iff_ne.2 h, decide_eq_true (by omega)]; rfl
 have hK : decide ((x.f3.length : Int) > 0) = false → K = true := fun h => hnil (by have := of_decide_eq_false h; omega)
 rw [hx, hy]
 clear hx hy hnil
 generalize decide ((x.f3.length : Int) > 0) = X at *
 generalize decide ((x.f4.length : Int) > 0) = Y at *
 generalize x.f0 = f0
 have hk : X = true ∨ K = true := by cases X with | true => exact Or.inl rfl | false => exact Or.inr (hK rfl)
 clear hK
 by_cases h0 : f0 = 0
 ·subst h0; cases D <;> cases T <;> cases X <;> cases Y <;> simp
 by_cases h1 : f0 = 1
 ·subst h1; cases D <;> cases T <;> cases X <;> cases Y <;> simp
 by_cases h2 : f0 = 2
 ·subst h2; cases D <;> cases T <;> cases X <;> cases Y <;> simp
 by_cases h3 : f0 = 3
 ·subst h3; cases O <;> cases T <;> cases X <;> cases Y <;> cases K <;> simp_all
 by_cases h4 : f0 = 4
 ·subst h4; cases D <;> cases S <;> cases X <;> cases Y <;> cases K <;> simp_all
 by_cases h5 : f0 = 5
 ·subst h5; cases D <;> cases T <;> cases X <;> cases Y <;> simp
 by_cases h6 : f0 = 6
 ·subst h6; cases D <;> cases T <;> cases X <;> cases E <;> cases M <;> simp
 rw [if_neg (by simp [h0, h1, h2, h5]), if_neg h3, if_neg h4, if_neg h6, if_neg (by simp [h0, h1, h2]), if_neg h3, if_neg h4, if_neg h5, if_neg h6]; simp
theorem impl_all_is : ∀ (n e : Nat) (x : S28), n ≤ 1000 → Sml e x → Ev (fun k => impl_valueOk.f k x.f0 x.f1.f0 x.f1.f1 x.f2 x.f3 x.f4 (n : Int) = some (allI n x))
 | 0, e, x, _, h => (Ev.big 0).next fun k _ => by
  unfold impl_valueOk.f
  rw [if_pos (show ((0 : Nat) : Int) = 0 from rfl), impl_valueOk.j0, if_pos rfl]; rfl
 | n + 1, e, x, hn, h => by
  have hc := con_is (allI n) x.f3 n (Nat.le_trans h.l3 (by decide)) (by omega) (fun y hy => by obtain ⟨e', he⟩ := h.kid y hy; exact impl_all_is n e' y (by omega) he)
  refine (vok_step x n _ (by omega) h.l4 hc).imp fun k hk => hk.trans ?_
  rw [node_ok]; rfl
theorem mxT_iff (f : S28 → Nat) (n : Nat) : ∀ (l : List S28), mxT f l ≤ n ↔ ∀ y ∈ l, f y ≤ n := fun l => ⟨fun h y hy => Nat.le_trans (le_mxT f hy) h, fun h => mxT_le f h⟩
theorem allI_is : ∀ (e : Nat) (x : S28) (n : Nat), Sml e x → allI n x = (allS e x && decide (dpT e x ≤ n))
 | 0, x, 0, h => by
  rw [decide_eq_false (show ¬ dpT 0 x ≤ 0 from Nat.not_succ_le_zero 0), Bool.and_false]; rfl
 | 0, x, n + 1, h => by
  rw [decide_eq_true (show dpT 0 x ≤ n + 1 from Nat.succ_le_succ (Nat.zero_le n))]
  show (nodeB x && x.f3.all (allI n)) = (nodeB x && true); rw [h.1]; rfl
 | e + 1, x, 0, h => by
  rw [decide_eq_false (show ¬ dpT (e + 1) x ≤ 0 from Nat.not_succ_le_zero _), Bool.and_false]; rfl
 | e + 1, x, n + 1, h => by
  show (nodeB x && x.f3.all (allI n)) = ((nodeB x && x.f3.all (allS e)) && decide (mxT (dpT e) x.f3 + 1 ≤ n + 1))
  rw [Bool.and_assoc]
  congr 1
  rw [Bool.eq_iff_iff, Bool.and_eq_true, List.all_eq_true, List.all_eq_true, decide_eq_true_iff, Nat.succ_le_succ_iff, mxT_iff]
  constructor
  ·intro hh
   have hb : ∀ y ∈ x.f3, allS e y = true ∧ dpT e y ≤ n := fun y hy => by
    have := hh y hy
    rw [allI_is e y n (h.2.2.2 y hy), Bool.and_eq_true, decide_eq_true_iff] at this
    exact this
   exact ⟨fun y hy => (hb y hy).1, fun y hy => (hb y hy).2⟩
  ·rintro ⟨h1, h2⟩ y hy
   rw [allI_is e y n (h.2.2.2 y hy), Bool.and_eq_true, decide_eq_true_iff]
   exact ⟨h1 y hy, h2 y hy⟩
theorem Sml.fit : ∀ {e : Nat} {x : S28}, Sml e x → Fit e x.f3
 | 0, x, h => h.1
 | e + 1, x, h => ⟨h.1, fun y hy => ⟨(h.2.2.2 y hy).l4, (h.2.2.2 y hy).fit⟩⟩
def goodB (e : Nat) (x : S28) : Bool := allS e x && decide (dpT e x ≤ 20) && decide (szT e x ≤ 200)
theorem impl_good (e : Nat) (x : S28) (h : Sml e x) (hs : szT e x ≤ 1099511627776) : Ev (fun k => impl_ValueOk.f k x.f0 x.f1.f0 x.f1.f1 x.f2 x.f3 x.f4 = some (goodB e x)) := by
 refine ((impl_all_is 20 e x (by omega) h).and (Ev.big (fu e x.f3))).imp fun k hk => ?_
 unfold impl_ValueOk.f goodB
 have h1 := hk.1
 rw [show ((20 : Nat) : Int) = 20 from rfl] at h1
 rw [h1, Option.bind_some, ← allI_is e x 20 h, implSize e x h.fit hs k hk.2]
 cases allI 20 x with
 | true =>
  rw [if_pos rfl, Option.bind_some, Bool.true_and]
  refine congrArg some ?_
  rw [Bool.eq_iff_iff, decide_eq_true_iff, decide_eq_true_iff]; omega
 | false => rw [if_neg (by decide), Bool.false_and]
theorem spec_good (e : Nat) (x : S28) (h : Sml e x) (hs : szT e x ≤ 1099511627776) : Ev (fun k => spec_ValueOk.f k x.f0 x.f1.f0 x.f1.f1 x.f2 x.f3 x.f4 = some (goodB e x)) := by
 refine ((all_is e x h).and (Ev.big (fu e x.f3))).imp fun k hk => ?_
 unfold spec_ValueOk.f goodB
 rw [specSize e x h.fit hs k hk.2, Option.bind_some, specDeep e x hs h.fit k hk.2]
 by_cases h1 : szT e x ≤ 200
 ·rw [if_pos (by omega), Option.bind_some, decide_eq_true h1, Bool.and_true]
  by_cases h2 : dpT e x ≤ 20
  ·rw [if_pos (by omega), hk.1, Option.bind_some, decide_eq_true h2, Bool.and_true]
  ·rw [if_neg (by omega), decide_eq_false h2, Bool.and_false]
 ·rw [if_neg (by omega), decide_eq_false h1, Bool.and_false]
end Go.Proofs.YtebcepbamlokcaaDoor.Q
namespace Go.Proofs.YtebcepbamlokcaaDoor.Q
open Go.RowKit Go.Proofs.YtebcepbamlokcaaDoorW.PrintWords Go.Proofs.YtebcepbamlokcaaDoorW.PrintLast Go.Proofs.YtebcepbamlokcaaDoorW.PrintMore
set_option linter.unusedVariables false
set_option linter.unusedSimpArgs false

/-- What stands on a way, by a step's place (below nought: nowhere). -/
def At (P : S28 → ByteArray → Int) : S28 → List ByteArray → Option S28
  | v, [] => some v
  | v, s :: r => if P v s < 0 then none else At P (rd_T28 v.f3 (P v s)) r
/-- What the two functions answer. -/
def atRes (P : S28 → ByteArray → Int) (ok : Bool) (v : S28) (path : List ByteArray) : Option S28 := if ok = true then At P v path else none
def orZero (r : Option S28) : S28 := r.getD z28

/-- A set of values that holds what stands in them; each is not too great, and each step has its place. -/
structure Good (G : S28 → Prop) (d : Nat) (P : S28 → ByteArray → Int) (path : List ByteArray) : Prop where
  kid : ∀ x, G x → ∀ y ∈ x.f3, G y
  fit : ∀ x, G x → Fit d x.f3 ∧ x.f4.length ≤ 2097152
  lt : ∀ x, G x → ∀ s ∈ path, P x s < (x.f3.length : Int)

theorem drop_cons_of {path : List ByteArray} {i : Nat} {s : ByteArray} (h : path[i]? = some s) : path.drop i = s :: path.drop (i + 1) := by
  obtain ⟨hl, rfl⟩ := List.getElem?_eq_some_iff.1 h
  exact List.drop_eq_getElem_cons hl

theorem six_same {w : World} {g : Nat} {v0 v1 v2 v3 v4 v5 : Value} (q : Nat) (h : q ≠ g) :
    ((((((w.setCell ⟨g, 0, none⟩ v0).setCell ⟨g, 1, none⟩ v1).setCell ⟨g, 2, none⟩ v2).setCell ⟨g, 3, none⟩ v3).setCell ⟨g, 4, none⟩ v4).setCell ⟨g, 5, none⟩ v5).heap[q]? = w.heap[q]? :=
  (Below.heap_setCell _ ⟨g, 5, none⟩ v5 q h).trans ((Below.heap_setCell _ ⟨g, 4, none⟩ v4 q h).trans ((Below.heap_setCell _ ⟨g, 3, none⟩ v3 q h).trans ((Below.heap_setCell _ ⟨g, 2, none⟩ v2 q h).trans ((Below.heap_setCell _ ⟨g, 1, none⟩ v1 q h).trans (Below.heap_setCell _ ⟨g, 0, none⟩ v0 q h)))))

set_option maxHeartbeats 4000000 in
set_option maxRecDepth 100000 in
theorem implAt_calls (G : S28 → Prop) (d : Nat) (P : S28 → ByteArray → Int) (k : Nat) (okb : Bool) (v : S28) (path : List ByteArray) (HG0 : okb = true → Good G d P path) (hv0 : okb = true → G v) (hok : impl_ValueOk.f k v.f0 v.f1.f0 v.f1.f1 v.f2 v.f3 v.f4 = some okb)
    (hst0 : okb = true → ∀ x, G x → ∀ s ∈ path, impl_Value_place.f x.f0 x.f1.f0 x.f1.f1 x.f2 x.f3 x.f4 s = some (P x s))
    (w : World) (A4 : Option Addr) (c4 : Nat) (A5 : Option Addr) (c5 : Nat) (AP : Option Addr) (cP : Nat) (h4 : Kd.C k28 w A4 v.f3.length v.f3) (l4 : v.f3.length ≤ c4) (h5 : Kd.C Kd.string w A5 v.f4.length v.f4) (l5 : v.f4.length ≤ c5)
    (hp : Kd.C Kd.string w AP path.length path) (lp : path.length ≤ cP) (hl : LaidG 15 w) :
    Calls Tryd.prog 11 #[.agg #[.int .i64 v.f0, .int .i64 v.f1.f0, .int .i64 v.f1.f1, .string v.f2, .slice A4 v.f3.length c4, .slice A5 v.f4.length c5], .slice AP path.length cP] w fun e' w' => ∃ (x : S28) (B4 : Option Addr) (b4 : Nat) (B5 : Option Addr) (b5 : Nat) (f4 f5 : List Nat),
      x = orZero (atRes P okb v path) ∧ e' = .returned (.tuple #[.agg #[.int .i64 x.f0, .int .i64 x.f1.f0, .int .i64 x.f1.f1, .string x.f2, .slice B4 x.f3.length b4, .slice B5 x.f4.length b5], .bool (atRes P okb v path).isSome]) ∧
      x.f3.length ≤ b4 ∧ x.f4.length ≤ b5 ∧ VRow d w' B4 x.f3 f4 ∧ NRow w' B5 x.f4 f5 ∧ (f4 ++ f5).Nodup ∧ (∀ q ∈ f4 ++ f5, w.heap.size ≤ q) ∧ Below w.heap.size w w' := by
  have H4 := Aside0.mk h4; have H5 := Aside0.mk h5; have HP := Aside0.mk hp; have HL := Aside0.mk hl; have HOK := Aside0.mk hok
  have HPL := Aside0.mk hp.2.1
  clear h4 h5 hp hl hok
  cases okb with
  | false =>
    go_enter Tryd.func11, Tryd.ntmps11
    go_wp2_with (first
      | ((with_reducible refine gate_dst (N := 2) rfl ?_); refine box_event ?hg (N := 2) ?hd (cs := #[.int .i64 v.f0, .int .i64 v.f1.f0, .int .i64 v.f1.f1, .string v.f2, .slice A4 v.f3.length c4, .slice A5 v.f4.length c5]) (t := 28) ?hr ?_; (case hd => rfl); (case hg => rfl); (case hr => first | (go_simp; done) | (go_simp; rfl))
         intro g1 hg1 w1 hbox1 hb1; have G1 := Aside0.mk hg1; have B1 := Aside0.mk hbox1; have L1 := Aside0.mk hb1; clear hg1 hbox1 hb1)
      | ((with_reducible refine gate_dst (N := 4) rfl ?_); refine box_event ?hg (N := 4) ?hd (cs := #[.int .i64 0, .int .i64 0, .int .i64 0, .string (⟨#[]⟩ : ByteArray), .slice none 0 0, .slice none 0 0]) (t := 28) ?hr ?_; (case hd => rfl); (case hg => rfl); (case hr => first | (go_simp; done) | (go_simp; rfl))
         intro g2 hg2 w2 hbox2 hb2; have G2 := Aside0.mk hg2; have B2 := Aside0.mk hbox2; have L2 := Aside0.mk (below_step L1.out hb2)
         have B1' := Aside0.mk (blk_keep B1.out hb2 (blk_lt B1.out)); clear hg2 hbox2 hb2
         obtain ⟨p0, p1, p2, p3, p4, p5, -⟩ := six_cells B1'.out)
      | (go_at_call 21
         refine (impl_ValueOk.calls k v.f0 v.f1.f0 v.f1.f1 v.f2 A4 c4 v.f3 A5 c5 v.f4 false _ (Kd.C_below H4.out L2.out) l4 (Kd.C_below H5.out L2.out) l5 (LaidG.below (m := 2) (by decide) HL.out L2.out) HOK.out).mono ?_
         rintro e' w3 ⟨rfl, hb3⟩
         have L3 := Aside0.mk (below_step L2.out hb3)
         have C2 := Aside0.mk (blk_keep B2.out hb3 (blk_lt B2.out))
         clear p0 p1 p2 p3 p4 p5 hb3
         obtain ⟨r0, r1, r2, r3, r4, r5, z0, z1, z2, z3, z4, z5⟩ := six_cells C2.out))
    have hP := six_put (v0 := .int .i64 0) (v1 := .int .i64 0) (v2 := .int .i64 0) (v3 := .string ⟨#[]⟩) (v4 := .slice none 0 0) (v5 := .slice none 0 0) C2.out
    refine bodyPost_ret (results_ct rfl _ _ g2 28 #[.int .i64 0, .int .i64 0, .int .i64 0, .string ⟨#[]⟩, .slice none 0 0, .slice none 0 0] (0, 0) _ rfl hP Tryd.underlying28 rfl (by kernel_rfl)) rfl ?_
    have g2w : w.heap.size ≤ g2 := by have := L1.out.size; have := G2.out; omega
    exact ⟨z28, none, 0, none, 0, [], [], rfl, rfl, Nat.le_refl _, Nat.le_refl _, by cases d; exact ⟨rfl, rfl⟩; exact .inl ⟨rfl, rfl⟩, .inl ⟨rfl, rfl⟩, List.nodup_nil, by simp, six_below L3.out g2w⟩
  | true =>
    have HG := HG0 rfl
    have hv := hv0 rfl
    have hst := hst0 rfl
    have HR := Aside0.mk (show atRes P true v path = At P v path from rfl)
    go_enter Tryd.func11, Tryd.ntmps11
    go_wp2_with (first
      | ((with_reducible refine gate_dst (N := 2) rfl ?_); refine box_event ?hg (N := 2) ?hd (cs := #[.int .i64 v.f0, .int .i64 v.f1.f0, .int .i64 v.f1.f1, .string v.f2, .slice A4 v.f3.length c4, .slice A5 v.f4.length c5]) (t := 28) ?hr ?_; (case hd => rfl); (case hg => rfl); (case hr => first | (go_simp; done) | (go_simp; rfl))
         intro g1 hg1 w1 hbox1 hb1; have G1 := Aside0.mk hg1; have B1 := Aside0.mk hbox1; have L1 := Aside0.mk hb1; clear hg1 hbox1 hb1)
      | ((with_reducible refine gate_dst (N := 4) rfl ?_); refine box_event ?hg (N := 4) ?hd (cs := #[.int .i64 0, .int .i64 0, .int .i64 0, .string (⟨#[]⟩ : ByteArray), .slice none 0 0, .slice none 0 0]) (t := 28) ?hr ?_; (case hd => rfl); (case hg => rfl); (case hr => first | (go_simp; done) | (go_simp; rfl))
         intro g2 hg2 w2 hbox2 hb2; have G2 := Aside0.mk hg2; have B2 := Aside0.mk hbox2; have L2 := Aside0.mk (below_step L1.out hb2)
         have B1' := Aside0.mk (blk_keep B1.out hb2 (blk_lt B1.out)); clear hg2 hbox2 hb2
         obtain ⟨p0, p1, p2, p3, p4, p5, -⟩ := six_cells B1'.out)
      | (go_at_call 21
         refine (impl_ValueOk.calls k v.f0 v.f1.f0 v.f1.f1 v.f2 A4 c4 v.f3 A5 c5 v.f4 true _ (Kd.C_below H4.out L2.out) l4 (Kd.C_below H5.out L2.out) l5 (LaidG.below (m := 2) (by decide) HL.out L2.out) HOK.out).mono ?_
         rintro e' w3 ⟨rfl, hb3⟩
         have L3 := Aside0.mk (below_step L2.out hb3)
         have C1 := Aside0.mk (blk_keep B1'.out hb3 (blk_lt B1'.out)); have C2 := Aside0.mk (blk_keep B2.out hb3 (blk_lt B2.out))
         clear p0 p1 p2 p3 p4 p5 hb3))
    have g1w : w.heap.size ≤ g1 := Nat.le_of_eq G1.out.symm
    have g2w : w.heap.size ≤ g2 := by have := L1.out.size; have := G2.out; omega
    have hne : g1 ≠ g2 := by have := blk_lt B1.out; have := G2.out; omega
    have hne' := hne.symm
    go_loopg [15] path.length (fun kq v15 w' => ∃ (i : Nat) (x : S28) (X4 : Option Addr) (x4 : Nat) (X5 : Option Addr) (x5 : Nat), v15 = .int .i64 (i : Int) ∧ Aside0 (i + kq = path.length) ∧ Aside0 (At P x (path.drop i) = At P v path) ∧ Aside0 (G x) ∧
      Aside0 (w'.heap[g1]? = some (.cells #[.int .i64 x.f0, .int .i64 x.f1.f0, .int .i64 x.f1.f1, .string x.f2, .slice X4 x.f3.length x4, .slice X5 x.f4.length x5] 28 (0, 0))) ∧ Aside0 (w'.heap[g2]? = some (.cells #[.int .i64 0, .int .i64 0, .int .i64 0, .string (⟨#[]⟩ : ByteArray), .slice none 0 0, .slice none 0 0] 28 (0, 0))) ∧
      Aside0 (Kd.C k28 w X4 x.f3.length x.f3 ∧ x.f3.length ≤ x4 ∧ Kd.C Kd.string w X5 x.f4.length x.f4 ∧ x.f4.length ≤ x5) ∧ Aside0 (Below w.heap.size w w'))
    case atStart => exact ⟨0, v, A4, c4, A5, c5, rfl, ⟨by omega⟩, ⟨rfl⟩, ⟨hv⟩, C1, C2, ⟨H4.out, l4, H5.out, l5⟩, L3⟩
    case round =>
      obtain ⟨i, x, X4, x4, X5, x5, rfl, HI, HA, HX, D1, D2, HC, LB⟩ := hrel
      cases gk with
      | zero =>
        have hd : decide ((i : Int) < (path.length : Int)) = false := decide_eq_false (by have := HI.out; omega)
        have hd' : decide (i < path.length) = false := decide_eq_false (by have := HI.out; omega)
        have HAe : Aside0 (At P v path = some x) := ⟨by
          have h := HA.out
          rw [List.drop_of_length_le (by have := HI.out; omega)] at h
          exact h.symm⟩
        obtain ⟨p0, p1, p2, p3, p4, p5, -⟩ := six_cells D1.out
        go_wp2_with (
          go_at_call 45
          have hf := HG.fit x HX.out
          refine (own_calls d _ x.f0 x.f1.f0 x.f1.f1 x.f2 X4 x4 x.f3 X5 x5 x.f4 (Kd.C_below HC.out.1 LB.out) HC.out.2.1 (Kd.C_below HC.out.2.2.1 LB.out) HC.out.2.2.2 hf.1 hf.2).mono ?_
          rintro e' w5 ⟨O4, O5, f4, f5, rfl, V4, N5, D45, F45, _, hb5⟩
          have L5 := Aside0.mk (below_step LB.out hb5)
          have LS := Aside0.mk hb5.size
          have E2 := Aside0.mk (blk_keep D2.out hb5 (blk_lt D2.out))
          obtain ⟨r0, r1, r2, r3, r4, r5, z0, z1, z2, z3, z4, z5⟩ := six_cells E2.out
          clear hb5)
        have hP := six_put (v0 := .int .i64 x.f0) (v1 := .int .i64 x.f1.f0) (v2 := .int .i64 x.f1.f1) (v3 := .string x.f2) (v4 := .slice O4 x.f3.length x.f3.length) (v5 := .slice O5 x.f4.length x.f4.length) E2.out
        refine bodyPost_ret (results_ct rfl _ _ g2 28 #[.int .i64 x.f0, .int .i64 x.f1.f0, .int .i64 x.f1.f1, .string x.f2, .slice O4 x.f3.length x.f3.length, .slice O5 x.f4.length x.f4.length] (0, 0) _ rfl hP Tryd.underlying28 rfl (by kernel_rfl)) rfl ?_
        have hg2 := blk_lt D2.out
        have hS : ∀ q ∈ f4 ++ f5, ((((((w5.setCell ⟨g2, 0, none⟩ (.int .i64 x.f0)).setCell ⟨g2, 1, none⟩ (.int .i64 x.f1.f0)).setCell ⟨g2, 2, none⟩ (.int .i64 x.f1.f1)).setCell ⟨g2, 3, none⟩ (.string x.f2)).setCell ⟨g2, 4, none⟩ (.slice O4 x.f3.length x.f3.length)).setCell ⟨g2, 5, none⟩ (.slice O5 x.f4.length x.f4.length)).heap[q]? = w5.heap[q]? := fun q hq => six_same q (by have := F45 q hq; omega)
        exact ⟨x, O4, x.f3.length, O5, x.f4.length, f4, f5, by rw [HR.out, HAe.out]; rfl, by rw [HR.out, HAe.out]; rfl, Nat.le_refl _, Nat.le_refl _, VRow.same d V4 (fun q hq => hS q (List.mem_append_left _ hq)), N5.same (fun q hq => hS q (List.mem_append_right _ hq)), D45, fun q hq => Nat.le_trans LB.out.size (F45 q hq), six_below L5.out g2w⟩
      | succ k1 =>
        have hd : decide ((i : Int) < (path.length : Int)) = true := decide_eq_true (by have := HI.out; omega)
        have hp : (0 ≤ (i : Int)) = True := eq_true (by omega)
        have hq : ((i : Int) < (path.length : Int)) = True := eq_true (by have := HI.out; omega)
        have hi : i < path.length := by have := HI.out; omega
        have HIk : Aside0 (i + 1 + k1 = path.length) := ⟨by have := HI.out; omega⟩
        have E6 : Aside0 (wrap64 ((i : Int) + 1) = ((i + 1 : Nat) : Int)) := ⟨by have := HPL.out; rw [w64o (by omega) (by omega)]; omega⟩
        obtain ⟨ad, rfl, hsrc⟩ := Kd.at_string HP.out (i : Int) (by omega) (by omega)
        have hxe : rdOf ByteArray.empty path (i : Int) = path[i] := by unfold rdOf; rw [Int.toNat_natCast, List.getD_eq_getElem?_getD, List.getElem?_eq_getElem hi]; rfl
        have hcx := List.getElem?_eq_getElem hi
        rw [hxe] at hsrc
        simp only [Int.toNat_natCast] at hsrc
        generalize path[i] = s at hcx hsrc
        have hsm := List.mem_of_getElem? hcx
        replace hsrc := (LB.out.cell (World.block_lt_of_cell? w _ hsrc)).trans hsrc
        obtain ⟨p0, p1, p2, p3, p4, p5, -⟩ := six_cells D1.out
        have hplace := impl_Value_place.calls x.f0 x.f1.f0 x.f1.f1 x.f2 X4 x4 x.f3 X5 x5 x.f4 s (P x s) wr (Kd.C_below HC.out.1 LB.out) HC.out.2.1 (Kd.C_below HC.out.2.2.1 LB.out) HC.out.2.2.2 (LaidG.below (m := 13) (by decide) HL.out LB.out) (hst x HX.out s hsm)
        have HAc := Aside0.mk (show At P v path = if P x s < 0 then none else At P (rd_T28 x.f3 (P x s)) (path.drop (i + 1)) from by rw [← HA.out, drop_cons_of hcx]; rfl)
        have HLT := Aside0.mk (HG.lt x HX.out s hsm)
        generalize P x s = u at hplace HAc HLT
        by_cases hu : u < 0
        · have hdu : decide (u < 0) = true := decide_eq_true hu
          have HU := Aside0.mk hu
          clear hu
          go_wp2_with (
            go_at_call 44
            refine hplace.mono ?_
            rintro e' w5 ⟨rfl, hb5⟩
            have L5 := Aside0.mk (below_step LB.out hb5)
            have E2 := Aside0.mk (blk_keep D2.out hb5 (blk_lt D2.out))
            obtain ⟨r0, r1, r2, r3, r4, r5, z0, z1, z2, z3, z4, z5⟩ := six_cells E2.out
            clear hb5)
          have hP := six_put (v0 := .int .i64 0) (v1 := .int .i64 0) (v2 := .int .i64 0) (v3 := .string ⟨#[]⟩) (v4 := .slice none 0 0) (v5 := .slice none 0 0) E2.out
          refine bodyPost_ret (results_ct rfl _ _ g2 28 #[.int .i64 0, .int .i64 0, .int .i64 0, .string ⟨#[]⟩, .slice none 0 0, .slice none 0 0] (0, 0) _ rfl hP Tryd.underlying28 rfl (by kernel_rfl)) rfl ?_
          have hn : atRes P true v path = none := by rw [HR.out, HAc.out, if_pos HU.out]
          exact ⟨z28, none, 0, none, 0, [], [], by rw [hn]; rfl, by rw [hn]; rfl, Nat.le_refl _, Nat.le_refl _, by cases d; exact ⟨rfl, rfl⟩; exact .inl ⟨rfl, rfl⟩, .inl ⟨rfl, rfl⟩, List.nodup_nil, by simp, six_below L5.out g2w⟩
        · have hdu : decide (u < 0) = false := decide_eq_false hu
          have hu0 : (0 ≤ u) = True := eq_true (by omega)
          have hu1 : (u < (x.f3.length : Int)) = True := eq_true HLT.out
          have hun : u.toNat < x.f3.length := by have := HLT.out; omega
          obtain ⟨ad2, Y4, y4, Y5, y5, rfl, x0, x1, x2, x3, x4', x5', m4, s4, m5, s5⟩ := at_T28 HC.out.1 u (by omega) HLT.out
          have hym : rd_T28 x.f3 u ∈ x.f3 := by
            unfold rd_T28
            rw [List.getD_eq_getElem?_getD, List.getElem?_eq_getElem hun]
            exact List.getElem_mem hun
          have HU := Aside0.mk hu
          generalize rd_T28 x.f3 u = y at *
          have HY := Aside0.mk (HG.kid x HX.out y hym)
          clear hu
          go_wp2_with (
            go_at_call 44
            refine hplace.mono ?_
            rintro e' w5 ⟨rfl, hb5⟩
            have L5 := Aside0.mk (below_step LB.out hb5)
            have E1 := Aside0.mk (blk_keep D1.out hb5 (blk_lt D1.out))
            have E2 := Aside0.mk (blk_keep D2.out hb5 (blk_lt D2.out))
            clear p0 p1 p2 p3 p4 p5
            obtain ⟨p0, p1, p2, p3, p4, p5, z0, z1, z2, z3, z4, z5⟩ := six_cells E1.out
            replace x0 := (L5.out.cell (World.block_lt_of_cell? w _ x0)).trans x0
            replace x1 := (L5.out.cell (World.block_lt_of_cell? w _ x1)).trans x1
            replace x2 := (L5.out.cell (World.block_lt_of_cell? w _ x2)).trans x2
            replace x3 := (L5.out.cell (World.block_lt_of_cell? w _ x3)).trans x3
            replace x4' := (L5.out.cell (World.block_lt_of_cell? w _ x4')).trans x4'
            replace x5' := (L5.out.cell (World.block_lt_of_cell? w _ x5')).trans x5'
            clear hb5)
          go_roundg k1
          case measure => exact Nat.lt_succ_self k1
          case rel =>
            have hS2 := six_same (w := w5) (g := g1) (v0 := .int .i64 y.f0) (v1 := .int .i64 y.f1.f0) (v2 := .int .i64 y.f1.f1) (v3 := .string y.f2) (v4 := .slice Y4 y.f3.length y4) (v5 := .slice Y5 y.f4.length y5) g2 hne'
            exact ⟨i + 1, y, Y4, y4, Y5, y5, by rw [E6.out], HIk, ⟨by rw [HAc.out, if_neg (by have := HU.out; omega)]⟩, HY, ⟨six_put E1.out⟩, ⟨hS2.trans E2.out⟩, ⟨s4, m4, s5, m5⟩, ⟨six_below L5.out g1w⟩⟩
end Go.Proofs.YtebcepbamlokcaaDoor.Q
namespace Go.Proofs.YtebcepbamlokcaaDoor.Q
open Go.RowKit Go.Proofs.YtebcepbamlokcaaDoorW.PrintWords Go.Proofs.YtebcepbamlokcaaDoorW.PrintLast Go.Proofs.YtebcepbamlokcaaDoorW.PrintMore
attribute [local go_sem] max2_int min2_int max_two min_two max_three min_three max_four min_four   -- for this text's walks alone
set_option linter.unusedVariables false
set_option linter.unusedSimpArgs false

theorem qQx10s0_ {P : Prop} (h : P := by repeat (first | (with_reducible first | exact HB.out | apply below_alloc | apply pw_below_drewN | apply below_drew1 | refine below_set ?_ GE156.out | refine below_set ?_ GE157.out | refine below_set ?_ GE164.out) | exact HB.out)) : P := h
theorem qQx10s1_ {P : Prop} (h : P := by (with_reducible repeat (first | refine blk_drewN ?_ _ | refine blk_drew ?_ | refine blk_alloc ?_ _)); exact BK156.out) : P := h
theorem qQx10s2_ {P : Prop} (h : P := by repeat (first | (with_reducible first | exact HB.out | apply below_alloc | apply pw_below_drewN | apply below_drew1 | refine below_set ?_ GE156.out | refine below_set ?_ GE157.out) | exact HB.out)) : P := h
theorem qQx10s3_ {P : Prop} (h : P := by (with_reducible repeat (first | refine blk_drewN ?_ _ | refine blk_drew ?_ | refine blk_alloc ?_ _)); exact BK157.out) : P := h
theorem qQx10s4_ {P : Prop} (h : P := by exact ⟨(blk_cell BK156.out 0).trans rfl, (blk_cell BK156.out 1).trans rfl, (blk_cell BK156.out 2).trans rfl, (blk_cell BK156.out 3).trans rfl, (blk_cell BK156.out 4).trans rfl, (blk_cell BK156.out 5).trans rfl⟩) : P := h
theorem qQx10s5_ {P : Prop} (h : P := by (with_reducible repeat (first | refine blk_drewN ?_ _ | refine blk_drew ?_ | refine blk_alloc ?_ _)); exact BK164.out) : P := h
theorem qQx10s6_ {P : Prop} (h : P := by exact ⟨hHeld, (by (with_reducible repeat (first | apply Kd.R_alloc | apply Kd.R_drewN | apply Kd.R_drew)); exact HO163.out), qQx10s1_, qQx10s3_, qQx10s5_, GW164.out, GE164.out, NB156_164.out, NB164_156.out, NB157_164.out, NB164_157.out, qQx10s0_⟩) : P := h
theorem qQx10s7_ {P : Prop} (h : P := by (with_reducible repeat (first | apply Kd.R_alloc | apply Kd.R_drewN | apply Kd.R_drew)); exact HO_165005.out) : P := h
theorem qQx10s8_ {P : Prop} (h : P := by repeat (first | exact (Kd.C_below HR0_5.out HB.out) | (with_reducible refine Kd.C_alloc ?_ _) | (with_reducible refine Kd.C_drewN ?_ _) | (with_reducible refine Kd.C_drew ?_))) : P := h
theorem qQx10s9_ {P : Prop} (h : P := by repeat (first | (with_reducible first | exact HB.out | apply below_alloc | apply pw_below_drewN | apply below_drew1 | refine below_set ?_ GE156.out) | exact HB.out)) : P := h
theorem qQx10s10_ {P : Prop} (h : P := by (with_reducible repeat (first | apply Kd.R_alloc | apply Kd.R_drewN | apply Kd.R_drew)); exact HO160.out) : P := h
theorem qQx10s11_ {P : Prop} (h : P := by repeat (first | (with_reducible first | exact HB.out | apply below_alloc | apply pw_below_drewN | apply below_drew1) | exact HB.out)) : P := h
theorem qQx10s12_ {P : Prop} (h : P := by first | (go_simp; done) | (go_simp; rfl)) : P := h
theorem qQx10s13_ {P : Prop} (h : P := by exact (take_ofW HT_.out HW_.out (by kernel_rfl))) : P := h
theorem qQx10s14_ {P : Prop} (h : P := by (with_reducible repeat (first | apply Kd.R_alloc | apply Kd.R_drewN | apply Kd.R_drew)); exact HO_165004.out) : P := h
theorem qQx10s15_ {P : Prop} (h : P := by simp only [putAll, Act.put, List.setIfInBounds_toArray, List.set_cons_zero, List.set_cons_succ]) : P := h
/-! ### spec_l13Copy: function 47 -/
mutual
def spec_l13Copy.l0 : Nat → Int → Int → Int → Int → ByteArray → List (S28) → List ByteArray → Int → Int → Int → ByteArray → List (S28) → List ByteArray → Option (Int × Int × Int × ByteArray × (List (S28)) × List ByteArray)
 | 0, _, _, _, _, _, _, _, _, _, _, _, _, _ => none
 | k + 1, x4, x157000, x157001, x157002, x157003, x157004, x157005, x165000, x165001, x165002, x165003, x165004, x165005 => if x4 < (x157004.length : Int) then (if 0 ≤ x4 then ((spec_l13Copy.f k ((rd_T28 x157004 x4).f0) ((rd_T28 x157004 x4).f1.f0) ((rd_T28 x157004 x4).f1.f1) ((rd_T28 x157004 x4).f2) ((rd_T28 x157004 x4).f3) ((rd_T28 x157004 x4).f4)).bind fun bt166 => (if x165004.length < 1599289640401 then (spec_l13Copy.l0 k (wrap64 (x4 + 1)) x157000 x157001 x157002 x157003 x157004 x157005 x165000 x165001 x165002 x165003 (x165004 ++ [(⟨bt166.1, (⟨bt166.2.1, bt166.2.2.1⟩ : S24), bt166.2.2.2.1, bt166.2.2.2.2.1, bt166.2.2.2.2.2⟩ : S28)]) x165005) else (none))) else (none)) else (some (x165000, x165001, x165002, x165003, x165004, x165005))
def spec_l13Copy.f : Nat → Int → Int → Int → ByteArray → List (S28) → List ByteArray → Option (Int × Int × Int × ByteArray × (List (S28)) × List ByteArray)
 | 0, _, _, _, _, _, _ => none
 | k + 1, a0_0, a0_1, a0_2, a0_3, l0_4, l0_5 => (some (([] : List ByteArray) : List ByteArray)).bind fun y158 => (if y158.length + l0_5.length < 8796093022208 then (spec_l13Copy.l0 k 0 a0_0 a0_1 a0_2 a0_3 l0_4 l0_5 a0_0 a0_1 a0_2 a0_3 ([] : List (S28)) (y158 ++ l0_5)) else (none))
end
theorem spec_l13Copy.mono_l : ∀ k, (∀ y0 y1 y2 y3 y4 y5, LeO (spec_l13Copy.f k y0 y1 y2 y3 y4 y5) (spec_l13Copy.f (k + 1) y0 y1 y2 y3 y4 y5)) ∧ (∀ y0 y1 y2 y3 y4 y5 y6 y7 y8 y9 y10 y11 y12, LeO (spec_l13Copy.l0 k y0 y1 y2 y3 y4 y5 y6 y7 y8 y9 y10 y11 y12) (spec_l13Copy.l0 (k + 1) y0 y1 y2 y3 y4 y5 y6 y7 y8 y9 y10 y11 y12))
 | 0 => ⟨fun _ _ _ _ _ _ r h => by simp [spec_l13Copy.f] at h, fun _ _ _ _ _ _ _ _ _ _ _ _ _ r h => by simp [spec_l13Copy.l0] at h⟩
 | k + 1 => by
  obtain ⟨ih0, ih1⟩ := spec_l13Copy.mono_l k
  refine ⟨?_, ?_⟩
  ·intro y0 y1 y2 y3 y4 y5
   unfold spec_l13Copy.f
   repeat' first
   | (with_reducible exact ih0 _ _ _ _ _ _)
   | (with_reducible exact ih1 _ _ _ _ _ _ _ _ _ _ _ _ _)
   | (with_reducible exact LeO.refl _)
   | (with_reducible exact LeO.none _)
   | (with_reducible refine LeO.ite ?_ ?_)
   | (with_reducible refine LeO.bind ?_ (fun _ => ?_))
   | exact ih0 _ _ _ _ _ _
   | exact ih1 _ _ _ _ _ _ _ _ _ _ _ _ _
   | exact LeO.none _
   | refine LeO.ite ?_ ?_
   | refine LeO.bind ?_ (fun _ => ?_)
  ·intro y0 y1 y2 y3 y4 y5 y6 y7 y8 y9 y10 y11 y12
   unfold spec_l13Copy.l0
   repeat' first
   | (with_reducible exact ih0 _ _ _ _ _ _)
   | (with_reducible exact ih1 _ _ _ _ _ _ _ _ _ _ _ _ _)
   | (with_reducible exact LeO.refl _)
   | (with_reducible exact LeO.none _)
   | (with_reducible refine LeO.ite ?_ ?_)
   | (with_reducible refine LeO.bind ?_ (fun _ => ?_))
   | exact ih0 _ _ _ _ _ _
   | exact ih1 _ _ _ _ _ _ _ _ _ _ _ _ _
   | exact LeO.none _
   | refine LeO.ite ?_ ?_
   | refine LeO.bind ?_ (fun _ => ?_)
theorem spec_l13Copy.mono : ∀ a0 a1 a2 a3 a4 a5 k, LeO (spec_l13Copy.f k a0 a1 a2 a3 a4 a5) (spec_l13Copy.f (k + 1) a0 a1 a2 a3 a4 a5) := by
 intro a0 a1 a2 a3 a4 a5 k
 obtain ⟨ih0, ih1⟩ := spec_l13Copy.mono_l k
 exact ih0 a0 a1 a2 a3 a4 a5
def spec_l13Copy.T1 : Bool × List (List Nat × List Nat) := (true, [([], []), ([0], [0]), ([], []), ([2], [2]), ([], []), ([4], [4]), ([], []), ([], []), ([7], [7]), ([6, 8], [6, 8]), ([1, 3, 5, 9], [1, 3, 5, 9]), ([], []), ([11, 10, 9, 0, 1, 2, 3, 4, 5, 6, 7, 8, 9, 10, 11], [10, 11])])
def spec_l13Copy.B1 : List Nat := [0, 1, 0, 4, 0, 16, 0, 0, 128, 448, 1023, 0, 4095]
theorem spec_l13Copy.tab1 : rtab .any (opsOf Tryd.f47 1) = spec_l13Copy.T1 := by kernel_rfl
theorem spec_l13Copy.bits1 : waitsOk spec_l13Copy.T1.2 spec_l13Copy.B1 = true := by kernel_rfl
def spec_l13Copy.T5 : Bool × List (List Nat × List Nat) := (true, [([], []), ([0], [0]), ([], []), ([2], [2]), ([], []), ([3, 4], [3, 4]), ([5], [5]), ([6], [6]), ([7], [7]), ([1, 8, 7], [1, 8]), ([0, 1, 2, 3, 4, 5, 6, 7, 8, 9], []), ([10, 9, 9, 0, 1, 2, 3, 4, 5, 6, 7, 8, 9], [9, 10])])
def spec_l13Copy.B5 : List Nat := [0, 1, 0, 4, 0, 28, 60, 124, 252, 511, 1023, 2047]
theorem spec_l13Copy.tab5 : rtab .any (opsOf Tryd.f47 5) = spec_l13Copy.T5 := by kernel_rfl
theorem spec_l13Copy.bits5 : waitsOk spec_l13Copy.T5.2 spec_l13Copy.B5 = true := by kernel_rfl
set_option maxHeartbeats 8000000 in
set_option maxRecDepth 100000 in
theorem spec_l13Copy.calls (k : Nat) : ∀ (a0_0 : Int) (a0_1 : Int) (a0_2 : Int) (a0_3 : ByteArray) (A0_4 : Option Addr) (c0_4 : Nat) (l0_4 : List (S28)) (A0_5 : Option Addr) (c0_5 : Nat) (l0_5 : List ByteArray) (r1 : Int) (r2 : Int) (r3 : Int) (r4 : ByteArray) (r5 : List (S28)) (r6 : List ByteArray) (w : World) (hr0_4 : Kd.C k28 w A0_4 l0_4.length l0_4) (hc0_4 : l0_4.length ≤ c0_4) (hr0_5 : Kd.C Kd.string w A0_5 l0_5.length l0_5) (hc0_5 : l0_5.length ≤ c0_5) (h : spec_l13Copy.f k a0_0 a0_1 a0_2 a0_3 l0_4 l0_5 = some (r1, r2, r3, r4, r5, r6)),
  Calls Tryd.prog 47 #[.agg #[.int .i64 a0_0, .int .i64 a0_1, .int .i64 a0_2, .string a0_3, .slice A0_4 l0_4.length c0_4, .slice A0_5 l0_5.length c0_5]] w fun e w' => ∃ v4_ v5_ : Value, e = .returned (.agg #[.int .i64 r1, .int .i64 r2, .int .i64 r3, .string r4, v4_, v5_]) ∧ Kd.R k28 28 w' w.heap.size (fun k_ => some k_ ≠ (v5_ : Value).ownBlock) v4_ r5 ∧ Kd.R Kd.string 9 w' w.heap.size (fun _ => True) v5_ r6 ∧ Below w.heap.size w w' := by
 induction k using Nat.strongRecOn with
 | _ k ih =>
 intro a0_0 a0_1 a0_2 a0_3 A0_4 c0_4 l0_4 A0_5 c0_5 l0_5 r1 r2 r3 r4 r5 r6 w hr0_4 hc0_4 hr0_5 hc0_5 h
 cases k with
 | zero => exact absurd h (by simp [spec_l13Copy.f])
 | succ k =>
 simp only [spec_l13Copy.f] at h
 have hu28 := Tryd.underlying28
 have hu24 := Tryd.underlying24
 have HR0_4 := Aside0.mk hr0_4
 have HC0_4 := Aside0.mk hc0_4
 clear hr0_4 hc0_4
 have HR0_5 := Aside0.mk hr0_5
 have HC0_5 := Aside0.mk hc0_5
 clear hr0_5 hc0_5
 have HB := Aside0.mk (Below.refl w.heap.size w)
 have H : ((some (([] : List ByteArray) : List ByteArray)).bind fun y158 => (if y158.length + l0_5.length < 8796093022208 then (spec_l13Copy.l0 k 0 a0_0 a0_1 a0_2 a0_3 l0_4 l0_5 a0_0 a0_1 a0_2 a0_3 ([] : List (S28)) (y158 ++ l0_5)) else (none))) = some (r1, r2, r3, r4, r5, r6) := h
 clear h
 obtain ⟨y158, hy158⟩ : ∃ y_ : List ByteArray, y_ = (([] : List ByteArray)) := ⟨_, rfl⟩
 replace H : (if y158.length + l0_5.length < 8796093022208 then (spec_l13Copy.l0 k 0 a0_0 a0_1 a0_2 a0_3 l0_4 l0_5 a0_0 a0_1 a0_2 a0_3 ([] : List (S28)) (y158 ++ l0_5)) else (none)) = some (r1, r2, r3, r4, r5, r6) := by first | (rw [hy158]; with_reducible exact H) | (have H2_ := (Option.bind_some _ _).symm.trans H; rw [hy158]; with_reducible exact H2_) | (have H2_ := (Option.bind_some _ _).symm.trans H; with_reducible exact H2_) | with_reducible exact H | (rw [hy158]; exact H) | exact H
 have Ny158 := Aside0.mk hy158
 clear hy158
 by_cases c2 : y158.length + l0_5.length < 8796093022208
 ·rw [if_pos c2] at H
  have LMc2 := Aside0.mk c2
  clear c2
  obtain ⟨y161, hy161⟩ : ∃ y_ : List ByteArray, y_ = (y158 ++ l0_5) := ⟨_, rfl⟩
  replace H : (spec_l13Copy.l0 k 0 a0_0 a0_1 a0_2 a0_3 l0_4 l0_5 a0_0 a0_1 a0_2 a0_3 ([] : List (S28)) y161) = some (r1, r2, r3, r4, r5, r6) := by first | (rw [hy161]; with_reducible exact H) | (have H2_ := (Option.bind_some _ _).symm.trans H; rw [hy161]; with_reducible exact H2_) | (have H2_ := (Option.bind_some _ _).symm.trans H; with_reducible exact H2_) | with_reducible exact H | (rw [hy161]; exact H) | exact H
  have Ny161 := Aside0.mk hy161
  clear hy161
  have H' := Aside0.mk H
  clear H
  go_enter Tryd.func47, Tryd.ntmps47
  try go_wp2_with (first | ((with_reducible refine gate_dst (N := 1) rfl ?_); refine box_event ?hg (N := 1) ?hd (cs := #[.int .i64 a0_0, .int .i64 a0_1, .int .i64 a0_2, .string a0_3, .slice A0_4 l0_4.length c0_4, .slice A0_5 l0_5.length c0_5]) (t := 28) ?hr ?_; (case hd => rfl); (case hg => rfl); (case hr => exact qQx10s12_); intro gb156 hg w_ hbox hb; have n0_ := Aside0.mk (below_step qQx10s11_ hb); have n1_ := Aside0.mk (hbox); have n2_ := Aside0.mk ((by rw [hg]; exact (below_size qQx10s11_) : w.heap.size ≤ gb156)); have n3_ := Aside0.mk ((by rw [hg]; exact (below_size qQx10s11_) : w.heap.size ≤ gb156)); clear HB; have HB := n0_; have BK156 := n1_; have GW156 := n2_; have GE156 := n3_; clear n0_ n1_ n2_ n3_ hb hbox hg) | ((with_reducible refine gate_dst (N := 2) rfl ?_); refine box_event ?hg (N := 2) ?hd (cs := #[.int .i64 0, .int .i64 0, .int .i64 0, .string (⟨#[]⟩ : ByteArray), .slice none 0 0, .slice none 0 0]) (t := 28) ?hr ?_; (case hd => rfl); (case hg => rfl); (case hr => exact qQx10s12_); intro gb157 hg w4 hbox hb; have n0_ := Aside0.mk (blk_below (g := gb156) (o := .cells #[.int .i64 a0_0, .int .i64 a0_1, .int .i64 a0_2, .string a0_3, .slice A0_4 l0_4.length c0_4, .slice A0_5 l0_5.length c0_5] 28 (0, 0)) qQx10s1_ hb); have n1_ := Aside0.mk (below_step qQx10s9_ hb); have n2_ := Aside0.mk (hbox); have n3_ := Aside0.mk ((by rw [hg]; exact (below_size qQx10s9_) : w.heap.size ≤ gb157)); have n4_ := Aside0.mk ((by rw [hg]; exact (below_size qQx10s9_) : w.heap.size ≤ gb157)); have n5_ := Aside0.mk ((by rw [hg]; exact Nat.ne_of_lt (blk_lt (g := gb156) (o := .cells #[.int .i64 a0_0, .int .i64 a0_1, .int .i64 a0_2, .string a0_3, .slice A0_4 l0_4.length c0_4, .slice A0_5 l0_5.length c0_5] 28 (0, 0)) qQx10s1_) : gb156 ≠ gb157)); have n6_ := Aside0.mk ((by rw [hg]; exact Nat.ne_of_gt (blk_lt (g := gb156) (o := .cells #[.int .i64 a0_0, .int .i64 a0_1, .int .i64 a0_2, .string a0_3, .slice A0_4 l0_4.length c0_4, .slice A0_5 l0_5.length c0_5] 28 (0, 0)) qQx10s1_) : gb157 ≠ gb156)); clear BK156 HB; have BK156 := n0_; have HB := n1_; have BK157 := n2_; have GW157 := n3_; have GE157 := n4_; have NB156_157 := n5_; have NB157_156 := n6_; clear n0_ n1_ n2_ n3_ n4_ n5_ n6_ hb hbox hg))
  have n0_ := Aside0.mk (blk_drew BK156.out)
  have n1_ := Aside0.mk (blk_drew BK157.out)
  have n2_ := Aside0.mk (below_drew1 HB.out)
  clear BK156
  clear BK157
  clear HB
  have BK156 := n0_
  have BK157 := n1_
  have HB := n2_
  clear n0_ n1_ n2_
  refine start_ (n := 13) (S := fun w' => w'.cell? ⟨gb156, 0, none⟩ = some (.int .i64 a0_0) ∧ w'.cell? ⟨gb156, 1, none⟩ = some (.int .i64 a0_1) ∧ w'.cell? ⟨gb156, 2, none⟩ = some (.int .i64 a0_2) ∧ w'.cell? ⟨gb156, 3, none⟩ = some (.string a0_3) ∧ w'.cell? ⟨gb156, 4, none⟩ = some (.slice A0_4 l0_4.length c0_4) ∧ w'.cell? ⟨gb156, 5, none⟩ = some (.slice A0_5 l0_5.length c0_5)) (ds := []) #[false, false, false, false, false, false, false, false, false, false, false, false, false] (by kernel_rfl) rfl rfl qQx10s4_ (fun hHeld => ?_); refine with_tabW spec_l13Copy.tab1 spec_l13Copy.bits1 (fun HT_ HW_ => ?_)
  generalize w4.drew = w5 at BK156 BK157 HB hHeld ⊢
  refine pure_ (i := 0) (N := some 5) (v := ?_) (a' := ?_) #[true, false, false, false, false, false, false, false, false, false, false, false, false] rfl rfl (any_of HT_.out (by kernel_rfl)) (fun _ _ _ h => h) (Or.inl ⟨by rfl, ?_⟩) ?_ ?_
  rotate_left
  ·intro w'
   go_simp
   with_reducible rfl
  rotate_left
  ·simp only [Act.put, List.setIfInBounds_toArray, List.set_cons_zero, List.set_cons_succ, i64_w, i32_w]
   rfl
  refine pure_ (i := 2) (N := some 7) (v := ?_) (a' := ?_) #[true, false, true, false, false, false, false, false, false, false, false, false, false] rfl rfl (any_of HT_.out (by kernel_rfl)) (fun _ _ _ h => h) (Or.inl ⟨by rfl, ?_⟩) ?_ ?_
  rotate_left
  ·intro w'
   go_simp
   with_reducible rfl
  rotate_left
  ·simp only [Act.put, List.setIfInBounds_toArray, List.set_cons_zero, List.set_cons_succ, i64_w, i32_w]
   rfl
  refine pure_ (i := 4) (N := some 9) (v := ?_) (a' := ?_) #[true, false, true, false, true, false, false, false, false, false, false, false, false] rfl rfl (any_of HT_.out (by kernel_rfl)) (fun _ _ _ h => h) (Or.inl ⟨by rfl, ?_⟩) ?_ ?_
  rotate_left
  ·intro w'
   go_simp
   with_reducible rfl
  rotate_left
  ·simp only [Act.put, List.setIfInBounds_toArray, List.set_cons_zero, List.set_cons_succ, i64_w, i32_w]
   rfl
  refine pure_ (i := 7) (N := some 12) (v := ?_) (a' := ?_) #[true, false, true, false, true, false, false, true, false, false, false, false, false] rfl rfl (any_of HT_.out (by kernel_rfl)) (fun _ _ _ h => h) (Or.inl ⟨by rfl, ?_⟩) ?_ ?_
  rotate_left
  ·intro w'
   go_simp
   with_reducible rfl
  rotate_left
  ·simp only [Act.put, List.setIfInBounds_toArray, List.set_cons_zero, List.set_cons_succ, i64_w, i32_w]
   rfl
  refine take_ (i := 1) (N := some 6) (v := ?_) (a' := ?_) #[true, true, true, false, true, false, false, true, false, false, false, false, false] rfl rfl qQx10s13_ (fun _ _ _ h => h) (Or.inl ⟨by rfl, ?_⟩) hHeld ?_ ?_
  rotate_left
  ·rintro w' ⟨s0, s1, s2, s3, s4, s5⟩
   go_simp
   with_reducible rfl
  rotate_left
  ·simp only [Act.put, List.setIfInBounds_toArray, List.set_cons_zero, List.set_cons_succ, i64_w, i32_w]
   rfl
  refine take_ (i := 3) (N := some 8) (v := ?_) (a' := ?_) #[true, true, true, true, true, false, false, true, false, false, false, false, false] rfl rfl qQx10s13_ (fun _ _ _ h => h) (Or.inl ⟨by rfl, ?_⟩) hHeld ?_ ?_
  rotate_left
  ·rintro w' ⟨s0, s1, s2, s3, s4, s5⟩
   go_simp
   with_reducible rfl
  rotate_left
  ·simp only [Act.put, List.setIfInBounds_toArray, List.set_cons_zero, List.set_cons_succ, i64_w, i32_w]
   rfl
  refine take_ (i := 5) (N := some 10) (v := ?_) (a' := ?_) #[true, true, true, true, true, true, false, true, false, false, false, false, false] rfl rfl qQx10s13_ (fun _ _ _ h => h) (Or.inl ⟨by rfl, ?_⟩) hHeld ?_ ?_
  rotate_left
  ·rintro w' ⟨s0, s1, s2, s3, s4, s5⟩
   go_simp
   with_reducible rfl
  rotate_left
  ·simp only [Act.put, List.setIfInBounds_toArray, List.set_cons_zero, List.set_cons_succ, i64_w, i32_w]
   rfl
  refine take_ (i := 8) (N := some 13) (v := ?_) (a' := ?_) #[true, true, true, true, true, true, false, true, true, false, false, false, false] rfl rfl qQx10s13_ (fun _ _ _ h => h) (Or.inl ⟨by rfl, ?_⟩) hHeld ?_ ?_
  rotate_left
  ·rintro w' ⟨s0, s1, s2, s3, s4, s5⟩
   go_simp
   with_reducible rfl
  rotate_left
  ·simp only [Act.put, List.setIfInBounds_toArray, List.set_cons_zero, List.set_cons_succ, i64_w, i32_w]
   rfl
  refine join_ (σ := Value × Value × Nat) 1 #[true, true, true, true, true, true, true, true, true, true, true, true, false] (fun s_ => [(11, s_.1), (14, s_.2.1), (3, .pointer (some ⟨s_.2.2, 0, none⟩)), (15, .agg #[.int .i64 a0_0, .int .i64 a0_1, .int .i64 a0_2, .string a0_3, .slice none 0 0, s_.2.1])]) (fun s_ w' => (w'.cell? ⟨gb156, 0, none⟩ = some (.int .i64 a0_0) ∧ w'.cell? ⟨gb156, 1, none⟩ = some (.int .i64 a0_1) ∧ w'.cell? ⟨gb156, 2, none⟩ = some (.int .i64 a0_2) ∧ w'.cell? ⟨gb156, 3, none⟩ = some (.string a0_3) ∧ w'.cell? ⟨gb156, 4, none⟩ = some (.slice A0_4 l0_4.length c0_4) ∧ w'.cell? ⟨gb156, 5, none⟩ = some (.slice A0_5 l0_5.length c0_5)) ∧ (Kd.R Kd.string 9 w' w.heap.size (fun _ => True) s_.2.1 y161) ∧ (w'.heap[gb156]? = some (.cells #[.int .i64 a0_0, .int .i64 a0_1, .int .i64 a0_2, .string a0_3, .slice A0_4 l0_4.length c0_4, .slice A0_5 l0_5.length c0_5] 28 (0, 0))) ∧ (w'.heap[gb157]? = some (.cells #[.int .i64 0, .int .i64 0, .int .i64 0, .string (⟨#[]⟩ : ByteArray), .slice none 0 0, .slice none 0 0] 28 (0, 0))) ∧ (w'.heap[s_.2.2]? = some (.cells #[.int .i64 0, .int .i64 0, .int .i64 0, .string (⟨#[]⟩ : ByteArray), .slice none 0 0, .slice none 0 0] 28 (0, 0))) ∧ (w.heap.size ≤ s_.2.2) ∧ (w.heap.size ≤ s_.2.2) ∧ (gb156 ≠ s_.2.2) ∧ (s_.2.2 ≠ gb156) ∧ (gb157 ≠ s_.2.2) ∧ (s_.2.2 ≠ gb157) ∧ (Below w.heap.size w w')) ?_ ?_
  rotate_left
  ·intro hCont
   refine two_ (i := 6) (j := 11) (Ni := some 11) (Nj := some 3) #[true, true, true, true, true, true, true, true, true, false, false, false, false] #[true, true, true, true, true, true, false, true, true, false, false, true, false] rfl rfl rfl rfl (two_of HT_.out (by kernel_rfl)) (by decide) (by decide) (fun K hK => ?_) (fun K hK => ?_)
   ·skip
    refine Kd.R_lit_step Kd.string _ 9 ?hg (N := 11) ?hd (xs := ([] : List ByteArray)) (inner := []) (ok := fun _ => True) (okp := fun _ => True) ?hr ?hp (fun _ hk => hk) trivial (Below.refl _ _) (Nat.le_refl _) (by simp) ?_; (case hd => rfl); (case hg => rfl); (case hr => exact qQx10s12_); (case hp => exact (by exact (Reps.none _ _)))
    intro v159 w6 ho7 hb hg_ hnew_
    clear hg_ hnew_
    (first | rw [← Ny158.out] at ho7 | (simp only [Int.reduceToNat] at ho7; rw [← Ny158.out] at ho7))
    have n0_ := Aside0.mk (Kd.R_lower ho7 (below_size qQx10s2_))
    have n1_ := Aside0.mk (blk_below (g := gb156) (o := .cells #[.int .i64 a0_0, .int .i64 a0_1, .int .i64 a0_2, .string a0_3, .slice A0_4 l0_4.length c0_4, .slice A0_5 l0_5.length c0_5] 28 (0, 0)) qQx10s1_ hb)
    have n2_ := Aside0.mk (blk_below (g := gb157) (o := .cells #[.int .i64 0, .int .i64 0, .int .i64 0, .string (⟨#[]⟩ : ByteArray), .slice none 0 0, .slice none 0 0] 28 (0, 0)) qQx10s3_ hb)
    have n3_ := Aside0.mk (below_step qQx10s2_ hb)
    clear BK156
    clear BK157
    clear HB
    have HO160 := n0_
    have BK156 := n1_
    have BK157 := n2_
    have HB := n3_
    clear n0_ n1_ n2_ n3_
    clear hb ho7
    refine hK.out _ _ qQx10s4_ (fun hHeld => ?_)
    clear hK K
    refine norm_ (a' := ?_) ?_ ?_
    rotate_left
    ·show Act.put _ (some 11) _ = _
     simp only [Act.put, List.setIfInBounds_toArray, List.set_cons_zero, List.set_cons_succ, i64_w, i32_w]
     rfl
    refine two_ (i := 9) (j := 11) (Ni := some 14) (Nj := some 3) #[true, true, true, true, true, true, true, true, true, true, false, false, false] #[true, true, true, true, true, true, true, true, true, false, false, true, false] rfl rfl rfl rfl (two_of HT_.out (by kernel_rfl)) (by decide) (by decide) (fun K hK => ?_) (fun K hK => ?_)
    ·skip
     refine Kd.R_append_rows_step Kd.string (w0 := w) w.heap.size (by rfl) (.tmp 11) (.tmp 13) 26 9 (.string ⟨#[]⟩) 16 rfl Tryd.underlying26 info9 rfl (by decide) (by omega) v159 y158 l0_5 _ _ _ (fun _ => True) (fun _ => False) rfl rfl ?aO ?aR (fun _ _ h => h) (fun _ h => h.elim) ?aF ?aB ?aS ?aL ?_
     (case aR => exact qQx10s8_)
     (case aB => exact qQx10s2_)
     (case aF => exact (by exact (fun _ _ => trivial)))
     (case aO => exact qQx10s10_)
     (case aS => exact (by exact (below_size qQx10s2_)))
     (case aL => exact (by have := LMc2.out; omega))
     intro v162 w8 ho hb hg hat
     rw [← Ny161.out] at ho
     have n0_ := Aside0.mk (blk_grown (g := gb156) (o := .cells #[.int .i64 a0_0, .int .i64 a0_1, .int .i64 a0_2, .string a0_3, .slice A0_4 l0_4.length c0_4, .slice A0_5 l0_5.length c0_5] 28 (0, 0)) qQx10s1_ hg (Kd.R_ne HO160.out BK156.out (by decide)))
     have n1_ := Aside0.mk (blk_grown (g := gb157) (o := .cells #[.int .i64 0, .int .i64 0, .int .i64 0, .string (⟨#[]⟩ : ByteArray), .slice none 0 0, .slice none 0 0] 28 (0, 0)) qQx10s3_ hg (Kd.R_ne HO160.out BK157.out (by decide)))
     have n2_ := Aside0.mk (hb)
     have n3_ := Aside0.mk (ho)
     clear BK156
     clear BK157
     clear HB
     clear HO160
     have BK156 := n0_
     have BK157 := n1_
     have HB := n2_
     have HO163 := n3_
     clear n0_ n1_ n2_ n3_
     clear ho hb hg hat
     obtain ⟨Ao9, co9, eo9⟩ := Kd.R_slice HO163.out
     (first | subst eo9 | (injection eo9 with f1_ f2_ f3_; have f4_ := f1_.symm; have f5_ := f3_.symm; clear f1_ f2_ f3_; subst f4_; subst f5_))
     refine hK.out _ _ qQx10s4_ (fun hHeld => ?_)
     clear hK K
     refine norm_ (a' := ?_) ?_ ?_
     rotate_left
     ·show Act.put _ (some 14) _ = _
      simp only [Act.put, List.setIfInBounds_toArray, List.set_cons_zero, List.set_cons_succ, i64_w, i32_w]
      rfl
     refine pure_ (i := 10) (N := some 15) (v := ?_) (a' := ?_) #[true, true, true, true, true, true, true, true, true, true, true, false, false] rfl rfl (any_of HT_.out (by kernel_rfl)) (fun _ _ _ h => h) (Or.inl ⟨by rfl, ?_⟩) ?_ ?_
     rotate_left
     ·intro w'
      go_simp
      with_reducible rfl
     rotate_left
     ·simp only [Act.put, List.setIfInBounds_toArray, List.set_cons_zero, List.set_cons_succ, i64_w, i32_w]
      rfl
     refine one_ (i := 11) (N := some 3) #[true, true, true, true, true, true, true, true, true, true, true, true, false] rfl rfl (one_of HT_.out (by kernel_rfl)) (by decide) (fun K hK => ?_)
     refine box_step ?hg (N := 3) ?hd (cs := #[.int .i64 0, .int .i64 0, .int .i64 0, .string (⟨#[]⟩ : ByteArray), .slice none 0 0, .slice none 0 0]) (t := 28) ?hr ?_; (case hd => rfl); (case hg => rfl); (case hr => exact qQx10s12_)
     intro gb164 hg w10 hbox hb
     have n0_ := Aside0.mk (Kd.R_below (by (with_reducible repeat (first | apply Kd.R_alloc | apply Kd.R_drewN | apply Kd.R_drew)); exact HO163.out) hb)
     have n1_ := Aside0.mk (blk_below (g := gb156) (o := .cells #[.int .i64 a0_0, .int .i64 a0_1, .int .i64 a0_2, .string a0_3, .slice A0_4 l0_4.length c0_4, .slice A0_5 l0_5.length c0_5] 28 (0, 0)) qQx10s1_ hb)
     have n2_ := Aside0.mk (blk_below (g := gb157) (o := .cells #[.int .i64 0, .int .i64 0, .int .i64 0, .string (⟨#[]⟩ : ByteArray), .slice none 0 0, .slice none 0 0] 28 (0, 0)) qQx10s3_ hb)
     have n3_ := Aside0.mk (below_step qQx10s2_ hb)
     have n4_ := Aside0.mk (hbox)
     have n5_ := Aside0.mk ((by rw [hg]; exact (below_size qQx10s2_) : w.heap.size ≤ gb164))
     have n6_ := Aside0.mk ((by rw [hg]; exact (below_size qQx10s2_) : w.heap.size ≤ gb164))
     have n7_ := Aside0.mk ((by rw [hg]; exact Nat.ne_of_lt (blk_lt (g := gb156) (o := .cells #[.int .i64 a0_0, .int .i64 a0_1, .int .i64 a0_2, .string a0_3, .slice A0_4 l0_4.length c0_4, .slice A0_5 l0_5.length c0_5] 28 (0, 0)) qQx10s1_) : gb156 ≠ gb164))
     have n8_ := Aside0.mk ((by rw [hg]; exact Nat.ne_of_gt (blk_lt (g := gb156) (o := .cells #[.int .i64 a0_0, .int .i64 a0_1, .int .i64 a0_2, .string a0_3, .slice A0_4 l0_4.length c0_4, .slice A0_5 l0_5.length c0_5] 28 (0, 0)) qQx10s1_) : gb164 ≠ gb156))
     have n9_ := Aside0.mk ((by rw [hg]; exact Nat.ne_of_lt (blk_lt (g := gb157) (o := .cells #[.int .i64 0, .int .i64 0, .int .i64 0, .string (⟨#[]⟩ : ByteArray), .slice none 0 0, .slice none 0 0] 28 (0, 0)) qQx10s3_) : gb157 ≠ gb164))
     have n10_ := Aside0.mk ((by rw [hg]; exact Nat.ne_of_gt (blk_lt (g := gb157) (o := .cells #[.int .i64 0, .int .i64 0, .int .i64 0, .string (⟨#[]⟩ : ByteArray), .slice none 0 0, .slice none 0 0] 28 (0, 0)) qQx10s3_) : gb164 ≠ gb157))
     clear HO163
     clear BK156
     clear BK157
     clear HB
     have HO163 := n0_
     have BK156 := n1_
     have BK157 := n2_
     have HB := n3_
     have BK164 := n4_
     have GW164 := n5_
     have GE164 := n6_
     have NB156_164 := n7_
     have NB164_156 := n8_
     have NB157_164 := n9_
     have NB164_157 := n10_
     clear n0_ n1_ n2_ n3_ n4_ n5_ n6_ n7_ n8_ n9_ n10_
     clear hb hbox hg
     refine hK.out _ _ qQx10s4_ (fun hHeld => ?_)
     clear hK K
     refine norm_ (a' := ?_) ?_ ?_
     rotate_left
     ·show Act.put _ (some 3) _ = _
      simp only [Act.put, List.setIfInBounds_toArray, List.set_cons_zero, List.set_cons_succ, i64_w, i32_w]
      rfl
     exact norm_ qQx10s15_ (hCont (v159, .slice Ao9 y161.length co9, gb164) _ qQx10s6_)
    ·skip
     refine box_step ?hg (N := 3) ?hd (cs := #[.int .i64 0, .int .i64 0, .int .i64 0, .string (⟨#[]⟩ : ByteArray), .slice none 0 0, .slice none 0 0]) (t := 28) ?hr ?_; (case hd => rfl); (case hg => rfl); (case hr => exact qQx10s12_)
     intro gb164 hg w8 hbox hb
     have n0_ := Aside0.mk (Kd.R_below qQx10s10_ hb)
     have n1_ := Aside0.mk (blk_below (g := gb156) (o := .cells #[.int .i64 a0_0, .int .i64 a0_1, .int .i64 a0_2, .string a0_3, .slice A0_4 l0_4.length c0_4, .slice A0_5 l0_5.length c0_5] 28 (0, 0)) qQx10s1_ hb)
     have n2_ := Aside0.mk (blk_below (g := gb157) (o := .cells #[.int .i64 0, .int .i64 0, .int .i64 0, .string (⟨#[]⟩ : ByteArray), .slice none 0 0, .slice none 0 0] 28 (0, 0)) qQx10s3_ hb)
     have n3_ := Aside0.mk (below_step qQx10s2_ hb)
     have n4_ := Aside0.mk (hbox)
     have n5_ := Aside0.mk ((by rw [hg]; exact (below_size qQx10s2_) : w.heap.size ≤ gb164))
     have n6_ := Aside0.mk ((by rw [hg]; exact (below_size qQx10s2_) : w.heap.size ≤ gb164))
     have n7_ := Aside0.mk ((by rw [hg]; exact Nat.ne_of_lt (blk_lt (g := gb156) (o := .cells #[.int .i64 a0_0, .int .i64 a0_1, .int .i64 a0_2, .string a0_3, .slice A0_4 l0_4.length c0_4, .slice A0_5 l0_5.length c0_5] 28 (0, 0)) qQx10s1_) : gb156 ≠ gb164))
     have n8_ := Aside0.mk ((by rw [hg]; exact Nat.ne_of_gt (blk_lt (g := gb156) (o := .cells #[.int .i64 a0_0, .int .i64 a0_1, .int .i64 a0_2, .string a0_3, .slice A0_4 l0_4.length c0_4, .slice A0_5 l0_5.length c0_5] 28 (0, 0)) qQx10s1_) : gb164 ≠ gb156))
     have n9_ := Aside0.mk ((by rw [hg]; exact Nat.ne_of_lt (blk_lt (g := gb157) (o := .cells #[.int .i64 0, .int .i64 0, .int .i64 0, .string (⟨#[]⟩ : ByteArray), .slice none 0 0, .slice none 0 0] 28 (0, 0)) qQx10s3_) : gb157 ≠ gb164))
     have n10_ := Aside0.mk ((by rw [hg]; exact Nat.ne_of_gt (blk_lt (g := gb157) (o := .cells #[.int .i64 0, .int .i64 0, .int .i64 0, .string (⟨#[]⟩ : ByteArray), .slice none 0 0, .slice none 0 0] 28 (0, 0)) qQx10s3_) : gb164 ≠ gb157))
     clear HO160
     clear BK156
     clear BK157
     clear HB
     have HO160 := n0_
     have BK156 := n1_
     have BK157 := n2_
     have HB := n3_
     have BK164 := n4_
     have GW164 := n5_
     have GE164 := n6_
     have NB156_164 := n7_
     have NB164_156 := n8_
     have NB157_164 := n9_
     have NB164_157 := n10_
     clear n0_ n1_ n2_ n3_ n4_ n5_ n6_ n7_ n8_ n9_ n10_
     clear hb hbox hg
     refine hK.out _ _ qQx10s4_ (fun hHeld => ?_)
     clear hK K
     refine norm_ (a' := ?_) ?_ ?_
     rotate_left
     ·show Act.put _ (some 3) _ = _
      simp only [Act.put, List.setIfInBounds_toArray, List.set_cons_zero, List.set_cons_succ, i64_w, i32_w]
      rfl
     refine one_ (i := 9) (N := some 14) #[true, true, true, true, true, true, true, true, true, true, false, true, false] rfl rfl (one_of HT_.out (by kernel_rfl)) (by decide) (fun K hK => ?_)
     refine Kd.R_append_rows_step Kd.string (w0 := w) w.heap.size (by rfl) (.tmp 11) (.tmp 13) 26 9 (.string ⟨#[]⟩) 16 rfl Tryd.underlying26 info9 rfl (by decide) (by omega) v159 y158 l0_5 _ _ _ (fun _ => True) (fun _ => False) rfl rfl ?aO ?aR (fun _ _ h => h) (fun _ h => h.elim) ?aF ?aB ?aS ?aL ?_
     (case aR => exact qQx10s8_)
     (case aB => exact qQx10s0_)
     (case aF => exact (by exact (fun _ _ => trivial)))
     (case aO => exact qQx10s10_)
     (case aS => exact (by exact (below_size qQx10s0_)))
     (case aL => exact (by have := LMc2.out; omega))
     intro v162 w9 ho hb hg hat
     rw [← Ny161.out] at ho
     have n0_ := Aside0.mk (blk_grown (g := gb156) (o := .cells #[.int .i64 a0_0, .int .i64 a0_1, .int .i64 a0_2, .string a0_3, .slice A0_4 l0_4.length c0_4, .slice A0_5 l0_5.length c0_5] 28 (0, 0)) qQx10s1_ hg (Kd.R_ne HO160.out BK156.out (by decide)))
     have n1_ := Aside0.mk (blk_grown (g := gb157) (o := .cells #[.int .i64 0, .int .i64 0, .int .i64 0, .string (⟨#[]⟩ : ByteArray), .slice none 0 0, .slice none 0 0] 28 (0, 0)) qQx10s3_ hg (Kd.R_ne HO160.out BK157.out (by decide)))
     have n2_ := Aside0.mk (blk_grown (g := gb164) (o := .cells #[.int .i64 0, .int .i64 0, .int .i64 0, .string (⟨#[]⟩ : ByteArray), .slice none 0 0, .slice none 0 0] 28 (0, 0)) qQx10s5_ hg (Kd.R_ne HO160.out BK164.out (by decide)))
     have n3_ := Aside0.mk (hb)
     have n4_ := Aside0.mk (ho)
     clear BK156
     clear BK157
     clear BK164
     clear HB
     clear HO160
     have BK156 := n0_
     have BK157 := n1_
     have BK164 := n2_
     have HB := n3_
     have HO163 := n4_
     clear n0_ n1_ n2_ n3_ n4_
     clear ho hb hg hat
     obtain ⟨Ao10, co10, eo10⟩ := Kd.R_slice HO163.out
     (first | subst eo10 | (injection eo10 with f1_ f2_ f3_; have f4_ := f1_.symm; have f5_ := f3_.symm; clear f1_ f2_ f3_; subst f4_; subst f5_))
     refine hK.out _ _ qQx10s4_ (fun hHeld => ?_)
     clear hK K
     refine norm_ (a' := ?_) ?_ ?_
     rotate_left
     ·show Act.put _ (some 14) _ = _
      simp only [Act.put, List.setIfInBounds_toArray, List.set_cons_zero, List.set_cons_succ, i64_w, i32_w]
      rfl
     refine pure_ (i := 10) (N := some 15) (v := ?_) (a' := ?_) #[true, true, true, true, true, true, true, true, true, true, true, true, false] rfl rfl (any_of HT_.out (by kernel_rfl)) (fun _ _ _ h => h) (Or.inl ⟨by rfl, ?_⟩) ?_ ?_
     rotate_left
     ·intro w'
      go_simp
      with_reducible rfl
     rotate_left
     ·simp only [Act.put, List.setIfInBounds_toArray, List.set_cons_zero, List.set_cons_succ, i64_w, i32_w]
      rfl
     exact norm_ qQx10s15_ (hCont (v159, .slice Ao10 y161.length co10, gb164) _ qQx10s6_)
   ·skip
    refine box_step ?hg (N := 3) ?hd (cs := #[.int .i64 0, .int .i64 0, .int .i64 0, .string (⟨#[]⟩ : ByteArray), .slice none 0 0, .slice none 0 0]) (t := 28) ?hr ?_; (case hd => rfl); (case hg => rfl); (case hr => exact qQx10s12_)
    intro gb164 hg w6 hbox hb
    have n0_ := Aside0.mk (blk_below (g := gb156) (o := .cells #[.int .i64 a0_0, .int .i64 a0_1, .int .i64 a0_2, .string a0_3, .slice A0_4 l0_4.length c0_4, .slice A0_5 l0_5.length c0_5] 28 (0, 0)) qQx10s1_ hb)
    have n1_ := Aside0.mk (blk_below (g := gb157) (o := .cells #[.int .i64 0, .int .i64 0, .int .i64 0, .string (⟨#[]⟩ : ByteArray), .slice none 0 0, .slice none 0 0] 28 (0, 0)) qQx10s3_ hb)
    have n2_ := Aside0.mk (below_step qQx10s2_ hb)
    have n3_ := Aside0.mk (hbox)
    have n4_ := Aside0.mk ((by rw [hg]; exact (below_size qQx10s2_) : w.heap.size ≤ gb164))
    have n5_ := Aside0.mk ((by rw [hg]; exact (below_size qQx10s2_) : w.heap.size ≤ gb164))
    have n6_ := Aside0.mk ((by rw [hg]; exact Nat.ne_of_lt (blk_lt (g := gb156) (o := .cells #[.int .i64 a0_0, .int .i64 a0_1, .int .i64 a0_2, .string a0_3, .slice A0_4 l0_4.length c0_4, .slice A0_5 l0_5.length c0_5] 28 (0, 0)) qQx10s1_) : gb156 ≠ gb164))
    have n7_ := Aside0.mk ((by rw [hg]; exact Nat.ne_of_gt (blk_lt (g := gb156) (o := .cells #[.int .i64 a0_0, .int .i64 a0_1, .int .i64 a0_2, .string a0_3, .slice A0_4 l0_4.length c0_4, .slice A0_5 l0_5.length c0_5] 28 (0, 0)) qQx10s1_) : gb164 ≠ gb156))
    have n8_ := Aside0.mk ((by rw [hg]; exact Nat.ne_of_lt (blk_lt (g := gb157) (o := .cells #[.int .i64 0, .int .i64 0, .int .i64 0, .string (⟨#[]⟩ : ByteArray), .slice none 0 0, .slice none 0 0] 28 (0, 0)) qQx10s3_) : gb157 ≠ gb164))
    have n9_ := Aside0.mk ((by rw [hg]; exact Nat.ne_of_gt (blk_lt (g := gb157) (o := .cells #[.int .i64 0, .int .i64 0, .int .i64 0, .string (⟨#[]⟩ : ByteArray), .slice none 0 0, .slice none 0 0] 28 (0, 0)) qQx10s3_) : gb164 ≠ gb157))
    clear BK156
    clear BK157
    clear HB
    have BK156 := n0_
    have BK157 := n1_
    have HB := n2_
    have BK164 := n3_
    have GW164 := n4_
    have GE164 := n5_
    have NB156_164 := n6_
    have NB164_156 := n7_
    have NB157_164 := n8_
    have NB164_157 := n9_
    clear n0_ n1_ n2_ n3_ n4_ n5_ n6_ n7_ n8_ n9_
    clear hb hbox hg
    refine hK.out _ _ qQx10s4_ (fun hHeld => ?_)
    clear hK K
    refine norm_ (a' := ?_) ?_ ?_
    rotate_left
    ·show Act.put _ (some 3) _ = _
     simp only [Act.put, List.setIfInBounds_toArray, List.set_cons_zero, List.set_cons_succ, i64_w, i32_w]
     rfl
    refine one_ (i := 6) (N := some 11) #[true, true, true, true, true, true, true, true, true, false, false, true, false] rfl rfl (one_of HT_.out (by kernel_rfl)) (by decide) (fun K hK => ?_)
    refine Kd.R_lit_step Kd.string _ 9 ?hg (N := 11) ?hd (xs := ([] : List ByteArray)) (inner := []) (ok := fun _ => True) (okp := fun _ => True) ?hr ?hp (fun _ hk => hk) trivial (Below.refl _ _) (Nat.le_refl _) (by simp) ?_; (case hd => rfl); (case hg => rfl); (case hr => exact qQx10s12_); (case hp => exact (by exact (Reps.none _ _)))
    intro v159 w7 ho8 hb hg_ hnew_
    clear hg_ hnew_
    (first | rw [← Ny158.out] at ho8 | (simp only [Int.reduceToNat] at ho8; rw [← Ny158.out] at ho8))
    have n0_ := Aside0.mk (Kd.R_lower ho8 (below_size qQx10s0_))
    have n1_ := Aside0.mk (blk_below (g := gb156) (o := .cells #[.int .i64 a0_0, .int .i64 a0_1, .int .i64 a0_2, .string a0_3, .slice A0_4 l0_4.length c0_4, .slice A0_5 l0_5.length c0_5] 28 (0, 0)) qQx10s1_ hb)
    have n2_ := Aside0.mk (blk_below (g := gb157) (o := .cells #[.int .i64 0, .int .i64 0, .int .i64 0, .string (⟨#[]⟩ : ByteArray), .slice none 0 0, .slice none 0 0] 28 (0, 0)) qQx10s3_ hb)
    have n3_ := Aside0.mk (blk_below (g := gb164) (o := .cells #[.int .i64 0, .int .i64 0, .int .i64 0, .string (⟨#[]⟩ : ByteArray), .slice none 0 0, .slice none 0 0] 28 (0, 0)) qQx10s5_ hb)
    have n4_ := Aside0.mk (below_step qQx10s0_ hb)
    clear BK156
    clear BK157
    clear BK164
    clear HB
    have HO160 := n0_
    have BK156 := n1_
    have BK157 := n2_
    have BK164 := n3_
    have HB := n4_
    clear n0_ n1_ n2_ n3_ n4_
    clear hb ho8
    refine hK.out _ _ qQx10s4_ (fun hHeld => ?_)
    clear hK K
    refine norm_ (a' := ?_) ?_ ?_
    rotate_left
    ·show Act.put _ (some 11) _ = _
     simp only [Act.put, List.setIfInBounds_toArray, List.set_cons_zero, List.set_cons_succ, i64_w, i32_w]
     rfl
    refine one_ (i := 9) (N := some 14) #[true, true, true, true, true, true, true, true, true, true, false, true, false] rfl rfl (one_of HT_.out (by kernel_rfl)) (by decide) (fun K hK => ?_)
    refine Kd.R_append_rows_step Kd.string (w0 := w) w.heap.size (by rfl) (.tmp 11) (.tmp 13) 26 9 (.string ⟨#[]⟩) 16 rfl Tryd.underlying26 info9 rfl (by decide) (by omega) v159 y158 l0_5 _ _ _ (fun _ => True) (fun _ => False) rfl rfl ?aO ?aR (fun _ _ h => h) (fun _ h => h.elim) ?aF ?aB ?aS ?aL ?_
    (case aR => exact qQx10s8_)
    (case aB => exact qQx10s0_)
    (case aF => exact (by exact (fun _ _ => trivial)))
    (case aO => exact qQx10s10_)
    (case aS => exact (by exact (below_size qQx10s0_)))
    (case aL => exact (by have := LMc2.out; omega))
    intro v162 w9 ho hb hg hat
    rw [← Ny161.out] at ho
    have n0_ := Aside0.mk (blk_grown (g := gb156) (o := .cells #[.int .i64 a0_0, .int .i64 a0_1, .int .i64 a0_2, .string a0_3, .slice A0_4 l0_4.length c0_4, .slice A0_5 l0_5.length c0_5] 28 (0, 0)) qQx10s1_ hg (Kd.R_ne HO160.out BK156.out (by decide)))
    have n1_ := Aside0.mk (blk_grown (g := gb157) (o := .cells #[.int .i64 0, .int .i64 0, .int .i64 0, .string (⟨#[]⟩ : ByteArray), .slice none 0 0, .slice none 0 0] 28 (0, 0)) qQx10s3_ hg (Kd.R_ne HO160.out BK157.out (by decide)))
    have n2_ := Aside0.mk (blk_grown (g := gb164) (o := .cells #[.int .i64 0, .int .i64 0, .int .i64 0, .string (⟨#[]⟩ : ByteArray), .slice none 0 0, .slice none 0 0] 28 (0, 0)) qQx10s5_ hg (Kd.R_ne HO160.out BK164.out (by decide)))
    have n3_ := Aside0.mk (hb)
    have n4_ := Aside0.mk (ho)
    clear BK156
    clear BK157
    clear BK164
    clear HB
    clear HO160
    have BK156 := n0_
    have BK157 := n1_
    have BK164 := n2_
    have HB := n3_
    have HO163 := n4_
    clear n0_ n1_ n2_ n3_ n4_
    clear ho hb hg hat
    obtain ⟨Ao10, co10, eo10⟩ := Kd.R_slice HO163.out
    (first | subst eo10 | (injection eo10 with f1_ f2_ f3_; have f4_ := f1_.symm; have f5_ := f3_.symm; clear f1_ f2_ f3_; subst f4_; subst f5_))
    refine hK.out _ _ qQx10s4_ (fun hHeld => ?_)
    clear hK K
    refine norm_ (a' := ?_) ?_ ?_
    rotate_left
    ·show Act.put _ (some 14) _ = _
     simp only [Act.put, List.setIfInBounds_toArray, List.set_cons_zero, List.set_cons_succ, i64_w, i32_w]
     rfl
    refine pure_ (i := 10) (N := some 15) (v := ?_) (a' := ?_) #[true, true, true, true, true, true, true, true, true, true, true, true, false] rfl rfl (any_of HT_.out (by kernel_rfl)) (fun _ _ _ h => h) (Or.inl ⟨by rfl, ?_⟩) ?_ ?_
    rotate_left
    ·intro w'
     go_simp
     with_reducible rfl
    rotate_left
    ·simp only [Act.put, List.setIfInBounds_toArray, List.set_cons_zero, List.set_cons_succ, i64_w, i32_w]
     rfl
    exact norm_ qQx10s15_ (hCont (v159, .slice Ao10 y161.length co10, gb164) _ qQx10s6_)
  rintro ⟨v159, v162, gb164⟩ w11 ⟨hS_, h0_, h1_, h2_, h3_, h4_, h5_, h6_, h7_, h8_, h9_, h10_⟩
  have n0_ : Aside0 (Kd.R Kd.string 9 w11 w.heap.size (fun _ => True) v162 y161) := ⟨h0_⟩
  have n1_ : Aside0 (w11.heap[gb156]? = some (.cells #[.int .i64 a0_0, .int .i64 a0_1, .int .i64 a0_2, .string a0_3, .slice A0_4 l0_4.length c0_4, .slice A0_5 l0_5.length c0_5] 28 (0, 0))) := ⟨h1_⟩
  have n2_ : Aside0 (w11.heap[gb157]? = some (.cells #[.int .i64 0, .int .i64 0, .int .i64 0, .string (⟨#[]⟩ : ByteArray), .slice none 0 0, .slice none 0 0] 28 (0, 0))) := ⟨h2_⟩
  have n3_ : Aside0 (w11.heap[gb164]? = some (.cells #[.int .i64 0, .int .i64 0, .int .i64 0, .string (⟨#[]⟩ : ByteArray), .slice none 0 0, .slice none 0 0] 28 (0, 0))) := ⟨h3_⟩
  have n4_ : Aside0 (w.heap.size ≤ gb164) := ⟨h4_⟩
  have n5_ : Aside0 (w.heap.size ≤ gb164) := ⟨h5_⟩
  have n6_ : Aside0 (gb156 ≠ gb164) := ⟨h6_⟩
  have n7_ : Aside0 (gb164 ≠ gb156) := ⟨h7_⟩
  have n8_ : Aside0 (gb157 ≠ gb164) := ⟨h8_⟩
  have n9_ : Aside0 (gb164 ≠ gb157) := ⟨h9_⟩
  have n10_ : Aside0 (Below w.heap.size w w11) := ⟨h10_⟩
  clear BK156
  clear BK157
  clear HB
  clear h0_ h1_ h2_ h3_ h4_ h5_ h6_ h7_ h8_ h9_ h10_
  have HO163 := n0_
  have BK156 := n1_
  have BK157 := n2_
  have BK164 := n3_
  have GW164 := n4_
  have GE164 := n5_
  have NB156_164 := n6_
  have NB164_156 := n7_
  have NB157_164 := n8_
  have NB164_157 := n9_
  have HB := n10_
  clear n0_ n1_ n2_ n3_ n4_ n5_ n6_ n7_ n8_ n9_ n10_
  have hHeld : w11.cell? ⟨gb156, 0, none⟩ = some (.int .i64 a0_0) ∧ w11.cell? ⟨gb156, 1, none⟩ = some (.int .i64 a0_1) ∧ w11.cell? ⟨gb156, 2, none⟩ = some (.int .i64 a0_2) ∧ w11.cell? ⟨gb156, 3, none⟩ = some (.string a0_3) ∧ w11.cell? ⟨gb156, 4, none⟩ = some (.slice A0_4 l0_4.length c0_4) ∧ w11.cell? ⟨gb156, 5, none⟩ = some (.slice A0_5 l0_5.length c0_5) := hS_
  obtain ⟨Ao12, co12, eo12⟩ := Kd.R_slice HO163.out
  (first | subst eo12 | (injection eo12 with f1_ f2_ f3_; have f4_ := f1_.symm; have f5_ := f3_.symm; clear f1_ f2_ f3_; subst f4_; subst f5_))
  refine norm_ (a' := ?_) ?_ ?_
  rotate_left
  ·simp only [putAll, Act.put, List.setIfInBounds_toArray, List.set_cons_zero, List.set_cons_succ]
   rfl
  refine one_ (i := 12) (N := none) #[true, true, true, true, true, true, true, true, true, true, true, true, true] rfl rfl (one_of HT_.out (by kernel_rfl)) (by decide) (fun K hK => ?_)
  have hs13 : w11.cell? ⟨gb164, 0, none⟩ = some (.int .i64 0) := (blk_cell BK164.out 0).trans rfl
  have hfs13 := blk_frozen BK164.out 0
  have hns13_0 := NB156_164.out
  have hns13_1 := NB157_164.out
  have hms13_0 := NB164_156.out
  have hms13_1 := NB164_157.out
  have hs14 : w11.cell? ⟨gb164, 1, none⟩ = some (.int .i64 0) := (blk_cell BK164.out 1).trans rfl
  have hfs14 := blk_frozen BK164.out 1
  have hns14_0 := NB156_164.out
  have hns14_1 := NB157_164.out
  have hms14_0 := NB164_156.out
  have hms14_1 := NB164_157.out
  have hs15 : w11.cell? ⟨gb164, 2, none⟩ = some (.int .i64 0) := (blk_cell BK164.out 2).trans rfl
  have hfs15 := blk_frozen BK164.out 2
  have hns15_0 := NB156_164.out
  have hns15_1 := NB157_164.out
  have hms15_0 := NB164_156.out
  have hms15_1 := NB164_157.out
  have hs16 : w11.cell? ⟨gb164, 3, none⟩ = some (.string (⟨#[]⟩ : ByteArray)) := (blk_cell BK164.out 3).trans rfl
  have hfs16 := blk_frozen BK164.out 3
  have hns16_0 := NB156_164.out
  have hns16_1 := NB157_164.out
  have hms16_0 := NB164_156.out
  have hms16_1 := NB164_157.out
  have hs17 : w11.cell? ⟨gb164, 4, none⟩ = some (.slice none 0 0) := (blk_cell BK164.out 4).trans rfl
  have hfs17 := blk_frozen BK164.out 4
  have hns17_0 := NB156_164.out
  have hns17_1 := NB157_164.out
  have hms17_0 := NB164_156.out
  have hms17_1 := NB164_157.out
  have hs18 : w11.cell? ⟨gb164, 5, none⟩ = some (.slice none 0 0) := (blk_cell BK164.out 5).trans rfl
  have hfs18 := blk_frozen BK164.out 5
  have hns18_0 := NB156_164.out
  have hns18_1 := NB157_164.out
  have hms18_0 := NB164_156.out
  have hms18_1 := NB164_157.out
  refine skip_ (w1 := ?_) (by rfl) rfl ?_ ?_
  rotate_left
  ·go_simp
   rfl
  refine hK.out _ _ ⟨((cell_far (p := ⟨gb164, _, none⟩) NB156_164.out _).trans (((cell_far (p := ⟨gb164, _, none⟩) NB156_164.out _).trans (((cell_far (p := ⟨gb164, _, none⟩) NB156_164.out _).trans (((cell_far (p := ⟨gb164, _, none⟩) NB156_164.out _).trans (((cell_far (p := ⟨gb164, _, none⟩) NB156_164.out _).trans (((cell_far (p := ⟨gb164, _, none⟩) NB156_164.out _).trans (hHeld.1)))))))))))), ((cell_far (p := ⟨gb164, _, none⟩) NB156_164.out _).trans (((cell_far (p := ⟨gb164, _, none⟩) NB156_164.out _).trans (((cell_far (p := ⟨gb164, _, none⟩) NB156_164.out _).trans (((cell_far (p := ⟨gb164, _, none⟩) NB156_164.out _).trans (((cell_far (p := ⟨gb164, _, none⟩) NB156_164.out _).trans (((cell_far (p := ⟨gb164, _, none⟩) NB156_164.out _).trans (hHeld.2.1)))))))))))), ((cell_far (p := ⟨gb164, _, none⟩) NB156_164.out _).trans (((cell_far (p := ⟨gb164, _, none⟩) NB156_164.out _).trans (((cell_far (p := ⟨gb164, _, none⟩) NB156_164.out _).trans (((cell_far (p := ⟨gb164, _, none⟩) NB156_164.out _).trans (((cell_far (p := ⟨gb164, _, none⟩) NB156_164.out _).trans (((cell_far (p := ⟨gb164, _, none⟩) NB156_164.out _).trans (hHeld.2.2.1)))))))))))), ((cell_far (p := ⟨gb164, _, none⟩) NB156_164.out _).trans (((cell_far (p := ⟨gb164, _, none⟩) NB156_164.out _).trans (((cell_far (p := ⟨gb164, _, none⟩) NB156_164.out _).trans (((cell_far (p := ⟨gb164, _, none⟩) NB156_164.out _).trans (((cell_far (p := ⟨gb164, _, none⟩) NB156_164.out _).trans (((cell_far (p := ⟨gb164, _, none⟩) NB156_164.out _).trans (hHeld.2.2.2.1)))))))))))), ((cell_far (p := ⟨gb164, _, none⟩) NB156_164.out _).trans (((cell_far (p := ⟨gb164, _, none⟩) NB156_164.out _).trans (((cell_far (p := ⟨gb164, _, none⟩) NB156_164.out _).trans (((cell_far (p := ⟨gb164, _, none⟩) NB156_164.out _).trans (((cell_far (p := ⟨gb164, _, none⟩) NB156_164.out _).trans (((cell_far (p := ⟨gb164, _, none⟩) NB156_164.out _).trans (hHeld.2.2.2.2.1)))))))))))), ((cell_far (p := ⟨gb164, _, none⟩) NB156_164.out _).trans (((cell_far (p := ⟨gb164, _, none⟩) NB156_164.out _).trans (((cell_far (p := ⟨gb164, _, none⟩) NB156_164.out _).trans (((cell_far (p := ⟨gb164, _, none⟩) NB156_164.out _).trans (((cell_far (p := ⟨gb164, _, none⟩) NB156_164.out _).trans (((cell_far (p := ⟨gb164, _, none⟩) NB156_164.out _).trans (hHeld.2.2.2.2.2))))))))))))⟩ (fun hHeld => ?_)
  clear hK K
  refine done_ (done_of HT_.out (by kernel_rfl)) ?_
  try go_wp2
  go_loopg [4] k (fun kq v4 w' => ∃ (x4_1 : Int) (x165004_1 : List (S28)) (u165004 : Value), v4 = .int .i64 x4_1 ∧ Aside0 (spec_l13Copy.l0 kq x4_1 a0_0 a0_1 a0_2 a0_3 l0_4 l0_5 a0_0 a0_1 a0_2 a0_3 x165004_1 y161 = some (r1, r2, r3, r4, r5, r6)) ∧ Aside0 (kq ≤ k) ∧ Aside0 (Kd.R k28 28 w' w.heap.size (fun k_ => some k_ ≠ ((.slice Ao12 y161.length co12) : Value).ownBlock ∧ k_ ≠ gb156 ∧ k_ ≠ gb157 ∧ k_ ≠ gb164) u165004 x165004_1) ∧ Aside0 (Kd.R Kd.string 9 w' w.heap.size (fun _ => True) (.slice Ao12 y161.length co12) y161) ∧ Aside0 (w'.heap[gb156]? = some (.cells #[.int .i64 a0_0, .int .i64 a0_1, .int .i64 a0_2, .string a0_3, (.slice A0_4 l0_4.length c0_4), (.slice A0_5 l0_5.length c0_5)] 28 (0, 0))) ∧ Aside0 (w'.heap[gb157]? = some (.cells #[.int .i64 0, .int .i64 0, .int .i64 0, .string (⟨#[]⟩ : ByteArray), (.slice none 0 0), (.slice none 0 0)] 28 (0, 0))) ∧ Aside0 (w'.heap[gb164]? = some (.cells #[.int .i64 a0_0, .int .i64 a0_1, .int .i64 a0_2, .string a0_3, u165004, (.slice Ao12 y161.length co12)] 28 (0, 0))) ∧ Aside0 (Below w.heap.size w w'))
  case atStart => exact ⟨(0), (([] : List (S28))), (.slice none 0 0), (by first | rfl | (simp; done) | (simp [*]; done)), H', ⟨Nat.le_refl _⟩, ⟨by first | exact Kd.R_nil _ _ _ _ _ | exact Kd.N_nil _ _ _ _ _ | exact Kd.V_nil _ _ _ _ _ | exact Kd.Q_nil _ _ _ _ _ | exact Kd.S_nil _ _ _ _ _⟩, ⟨(by (with_reducible repeat (first | apply Kd.R_alloc | apply Kd.R_drewN | apply Kd.R_drew)); exact Kd.R_mono (Kd.R_far (p := ⟨gb164, 5, none⟩) (Kd.R_far (p := ⟨gb164, 4, none⟩) (Kd.R_far (p := ⟨gb164, 3, none⟩) (Kd.R_far (p := ⟨gb164, 2, none⟩) (Kd.R_far (p := ⟨gb164, 1, none⟩) (Kd.R_far (p := ⟨gb164, 0, none⟩) (Kd.R_types HO163.out BK164.out (by decide)) (fun _ hk => hk.2) (.int .i64 a0_0)) (fun _ hk => hk.2) (.int .i64 a0_1)) (fun _ hk => hk.2) (.int .i64 a0_2)) (fun _ hk => hk.2) (.string a0_3)) (fun _ hk => hk.2) (.slice none 0 0)) (fun _ hk => hk.2) (.slice Ao12 y161.length co12)) (fun _ hk => trivial))⟩, ⟨(by (with_reducible repeat (first | refine blk_drewN ?_ _ | refine blk_drew ?_ | refine blk_alloc ?_ _)); refine blk_far ?_ NB156_164.out _; (with_reducible repeat (first | refine blk_drewN ?_ _ | refine blk_drew ?_ | refine blk_alloc ?_ _)); refine blk_far ?_ NB156_164.out _; (with_reducible repeat (first | refine blk_drewN ?_ _ | refine blk_drew ?_ | refine blk_alloc ?_ _)); refine blk_far ?_ NB156_164.out _; (with_reducible repeat (first | refine blk_drewN ?_ _ | refine blk_drew ?_ | refine blk_alloc ?_ _)); refine blk_far ?_ NB156_164.out _; (with_reducible repeat (first | refine blk_drewN ?_ _ | refine blk_drew ?_ | refine blk_alloc ?_ _)); refine blk_far ?_ NB156_164.out _; (with_reducible repeat (first | refine blk_drewN ?_ _ | refine blk_drew ?_ | refine blk_alloc ?_ _)); refine blk_far ?_ NB156_164.out _; (with_reducible repeat (first | refine blk_drewN ?_ _ | refine blk_drew ?_ | refine blk_alloc ?_ _)); exact BK156.out)⟩, ⟨(by (with_reducible repeat (first | refine blk_drewN ?_ _ | refine blk_drew ?_ | refine blk_alloc ?_ _)); refine blk_far ?_ NB157_164.out _; (with_reducible repeat (first | refine blk_drewN ?_ _ | refine blk_drew ?_ | refine blk_alloc ?_ _)); refine blk_far ?_ NB157_164.out _; (with_reducible repeat (first | refine blk_drewN ?_ _ | refine blk_drew ?_ | refine blk_alloc ?_ _)); refine blk_far ?_ NB157_164.out _; (with_reducible repeat (first | refine blk_drewN ?_ _ | refine blk_drew ?_ | refine blk_alloc ?_ _)); refine blk_far ?_ NB157_164.out _; (with_reducible repeat (first | refine blk_drewN ?_ _ | refine blk_drew ?_ | refine blk_alloc ?_ _)); refine blk_far ?_ NB157_164.out _; (with_reducible repeat (first | refine blk_drewN ?_ _ | refine blk_drew ?_ | refine blk_alloc ?_ _)); refine blk_far ?_ NB157_164.out _; (with_reducible repeat (first | refine blk_drewN ?_ _ | refine blk_drew ?_ | refine blk_alloc ?_ _)); exact BK157.out)⟩, ⟨(by (with_reducible repeat (first | refine blk_drewN ?_ _ | refine blk_drew ?_ | refine blk_alloc ?_ _)); refine blk_put (cs := #[.int .i64 a0_0, .int .i64 a0_1, .int .i64 a0_2, .string a0_3, .slice none 0 0, .slice none 0 0]) ?_ 5 _ rfl; (with_reducible repeat (first | refine blk_drewN ?_ _ | refine blk_drew ?_ | refine blk_alloc ?_ _)); refine blk_put (cs := #[.int .i64 a0_0, .int .i64 a0_1, .int .i64 a0_2, .string a0_3, .slice none 0 0, .slice none 0 0]) ?_ 4 _ rfl; (with_reducible repeat (first | refine blk_drewN ?_ _ | refine blk_drew ?_ | refine blk_alloc ?_ _)); refine blk_put (cs := #[.int .i64 a0_0, .int .i64 a0_1, .int .i64 a0_2, .string (⟨#[]⟩ : ByteArray), .slice none 0 0, .slice none 0 0]) ?_ 3 _ rfl; (with_reducible repeat (first | refine blk_drewN ?_ _ | refine blk_drew ?_ | refine blk_alloc ?_ _)); refine blk_put (cs := #[.int .i64 a0_0, .int .i64 a0_1, .int .i64 0, .string (⟨#[]⟩ : ByteArray), .slice none 0 0, .slice none 0 0]) ?_ 2 _ rfl; (with_reducible repeat (first | refine blk_drewN ?_ _ | refine blk_drew ?_ | refine blk_alloc ?_ _)); refine blk_put (cs := #[.int .i64 a0_0, .int .i64 0, .int .i64 0, .string (⟨#[]⟩ : ByteArray), .slice none 0 0, .slice none 0 0]) ?_ 1 _ rfl; (with_reducible repeat (first | refine blk_drewN ?_ _ | refine blk_drew ?_ | refine blk_alloc ?_ _)); refine blk_put (cs := #[.int .i64 0, .int .i64 0, .int .i64 0, .string (⟨#[]⟩ : ByteArray), .slice none 0 0, .slice none 0 0]) ?_ 0 _ rfl; (with_reducible repeat (first | refine blk_drewN ?_ _ | refine blk_drew ?_ | refine blk_alloc ?_ _)); exact BK164.out)⟩, ⟨qQx10s0_⟩⟩
  case round =>
   clear H'
   try clear c2
   try clear p2
   try clear c4
   obtain ⟨x4_1, x165004_1, u165004, rfl, HA, HK1, HO_165004, HO_165005, BK156, BK157, BK164, HB⟩ := hrel
   cases gk with
   | zero => exact absurd HA.out (by simp [spec_l13Copy.l0])
   | succ k1 =>
    have H := HA.out
    clear HA
    simp only [spec_l13Copy.l0] at H
    by_cases c19 : x4_1 < (l0_4.length : Int)
    ·rw [if_pos c19] at H
     have c19b0 : decide (x4_1 < (l0_4.length : Int)) = true := decide_eq_true c19
     clear c19
     by_cases c20 : 0 ≤ x4_1
     ·rw [if_pos c20] at H
      have c20b0 : decide (0 ≤ x4_1) = true := decide_eq_true c20
      have c20q := c20
      clear c20
      replace H := Option.bind_eq_some_iff.mp H
      obtain ⟨⟨t166, t167, t168, t169, t170, t173⟩, A210, H⟩ := H
      replace H : (if x165004_1.length < 1599289640401 then (spec_l13Copy.l0 k1 (wrap64 (x4_1 + 1)) a0_0 a0_1 a0_2 a0_3 l0_4 l0_5 a0_0 a0_1 a0_2 a0_3 (x165004_1 ++ [(⟨t166, (⟨t167, t168⟩ : S24), t169, t170, t173⟩ : S28)]) y161) else (none)) = some (r1, r2, r3, r4, r5, r6) := H
      have A21 := Aside0.mk A210
      clear A210
      by_cases c22 : x165004_1.length < 1599289640401
      ·rw [if_pos c22] at H
       have LMc22 := Aside0.mk c22
       clear c22
       obtain ⟨y176, hy176⟩ : ∃ y_ : List (S28), y_ = (x165004_1 ++ [(⟨t166, (⟨t167, t168⟩ : S24), t169, t170, t173⟩ : S28)]) := ⟨_, rfl⟩
       replace H : (spec_l13Copy.l0 k1 (wrap64 (x4_1 + 1)) a0_0 a0_1 a0_2 a0_3 l0_4 l0_5 a0_0 a0_1 a0_2 a0_3 y176 y161) = some (r1, r2, r3, r4, r5, r6) := by first | (rw [hy176]; with_reducible exact H) | (have H2_ := (Option.bind_some _ _).symm.trans H; rw [hy176]; with_reducible exact H2_) | (have H2_ := (Option.bind_some _ _).symm.trans H; with_reducible exact H2_) | with_reducible exact H | (rw [hy176]; exact H) | exact H
       have Ny176 := Aside0.mk hy176
       clear hy176
       have H' := Aside0.mk H
       clear H
       have hnb23 := NB156_157.out
       have hnc23 := NB157_156.out
       have hnb24 := NB156_164.out
       have hnc24 := NB164_156.out
       have hcz25_0 : wr.cell? ⟨gb156, 0, none⟩ = some (.int .i64 a0_0) := (blk_cell BK156.out 0).trans rfl
       have hcz25_1 : wr.cell? ⟨gb156, 1, none⟩ = some (.int .i64 a0_1) := (blk_cell BK156.out 1).trans rfl
       have hcz25_2 : wr.cell? ⟨gb156, 2, none⟩ = some (.int .i64 a0_2) := (blk_cell BK156.out 2).trans rfl
       have hcz25_3 : wr.cell? ⟨gb156, 3, none⟩ = some (.string a0_3) := (blk_cell BK156.out 3).trans rfl
       have hcz25_4 : wr.cell? ⟨gb156, 4, none⟩ = some (.slice A0_4 l0_4.length c0_4) := (blk_cell BK156.out 4).trans rfl
       have hcz25_5 : wr.cell? ⟨gb156, 5, none⟩ = some (.slice A0_5 l0_5.length c0_5) := (blk_cell BK156.out 5).trans rfl
       have hfz25_0 := blk_frozen BK156.out 0
       have hfz25_1 := blk_frozen BK156.out 1
       have hfz25_2 := blk_frozen BK156.out 2
       have hfz25_3 := blk_frozen BK156.out 3
       have hfz25_4 := blk_frozen BK156.out 4
       have hfz25_5 := blk_frozen BK156.out 5
       try go_wp2
       have n0_ := Aside0.mk (Kd.R_drew HO_165004.out)
       have n1_ := Aside0.mk (Kd.R_drew HO_165005.out)
       have n2_ := Aside0.mk (blk_drew BK156.out)
       have n3_ := Aside0.mk (blk_drew BK157.out)
       have n4_ := Aside0.mk (blk_drew BK164.out)
       have n5_ := Aside0.mk (below_drew1 HB.out)
       clear HO_165004
       clear HO_165005
       clear BK156
       clear BK157
       clear BK164
       clear HB
       have HO_165004 := n0_
       have HO_165005 := n1_
       have BK156 := n2_
       have BK157 := n3_
       have BK164 := n4_
       have HB := n5_
       clear n0_ n1_ n2_ n3_ n4_ n5_
       have p165 : 0 ≤ (x4_1 : Int) := of_decide_eq_true (by first | (with_reducible assumption) | assumption)
       have q165 : x4_1 < (l0_4.length : Int) := of_decide_eq_true (by first | (with_reducible assumption) | assumption)
       obtain ⟨ad165, A165_4, c165_4, A165_5, c165_5, e165, hx165_0, hx165_1, hx165_2, hx165_3, hx165_4, hx165_5, hl165_4, hi165_4, hl165_5, hi165_5⟩ := at_T28 HR0_4.out x4_1 p165 q165
       have hw165_5 := hx165_5
       have hw165_4 := hx165_4
       have hw165_3 := hx165_3
       have hw165_2 := hx165_2
       have hw165_1 := hx165_1
       have hw165_0 := hx165_0
       cases e165
       replace hx165_0 := (HB.out.cell (World.block_lt_of_cell? w _ hx165_0)).trans hx165_0
       replace hx165_1 := (HB.out.cell (World.block_lt_of_cell? w _ hx165_1)).trans hx165_1
       replace hx165_2 := (HB.out.cell (World.block_lt_of_cell? w _ hx165_2)).trans hx165_2
       replace hx165_3 := (HB.out.cell (World.block_lt_of_cell? w _ hx165_3)).trans hx165_3
       replace hx165_4 := (HB.out.cell (World.block_lt_of_cell? w _ hx165_4)).trans hx165_4
       replace hx165_5 := (HB.out.cell (World.block_lt_of_cell? w _ hx165_5)).trans hx165_5
       have HR165_4 := Aside0.mk hi165_4
       have HC165_4 := Aside0.mk hl165_4
       clear hi165_4 hl165_4
       have HR165_5 := Aside0.mk hi165_5
       have HC165_5 := Aside0.mk hl165_5
       clear hi165_5 hl165_5
       replace p165 := eq_true p165
       replace q165 := eq_true q165
       refine start_ (n := 12) (S := fun w' => w'.cell? ⟨gb164, 0, none⟩ = some (.int .i64 a0_0) ∧ w'.cell? ⟨gb164, 1, none⟩ = some (.int .i64 a0_1) ∧ w'.cell? ⟨gb164, 2, none⟩ = some (.int .i64 a0_2) ∧ w'.cell? ⟨gb164, 3, none⟩ = some (.string a0_3) ∧ w'.cell? ⟨gb164, 4, none⟩ = some (u165004) ∧ w'.cell? ⟨gb164, 5, none⟩ = some (.slice Ao12 y161.length co12) ∧ w'.cell? ⟨gb156, 0, none⟩ = some (.int .i64 a0_0) ∧ w'.cell? ⟨gb156, 1, none⟩ = some (.int .i64 a0_1) ∧ w'.cell? ⟨gb156, 2, none⟩ = some (.int .i64 a0_2) ∧ w'.cell? ⟨gb156, 3, none⟩ = some (.string a0_3) ∧ w'.cell? ⟨gb156, 4, none⟩ = some (.slice (some ad165) l0_4.length c0_4) ∧ w'.cell? ⟨gb156, 5, none⟩ = some (.slice A0_5 l0_5.length c0_5) ∧ w'.cell? (ad165.add ((x4_1).toNat * 6)) = some (.int .i64 ((rd_T28 l0_4 x4_1).f0)) ∧ w'.cell? ⟨(ad165.add ((x4_1).toNat * 6)).block, (ad165.add ((x4_1).toNat * 6)).off + 1, none⟩ = some (.int .i64 ((rd_T28 l0_4 x4_1).f1.f0)) ∧ w'.cell? ⟨(ad165.add ((x4_1).toNat * 6)).block, (ad165.add ((x4_1).toNat * 6)).off + 2, none⟩ = some (.int .i64 ((rd_T28 l0_4 x4_1).f1.f1)) ∧ w'.cell? ⟨(ad165.add ((x4_1).toNat * 6)).block, (ad165.add ((x4_1).toNat * 6)).off + 3, none⟩ = some (.string ((rd_T28 l0_4 x4_1).f2)) ∧ w'.cell? ⟨(ad165.add ((x4_1).toNat * 6)).block, (ad165.add ((x4_1).toNat * 6)).off + 4, none⟩ = some (.slice A165_4 ((rd_T28 l0_4 x4_1).f3).length c165_4) ∧ w'.cell? ⟨(ad165.add ((x4_1).toNat * 6)).block, (ad165.add ((x4_1).toNat * 6)).off + 5, none⟩ = some (.slice A165_5 ((rd_T28 l0_4 x4_1).f4).length c165_5)) (ds := [11]) #[false, false, false, false, false, false, false, false, false, false, false, false] (by kernel_rfl) rfl rfl ⟨(blk_cell BK164.out 0).trans rfl, (blk_cell BK164.out 1).trans rfl, (blk_cell BK164.out 2).trans rfl, (blk_cell BK164.out 3).trans rfl, (blk_cell BK164.out 4).trans rfl, (blk_cell BK164.out 5).trans rfl, (blk_cell BK156.out 0).trans rfl, (blk_cell BK156.out 1).trans rfl, (blk_cell BK156.out 2).trans rfl, (blk_cell BK156.out 3).trans rfl, (blk_cell BK156.out 4).trans rfl, (blk_cell BK156.out 5).trans rfl, ((HB.out.cell (World.block_lt_of_cell? w _ hw165_0)).trans hw165_0), ((HB.out.cell (World.block_lt_of_cell? w _ hw165_1)).trans hw165_1), ((HB.out.cell (World.block_lt_of_cell? w _ hw165_2)).trans hw165_2), ((HB.out.cell (World.block_lt_of_cell? w _ hw165_3)).trans hw165_3), ((HB.out.cell (World.block_lt_of_cell? w _ hw165_4)).trans hw165_4), ((HB.out.cell (World.block_lt_of_cell? w _ hw165_5)).trans hw165_5)⟩ (fun hHeld => ?_); refine with_tabW spec_l13Copy.tab5 spec_l13Copy.bits5 (fun HT_ HW_ => ?_)
       generalize wr.drew = w26 at HO_165004 HO_165005 BK156 BK157 BK164 HB HR165_4 HR165_5 hx165_0 hx165_1 hx165_2 hx165_3 hx165_4 hx165_5 hHeld ⊢
       refine pure_ (i := 0) (N := some 23) (v := ?_) (a' := ?_) #[true, false, false, false, false, false, false, false, false, false, false, false] rfl rfl (any_of HT_.out (by kernel_rfl)) (fun _ _ _ h => h) (Or.inl ⟨by rfl, ?_⟩) ?_ ?_
       rotate_left
       ·intro w'
        go_simp
        with_reducible rfl
       rotate_left
       ·simp only [Act.put, List.setIfInBounds_toArray, List.set_cons_zero, List.set_cons_succ, i64_w, i32_w]
        rfl
       refine pure_ (i := 2) (N := some 25) (v := ?_) (a' := ?_) #[true, false, true, false, false, false, false, false, false, false, false, false] rfl rfl (any_of HT_.out (by kernel_rfl)) (fun _ _ _ h => h) (Or.inl ⟨by rfl, ?_⟩) ?_ ?_
       rotate_left
       ·intro w'
        go_simp
        with_reducible rfl
       rotate_left
       ·simp only [Act.put, List.setIfInBounds_toArray, List.set_cons_zero, List.set_cons_succ, i64_w, i32_w]
        rfl
       refine pure_ (i := 4) (N := some 27) (v := ?_) (a' := ?_) #[true, false, true, false, true, false, false, false, false, false, false, false] rfl rfl (any_of HT_.out (by kernel_rfl)) (fun _ _ _ h => h) (Or.inl ⟨by rfl, ?_⟩) ?_ ?_
       rotate_left
       ·intro w'
        go_simp
        with_reducible rfl
       rotate_left
       ·simp only [Act.put, List.setIfInBounds_toArray, List.set_cons_zero, List.set_cons_succ, i64_w, i32_w]
        rfl
       refine take_ (i := 1) (N := some 24) (v := ?_) (a' := ?_) #[true, true, true, false, true, false, false, false, false, false, false, false] rfl rfl qQx10s13_ (fun _ _ _ h => h) (Or.inl ⟨by rfl, ?_⟩) hHeld ?_ ?_
       rotate_left
       ·rintro w' ⟨s0, s1, s2, s3, s4, s5, s6, s7, s8, s9, s10, s11, s12, s13, s14, s15, s16, s17⟩
        go_simp
        with_reducible rfl
       rotate_left
       ·simp only [Act.put, List.setIfInBounds_toArray, List.set_cons_zero, List.set_cons_succ, i64_w, i32_w]
        rfl
       refine take_ (i := 3) (N := some 26) (v := ?_) (a' := ?_) #[true, true, true, true, true, false, false, false, false, false, false, false] rfl rfl qQx10s13_ (fun _ _ _ h => h) (Or.inl ⟨by rfl, ?_⟩) hHeld ?_ ?_
       rotate_left
       ·rintro w' ⟨s0, s1, s2, s3, s4, s5, s6, s7, s8, s9, s10, s11, s12, s13, s14, s15, s16, s17⟩
        go_simp
        with_reducible rfl
       rotate_left
       ·simp only [Act.put, List.setIfInBounds_toArray, List.set_cons_zero, List.set_cons_succ, i64_w, i32_w]
        rfl
       refine pure_ (i := 5) (N := some 28) (v := ?_) (a' := ?_) #[true, true, true, true, true, true, false, false, false, false, false, false] rfl rfl (any_of HT_.out (by kernel_rfl)) (fun _ _ _ h => h) (Or.inl ⟨by rfl, ?_⟩) ?_ ?_
       rotate_left
       ·intro w'
        go_simp
        with_reducible rfl
       rotate_left
       ·simp only [Act.put, List.setIfInBounds_toArray, List.set_cons_zero, List.set_cons_succ, i64_w, i32_w]
        rfl
       refine take_ (i := 6) (N := some 29) (v := ?_) (a' := ?_) #[true, true, true, true, true, true, true, false, false, false, false, false] rfl rfl qQx10s13_ (fun _ _ _ h => h) (Or.inl ⟨by rfl, ?_⟩) hHeld ?_ ?_
       rotate_left
       ·rintro w' ⟨s0, s1, s2, s3, s4, s5, s6, s7, s8, s9, s10, s11, s12, s13, s14, s15, s16, s17⟩
        go_simp
        with_reducible rfl
       rotate_left
       ·simp only [Act.put, List.setIfInBounds_toArray, List.set_cons_zero, List.set_cons_succ, i64_w, i32_w]
        rfl
       refine one_ (i := 7) (N := some 30) #[true, true, true, true, true, true, true, true, false, false, false, false] rfl rfl (one_of HT_.out (by kernel_rfl)) (by decide) (fun K hK => ?_)
       refine goes_ Tryd.func47 (by kernel_rfl) rfl #[.agg #[.int .i64 ((rd_T28 l0_4 x4_1).f0), .int .i64 ((rd_T28 l0_4 x4_1).f1.f0), .int .i64 ((rd_T28 l0_4 x4_1).f1.f1), .string ((rd_T28 l0_4 x4_1).f2), .slice A165_4 ((rd_T28 l0_4 x4_1).f3).length c165_4, .slice A165_5 ((rd_T28 l0_4 x4_1).f4).length c165_5]] (by rfl) rfl rfl (by (try simp only [List.map_toArray, List.map_cons, List.map_nil]); first | done | rfl | (simp only [List.length_drop, List.length_take]; rfl)) ?_
       with_reducible refine (ih k1 (by have := HK1.out; omega) ((rd_T28 l0_4 x4_1).f0) ((rd_T28 l0_4 x4_1).f1.f0) ((rd_T28 l0_4 x4_1).f1.f1) ((rd_T28 l0_4 x4_1).f2) _ _ ((rd_T28 l0_4 x4_1).f3) _ _ ((rd_T28 l0_4 x4_1).f4) t166 t167 t168 t169 t170 t173 _ ?side1 ?side2 ?side3 ?side4 A21.out).mono ?_
       (case side1 => exact (by repeat (first | exact (Kd.C_below HR165_4.out HB.out) | (with_reducible refine Kd.C_alloc ?_ _) | (with_reducible refine Kd.C_drewN ?_ _) | (with_reducible refine Kd.C_drew ?_))))
       (case side2 => exact (by exact HC165_4.out))
       (case side3 => exact (by repeat (first | exact (Kd.C_below HR165_5.out HB.out) | (with_reducible refine Kd.C_alloc ?_ _) | (with_reducible refine Kd.C_drewN ?_ _) | (with_reducible refine Kd.C_drew ?_))))
       (case side4 => exact (by exact HC165_5.out))
       rintro e w27 ⟨v171, v174, rfl, ho0, ho1, hb⟩
       refine ⟨_, rfl, ?_⟩
       have n0_ := Aside0.mk (Kd.R_mono (Kd.R_told (Kd.R_told (Kd.R_old qQx10s14_ hb) (Kd.R_base ho0)) (Kd.R_base ho1)) (fun _ h_ => h_.1))
       have n1_ := Aside0.mk (Kd.R_elder' qQx10s7_ (Kd.R_base ho1) hb)
       have n2_ := Aside0.mk (Kd.R_lower (Kd.R_newB (Kd.R_newB (Kd.R_newB (Kd.R_new' (Kd.R_new' ho0 (Kd.R_lt qQx10s14_)) (Kd.R_lt qQx10s7_)) (g := gb156) (o := .cells #[.int .i64 a0_0, .int .i64 a0_1, .int .i64 a0_2, .string a0_3, .slice (some ad165) l0_4.length c0_4, .slice A0_5 l0_5.length c0_5] 28 (0, 0)) qQx10s1_) (g := gb157) (o := .cells #[.int .i64 0, .int .i64 0, .int .i64 0, .string (⟨#[]⟩ : ByteArray), .slice none 0 0, .slice none 0 0] 28 (0, 0)) qQx10s3_) (g := gb164) (o := .cells #[.int .i64 a0_0, .int .i64 a0_1, .int .i64 a0_2, .string a0_3, u165004, .slice Ao12 y161.length co12] 28 (0, 0)) qQx10s5_) (below_size qQx10s0_))
       have n3_ := Aside0.mk (Kd.R_lower (Kd.R_new' ho1 (Kd.R_lt qQx10s7_)) (below_size qQx10s0_))
       have n4_ := Aside0.mk (blk_below (g := gb156) (o := .cells #[.int .i64 a0_0, .int .i64 a0_1, .int .i64 a0_2, .string a0_3, .slice (some ad165) l0_4.length c0_4, .slice A0_5 l0_5.length c0_5] 28 (0, 0)) qQx10s1_ hb)
       have n5_ := Aside0.mk (blk_below (g := gb157) (o := .cells #[.int .i64 0, .int .i64 0, .int .i64 0, .string (⟨#[]⟩ : ByteArray), .slice none 0 0, .slice none 0 0] 28 (0, 0)) qQx10s3_ hb)
       have n6_ := Aside0.mk (blk_below (g := gb164) (o := .cells #[.int .i64 a0_0, .int .i64 a0_1, .int .i64 a0_2, .string a0_3, u165004, .slice Ao12 y161.length co12] 28 (0, 0)) qQx10s5_ hb)
       have n7_ := Aside0.mk (below_step qQx10s0_ hb)
       clear HO_165004
       clear HO_165005
       clear BK156
       clear BK157
       clear BK164
       clear HB
       have HO_165004 := n0_
       have HO_165005 := n1_
       have HO172 := n2_
       have HO175 := n3_
       have BK156 := n4_
       have BK157 := n5_
       have BK164 := n6_
       have HB := n7_
       clear n0_ n1_ n2_ n3_ n4_ n5_ n6_ n7_
       (try clear hb)
       (try clear hb2)
       (try clear hk)
       (try clear hi)
       (try clear ho0)
       (try clear ho1)
       obtain ⟨Ao29, co29, eo29⟩ := Kd.R_slice HO172.out
       (first | subst eo29 | (injection eo29 with f1_ f2_ f3_; have f4_ := f1_.symm; have f5_ := f3_.symm; clear f1_ f2_ f3_; subst f4_; subst f5_))
       obtain ⟨Ao30, co30, eo30⟩ := Kd.R_slice HO175.out
       (first | subst eo30 | (injection eo30 with f1_ f2_ f3_; have f4_ := f1_.symm; have f5_ := f3_.symm; clear f1_ f2_ f3_; subst f4_; subst f5_))
       refine hK.out _ _ ⟨(blk_cell BK164.out 0).trans rfl, (blk_cell BK164.out 1).trans rfl, (blk_cell BK164.out 2).trans rfl, (blk_cell BK164.out 3).trans rfl, (blk_cell BK164.out 4).trans rfl, (blk_cell BK164.out 5).trans rfl, (blk_cell BK156.out 0).trans rfl, (blk_cell BK156.out 1).trans rfl, (blk_cell BK156.out 2).trans rfl, (blk_cell BK156.out 3).trans rfl, (blk_cell BK156.out 4).trans rfl, (blk_cell BK156.out 5).trans rfl, ((HB.out.cell (World.block_lt_of_cell? w _ hw165_0)).trans hw165_0), ((HB.out.cell (World.block_lt_of_cell? w _ hw165_1)).trans hw165_1), ((HB.out.cell (World.block_lt_of_cell? w _ hw165_2)).trans hw165_2), ((HB.out.cell (World.block_lt_of_cell? w _ hw165_3)).trans hw165_3), ((HB.out.cell (World.block_lt_of_cell? w _ hw165_4)).trans hw165_4), ((HB.out.cell (World.block_lt_of_cell? w _ hw165_5)).trans hw165_5)⟩ (fun hHeld => ?_)
       clear hK K
       refine norm_ (a' := ?_) ?_ ?_
       rotate_left
       ·show Act.put _ (some 30) _ = _
        simp only [Act.put, List.setIfInBounds_toArray, List.set_cons_zero, List.set_cons_succ, i64_w, i32_w]
        rfl
       refine one_ (i := 8) (N := some 31) #[true, true, true, true, true, true, true, true, true, false, false, false] rfl rfl (one_of HT_.out (by kernel_rfl)) (by decide) (fun K hK => ?_)
       refine value_ (w1 := ?_) (v := ?_) (by rfl) rfl ?_ ?_
       rotate_left 2
       ·go_simp
        constructor
        ·rfl
        ·rfl
       refine hK.out _ _ ⟨(blk_cell (blk_alloc BK164.out _) 0).trans rfl, (blk_cell (blk_alloc BK164.out _) 1).trans rfl, (blk_cell (blk_alloc BK164.out _) 2).trans rfl, (blk_cell (blk_alloc BK164.out _) 3).trans rfl, (blk_cell (blk_alloc BK164.out _) 4).trans rfl, (blk_cell (blk_alloc BK164.out _) 5).trans rfl, (blk_cell (blk_alloc BK156.out _) 0).trans rfl, (blk_cell (blk_alloc BK156.out _) 1).trans rfl, (blk_cell (blk_alloc BK156.out _) 2).trans rfl, (blk_cell (blk_alloc BK156.out _) 3).trans rfl, (blk_cell (blk_alloc BK156.out _) 4).trans rfl, (blk_cell (blk_alloc BK156.out _) 5).trans rfl, (World.cell?_alloc_lt _ _ _ (World.block_lt_of_cell? _ _ (((HB.out.cell (World.block_lt_of_cell? w _ hw165_0)).trans hw165_0)))).trans (((HB.out.cell (World.block_lt_of_cell? w _ hw165_0)).trans hw165_0)), (World.cell?_alloc_lt _ _ _ (World.block_lt_of_cell? _ _ (((HB.out.cell (World.block_lt_of_cell? w _ hw165_1)).trans hw165_1)))).trans (((HB.out.cell (World.block_lt_of_cell? w _ hw165_1)).trans hw165_1)), (World.cell?_alloc_lt _ _ _ (World.block_lt_of_cell? _ _ (((HB.out.cell (World.block_lt_of_cell? w _ hw165_2)).trans hw165_2)))).trans (((HB.out.cell (World.block_lt_of_cell? w _ hw165_2)).trans hw165_2)), (World.cell?_alloc_lt _ _ _ (World.block_lt_of_cell? _ _ (((HB.out.cell (World.block_lt_of_cell? w _ hw165_3)).trans hw165_3)))).trans (((HB.out.cell (World.block_lt_of_cell? w _ hw165_3)).trans hw165_3)), (World.cell?_alloc_lt _ _ _ (World.block_lt_of_cell? _ _ (((HB.out.cell (World.block_lt_of_cell? w _ hw165_4)).trans hw165_4)))).trans (((HB.out.cell (World.block_lt_of_cell? w _ hw165_4)).trans hw165_4)), (World.cell?_alloc_lt _ _ _ (World.block_lt_of_cell? _ _ (((HB.out.cell (World.block_lt_of_cell? w _ hw165_5)).trans hw165_5)))).trans (((HB.out.cell (World.block_lt_of_cell? w _ hw165_5)).trans hw165_5))⟩ (fun hHeld => ?_)
       clear hK K
       refine norm_ (a' := ?_) ?_ ?_
       rotate_left
       ·show Act.put _ (some 31) _ = _
        simp only [Act.put, List.setIfInBounds_toArray, List.set_cons_zero, List.set_cons_succ, i64_w, i32_w]
        rfl
       refine one_ (i := 9) (N := some 32) #[true, true, true, true, true, true, true, true, true, true, false, false] rfl rfl (one_of HT_.out (by kernel_rfl)) (by decide) (fun K hK => ?_)
       refine Kd.R_append_step k28 (w0 := w) w.heap.size (by rfl) (.tmp 24) (.tmp 31) 25 28 (.agg #[(.int .i64 0), (.int .i64 0), (.int .i64 0), (.string ⟨#[]⟩), (.slice none 0 0), (.slice none 0 0)]) 88 rfl Tryd.underlying25 info28 rfl (by decide) (by omega) u165004 x165004_1 (⟨t166, (⟨t167, t168⟩ : S24), t169, t170, t173⟩ : S28) [.int .i64 t166, .int .i64 t167, .int .i64 t168, .string t169, .slice Ao29 t170.length co29, .slice Ao30 t173.length co30] (fun k_ => some k_ ≠ (.slice Ao12 y161.length co12 : Value).ownBlock ∧ k_ ≠ gb156 ∧ k_ ≠ gb157 ∧ k_ ≠ gb164) (fun k_ => ((fun k_ => some k_ ≠ (.slice Ao12 y161.length co12 : Value).ownBlock ∧ k_ ≠ gb156 ∧ k_ ≠ gb157 ∧ k_ ≠ gb164)) k_ ∧ some k_ ≠ (u165004 : Value).ownBlock) rfl rfl ?aP (fun _ hk => hk) ?aF ?aO ?aB ?aS ?aL ?_
       (case aP => exact (by exact k28_mkM _ _ _ (⟨t166, (⟨t167, t168⟩ : S24), t169, t170, t173⟩ : S28) (Kd.R_mono (HO172.out) (fun k_ hk => ⟨⟨hk.1.1.1.2, ⟨hk.1.1.2, ⟨hk.1.2, hk.2⟩⟩⟩, hk.1.1.1.1.2⟩)) (Kd.R_mono (Kd.R_types (Kd.R_types (Kd.R_types (Kd.R_apart' (HO175.out) (Kd.R_typed HO_165004.out) (by decide)) BK156.out (by decide)) BK157.out (by decide)) BK164.out (by decide)) (fun k_ hk => ⟨⟨hk.1.1.1.1.2, ⟨hk.1.1.2, ⟨hk.1.2, hk.2⟩⟩⟩, hk.1.1.1.2⟩))))
       (case aB => exact qQx10s0_)
       (case aF => exact (by exact (fun k_ hk => ⟨Kd.fresh' (Kd.R_lt qQx10s7_) k_ hk, Kd.freshB (g := gb156) (o := .cells #[.int .i64 a0_0, .int .i64 a0_1, .int .i64 a0_2, .string a0_3, .slice (some ad165) l0_4.length c0_4, .slice A0_5 l0_5.length c0_5] 28 (0, 0)) qQx10s1_ k_ hk, Kd.freshB (g := gb157) (o := .cells #[.int .i64 0, .int .i64 0, .int .i64 0, .string (⟨#[]⟩ : ByteArray), .slice none 0 0, .slice none 0 0] 28 (0, 0)) qQx10s3_ k_ hk, Kd.freshB (g := gb164) (o := .cells #[.int .i64 a0_0, .int .i64 a0_1, .int .i64 a0_2, .string a0_3, u165004, .slice Ao12 y161.length co12] 28 (0, 0)) qQx10s5_ k_ hk⟩)))
       (case aO => exact (by (with_reducible repeat (first | apply Kd.R_alloc | apply Kd.R_drewN | apply Kd.R_drew)); exact Kd.R_mono HO_165004.out (fun _ hk => ⟨hk.1.1.1, ⟨hk.1.1.2.1, ⟨hk.1.1.2.2.1, hk.1.1.2.2.2⟩⟩⟩)))
       (case aS => exact (by exact (below_size qQx10s0_)))
       (case aL => exact (by have := LMc22.out; omega))
       intro v177 w28 ho hb hg hat
       rw [← Ny176.out] at ho
       have n0_ := Aside0.mk (Kd.R_over' qQx10s7_ (Kd.R_typed qQx10s14_) (by decide) hg)
       have n1_ := Aside0.mk (blk_grown (g := gb156) (o := .cells #[.int .i64 a0_0, .int .i64 a0_1, .int .i64 a0_2, .string a0_3, .slice (some ad165) l0_4.length c0_4, .slice A0_5 l0_5.length c0_5] 28 (0, 0)) qQx10s1_ hg (Kd.R_away HO_165004.out (fun _ hk => hk.1.1.2.1)))
       have n2_ := Aside0.mk (blk_grown (g := gb157) (o := .cells #[.int .i64 0, .int .i64 0, .int .i64 0, .string (⟨#[]⟩ : ByteArray), .slice none 0 0, .slice none 0 0] 28 (0, 0)) qQx10s3_ hg (Kd.R_away HO_165004.out (fun _ hk => hk.1.1.2.2.1)))
       have n3_ := Aside0.mk (blk_grown (g := gb164) (o := .cells #[.int .i64 a0_0, .int .i64 a0_1, .int .i64 a0_2, .string a0_3, u165004, .slice Ao12 y161.length co12] 28 (0, 0)) qQx10s5_ hg (Kd.R_away HO_165004.out (fun _ hk => hk.1.1.2.2.2)))
       have n4_ := Aside0.mk (hb)
       have n5_ := Aside0.mk (ho)
       clear HO_165005
       clear BK156
       clear BK157
       clear BK164
       clear HB
       clear HO_165004
       clear HO172
       clear HO175
       have HO_165005 := n0_
       have BK156 := n1_
       have BK157 := n2_
       have BK164 := n3_
       have HB := n4_
       have HO178 := n5_
       clear n0_ n1_ n2_ n3_ n4_ n5_
       clear ho hb hg hat
       obtain ⟨Ao31, co31, eo31⟩ := Kd.R_slice HO178.out
       (first | subst eo31 | (injection eo31 with f1_ f2_ f3_; have f4_ := f1_.symm; have f5_ := f3_.symm; clear f1_ f2_ f3_; subst f4_; subst f5_))
       refine hK.out _ _ ⟨(blk_cell BK164.out 0).trans rfl, (blk_cell BK164.out 1).trans rfl, (blk_cell BK164.out 2).trans rfl, (blk_cell BK164.out 3).trans rfl, (blk_cell BK164.out 4).trans rfl, (blk_cell BK164.out 5).trans rfl, (blk_cell BK156.out 0).trans rfl, (blk_cell BK156.out 1).trans rfl, (blk_cell BK156.out 2).trans rfl, (blk_cell BK156.out 3).trans rfl, (blk_cell BK156.out 4).trans rfl, (blk_cell BK156.out 5).trans rfl, ((HB.out.cell (World.block_lt_of_cell? w _ hw165_0)).trans hw165_0), ((HB.out.cell (World.block_lt_of_cell? w _ hw165_1)).trans hw165_1), ((HB.out.cell (World.block_lt_of_cell? w _ hw165_2)).trans hw165_2), ((HB.out.cell (World.block_lt_of_cell? w _ hw165_3)).trans hw165_3), ((HB.out.cell (World.block_lt_of_cell? w _ hw165_4)).trans hw165_4), ((HB.out.cell (World.block_lt_of_cell? w _ hw165_5)).trans hw165_5)⟩ (fun hHeld => ?_)
       clear hK K
       refine norm_ (a' := ?_) ?_ ?_
       rotate_left
       ·show Act.put _ (some 32) _ = _
        simp only [Act.put, List.setIfInBounds_toArray, List.set_cons_zero, List.set_cons_succ, i64_w, i32_w]
        rfl
       refine pure_ (i := 10) (N := some 33) (v := ?_) (a' := ?_) #[true, true, true, true, true, true, true, true, true, true, true, false] rfl rfl (any_of HT_.out (by kernel_rfl)) (fun _ _ _ h => h) (Or.inl ⟨by rfl, ?_⟩) ?_ ?_
       rotate_left
       ·intro w'
        go_simp
        with_reducible rfl
       rotate_left
       ·simp only [Act.put, List.setIfInBounds_toArray, List.set_cons_zero, List.set_cons_succ, i64_w, i32_w]
        rfl
       refine last_ (i := 11) (N := none) #[true, true, true, true, true, true, true, true, true, true, true, true] rfl rfl (one_of HT_.out (by kernel_rfl)) (by decide) (fun K hK => ?_)
       have hs32 : w28.cell? ⟨gb164, 4, none⟩ = some (u165004) := (blk_cell BK164.out 4).trans rfl
       have hfs32 := blk_frozen BK164.out 4
       have hns32_0 := NB156_164.out
       have hns32_1 := NB157_164.out
       have hms32_0 := NB164_156.out
       have hms32_1 := NB164_157.out
       refine skip_ (w1 := ?_) (by rfl) rfl ?_ ?_
       rotate_left
       ·go_simp
        rfl
       refine hK.out _ _ ?_
       clear hK K
       refine done_ (done_of HT_.out (by kernel_rfl)) ?_
       try go_wp2
       go_roundg k1
       case measure => have := HK1.out; omega
       case rel => exact ⟨(wrap64 (x4_1 + 1)), (y176), (.slice Ao31 y176.length co31), (by first | rfl | (simp; done) | (simp [*]; done)), H', ⟨by have := HK1.out; omega⟩, ⟨(by (with_reducible repeat (first | apply Kd.R_alloc | apply Kd.R_drewN | apply Kd.R_drew)); exact Kd.R_mono (Kd.R_far (p := ⟨gb164, 4, none⟩) (Kd.R_mono HO178.out (fun k_ hk => (⟨hk, hk.2.2.2⟩ : _ ∧ k_ ≠ gb164))) (fun _ hk => hk.2) (.slice Ao31 y176.length co31)) (fun _ hk => ⟨hk.1.1, ⟨hk.1.2.1, ⟨hk.1.2.2.1, hk.1.2.2.2⟩⟩⟩))⟩, ⟨(by (with_reducible repeat (first | apply Kd.R_alloc | apply Kd.R_drewN | apply Kd.R_drew)); exact Kd.R_mono (Kd.R_far (p := ⟨gb164, 4, none⟩) (Kd.R_types HO_165005.out BK164.out (by decide)) (fun _ hk => hk.2) (.slice Ao31 y176.length co31)) (fun _ hk => trivial))⟩, ⟨(by (with_reducible repeat (first | refine blk_drewN ?_ _ | refine blk_drew ?_ | refine blk_alloc ?_ _)); refine blk_far ?_ NB156_164.out _; (with_reducible repeat (first | refine blk_drewN ?_ _ | refine blk_drew ?_ | refine blk_alloc ?_ _)); exact BK156.out)⟩, ⟨(by (with_reducible repeat (first | refine blk_drewN ?_ _ | refine blk_drew ?_ | refine blk_alloc ?_ _)); refine blk_far ?_ NB157_164.out _; (with_reducible repeat (first | refine blk_drewN ?_ _ | refine blk_drew ?_ | refine blk_alloc ?_ _)); exact BK157.out)⟩, ⟨(by (with_reducible repeat (first | refine blk_drewN ?_ _ | refine blk_drew ?_ | refine blk_alloc ?_ _)); refine blk_put (cs := #[.int .i64 a0_0, .int .i64 a0_1, .int .i64 a0_2, .string a0_3, u165004, .slice Ao12 y161.length co12]) ?_ 4 _ rfl; (with_reducible repeat (first | refine blk_drewN ?_ _ | refine blk_drew ?_ | refine blk_alloc ?_ _)); exact BK164.out)⟩, ⟨qQx10s0_⟩⟩
      ·rw [if_neg c22] at H
       exact absurd H (by simp)
     ·rw [if_neg c20] at H
      exact absurd H (by simp)
    ·rw [if_neg c19] at H
     have c19b0 : decide (x4_1 < (l0_4.length : Int)) = false := decide_eq_false c19
     clear c19
     simp only [Option.some.injEq, Prod.mk.injEq] at H
     obtain ⟨rfl, rfl, rfl, rfl, rfl, rfl⟩ := H
     have hnb33 := NB156_157.out
     have hnc33 := NB157_156.out
     have hnb34 := NB156_164.out
     have hnc34 := NB164_156.out
     have hcz35_0 : wr.cell? ⟨gb156, 0, none⟩ = some (.int .i64 a0_0) := (blk_cell BK156.out 0).trans rfl
     have hcz35_1 : wr.cell? ⟨gb156, 1, none⟩ = some (.int .i64 a0_1) := (blk_cell BK156.out 1).trans rfl
     have hcz35_2 : wr.cell? ⟨gb156, 2, none⟩ = some (.int .i64 a0_2) := (blk_cell BK156.out 2).trans rfl
     have hcz35_3 : wr.cell? ⟨gb156, 3, none⟩ = some (.string a0_3) := (blk_cell BK156.out 3).trans rfl
     have hcz35_4 : wr.cell? ⟨gb156, 4, none⟩ = some (.slice A0_4 l0_4.length c0_4) := (blk_cell BK156.out 4).trans rfl
     have hcz35_5 : wr.cell? ⟨gb156, 5, none⟩ = some (.slice A0_5 l0_5.length c0_5) := (blk_cell BK156.out 5).trans rfl
     have hfz35_0 := blk_frozen BK156.out 0
     have hfz35_1 := blk_frozen BK156.out 1
     have hfz35_2 := blk_frozen BK156.out 2
     have hfz35_3 := blk_frozen BK156.out 3
     have hfz35_4 := blk_frozen BK156.out 4
     have hfz35_5 := blk_frozen BK156.out 5
     have hnb36 := NB164_157.out
     have hnc36 := NB157_164.out
     have hcz37_0 : wr.cell? ⟨gb164, 0, none⟩ = some (.int .i64 a0_0) := (blk_cell BK164.out 0).trans rfl
     have hcz37_1 : wr.cell? ⟨gb164, 1, none⟩ = some (.int .i64 a0_1) := (blk_cell BK164.out 1).trans rfl
     have hcz37_2 : wr.cell? ⟨gb164, 2, none⟩ = some (.int .i64 a0_2) := (blk_cell BK164.out 2).trans rfl
     have hcz37_3 : wr.cell? ⟨gb164, 3, none⟩ = some (.string a0_3) := (blk_cell BK164.out 3).trans rfl
     have hcz37_4 : wr.cell? ⟨gb164, 4, none⟩ = some (u165004) := (blk_cell BK164.out 4).trans rfl
     have hcz37_5 : wr.cell? ⟨gb164, 5, none⟩ = some (.slice Ao12 y161.length co12) := (blk_cell BK164.out 5).trans rfl
     have hfz37_0 := blk_frozen BK164.out 0
     have hfz37_1 := blk_frozen BK164.out 1
     have hfz37_2 := blk_frozen BK164.out 2
     have hfz37_3 := blk_frozen BK164.out 3
     have hfz37_4 := blk_frozen BK164.out 4
     have hfz37_5 := blk_frozen BK164.out 5
     have hcz38_0 : wr.cell? ⟨gb157, 0, none⟩ = some (.int .i64 0) := (blk_cell BK157.out 0).trans rfl
     have hcz38_1 : wr.cell? ⟨gb157, 1, none⟩ = some (.int .i64 0) := (blk_cell BK157.out 1).trans rfl
     have hcz38_2 : wr.cell? ⟨gb157, 2, none⟩ = some (.int .i64 0) := (blk_cell BK157.out 2).trans rfl
     have hcz38_3 : wr.cell? ⟨gb157, 3, none⟩ = some (.string (⟨#[]⟩ : ByteArray)) := (blk_cell BK157.out 3).trans rfl
     have hcz38_4 : wr.cell? ⟨gb157, 4, none⟩ = some (.slice none 0 0) := (blk_cell BK157.out 4).trans rfl
     have hcz38_5 : wr.cell? ⟨gb157, 5, none⟩ = some (.slice none 0 0) := (blk_cell BK157.out 5).trans rfl
     have hfz38_0 := blk_frozen BK157.out 0
     have hfz38_1 := blk_frozen BK157.out 1
     have hfz38_2 := blk_frozen BK157.out 2
     have hfz38_3 := blk_frozen BK157.out 3
     have hfz38_4 := blk_frozen BK157.out 4
     have hfz38_5 := blk_frozen BK157.out 5
     obtain ⟨Ao39, co39, eo39⟩ := Kd.R_slice HO_165004.out
     subst eo39
     go_wp2
     refine bodyPost_ret (results_cell_row rfl _ _ gb157 28 #[.int .i64 a0_0, .int .i64 a0_1, .int .i64 a0_2, .string a0_3, .slice Ao39 x165004_1.length co39, .slice Ao12 y161.length co12] (0, 0) _ rfl (by (with_reducible repeat (first | refine blk_drewN ?_ _ | refine blk_drew ?_ | refine blk_alloc ?_ _)); refine blk_put (cs := #[.int .i64 a0_0, .int .i64 a0_1, .int .i64 a0_2, .string a0_3, .slice Ao39 x165004_1.length co39, .slice none 0 0]) ?_ 5 _ rfl; (with_reducible repeat (first | refine blk_drewN ?_ _ | refine blk_drew ?_ | refine blk_alloc ?_ _)); refine blk_put (cs := #[.int .i64 a0_0, .int .i64 a0_1, .int .i64 a0_2, .string a0_3, .slice none 0 0, .slice none 0 0]) ?_ 4 _ rfl; (with_reducible repeat (first | refine blk_drewN ?_ _ | refine blk_drew ?_ | refine blk_alloc ?_ _)); refine blk_put (cs := #[.int .i64 a0_0, .int .i64 a0_1, .int .i64 a0_2, .string (⟨#[]⟩ : ByteArray), .slice none 0 0, .slice none 0 0]) ?_ 3 _ rfl; (with_reducible repeat (first | refine blk_drewN ?_ _ | refine blk_drew ?_ | refine blk_alloc ?_ _)); refine blk_put (cs := #[.int .i64 a0_0, .int .i64 a0_1, .int .i64 0, .string (⟨#[]⟩ : ByteArray), .slice none 0 0, .slice none 0 0]) ?_ 2 _ rfl; (with_reducible repeat (first | refine blk_drewN ?_ _ | refine blk_drew ?_ | refine blk_alloc ?_ _)); refine blk_put (cs := #[.int .i64 a0_0, .int .i64 0, .int .i64 0, .string (⟨#[]⟩ : ByteArray), .slice none 0 0, .slice none 0 0]) ?_ 1 _ rfl; (with_reducible repeat (first | refine blk_drewN ?_ _ | refine blk_drew ?_ | refine blk_alloc ?_ _)); refine blk_put (cs := #[.int .i64 0, .int .i64 0, .int .i64 0, .string (⟨#[]⟩ : ByteArray), .slice none 0 0, .slice none 0 0]) ?_ 0 _ rfl; (with_reducible repeat (first | refine blk_drewN ?_ _ | refine blk_drew ?_ | refine blk_alloc ?_ _)); exact BK157.out) Tryd.underlying28 rfl (by kernel_rfl)) rfl ?_
     exact ⟨_, _, (by first | rfl | (simp [errW_none, errW_some] <;> rfl) | (simp [*, errW_none, errW_some] <;> rfl)), (by (with_reducible repeat (first | apply Kd.R_alloc | apply Kd.R_drewN | apply Kd.R_drew)); exact Kd.R_mono (Kd.R_far (p := ⟨gb157, 5, none⟩) (Kd.R_far (p := ⟨gb157, 4, none⟩) (Kd.R_far (p := ⟨gb157, 3, none⟩) (Kd.R_far (p := ⟨gb157, 2, none⟩) (Kd.R_far (p := ⟨gb157, 1, none⟩) (Kd.R_far (p := ⟨gb157, 0, none⟩) (Kd.R_mono HO_165004.out (fun k_ hk => (⟨hk, hk.2.2.1⟩ : _ ∧ k_ ≠ gb157))) (fun _ hk => hk.2) (.int .i64 a0_0)) (fun _ hk => hk.2) (.int .i64 a0_1)) (fun _ hk => hk.2) (.int .i64 a0_2)) (fun _ hk => hk.2) (.string a0_3)) (fun _ hk => hk.2) (.slice Ao39 x165004_1.length co39)) (fun _ hk => hk.2) (.slice Ao12 y161.length co12)) (fun _ hk => hk.1.1)), (by (with_reducible repeat (first | apply Kd.R_alloc | apply Kd.R_drewN | apply Kd.R_drew)); exact Kd.R_mono (Kd.R_far (p := ⟨gb157, 5, none⟩) (Kd.R_far (p := ⟨gb157, 4, none⟩) (Kd.R_far (p := ⟨gb157, 3, none⟩) (Kd.R_far (p := ⟨gb157, 2, none⟩) (Kd.R_far (p := ⟨gb157, 1, none⟩) (Kd.R_far (p := ⟨gb157, 0, none⟩) (Kd.R_types HO_165005.out BK157.out (by decide)) (fun _ hk => hk.2) (.int .i64 a0_0)) (fun _ hk => hk.2) (.int .i64 a0_1)) (fun _ hk => hk.2) (.int .i64 a0_2)) (fun _ hk => hk.2) (.string a0_3)) (fun _ hk => hk.2) (.slice Ao39 x165004_1.length co39)) (fun _ hk => hk.2) (.slice Ao12 y161.length co12)) (fun _ hk => trivial)), qQx10s0_⟩
 ·rw [if_neg c2] at H
  exact absurd H (by simp)

end Go.Proofs.YtebcepbamlokcaaDoor.Q
namespace Go.Proofs.YtebcepbamlokcaaDoor.Q
open Go.RowKit Go.Proofs.YtebcepbamlokcaaDoorW.PrintWords Go.Proofs.YtebcepbamlokcaaDoorW.PrintLast Go.Proofs.YtebcepbamlokcaaDoorW.PrintMore
set_option linter.unusedVariables false
set_option linter.unusedSimpArgs false

theorem R_six {α : Type} {dk : Kd α} {e : Nat} {w : World} {base : Nat} {ok : Nat → Prop} {u : Value} {xs : List α} {g : Nat} {v0 v1 v2 v3 v4 v5 : Value} (h : dk.R e w base ok u xs) (hg : g < base) :
    dk.R e ((((((w.setCell ⟨g, 0, none⟩ v0).setCell ⟨g, 1, none⟩ v1).setCell ⟨g, 2, none⟩ v2).setCell ⟨g, 3, none⟩ v3).setCell ⟨g, 4, none⟩ v4).setCell ⟨g, 5, none⟩ v5) base (fun _ => True) u xs :=
  Kd.R_mono (Kd.R_step (Kd.R_bound h) (fun k hk _ => six_same k (by have := hk.2.1; omega))) (fun _ _ => trivial)

set_option maxHeartbeats 4000000 in
set_option maxRecDepth 100000 in
theorem specAt_calls (G : S28 → Prop) (d : Nat) (P : S28 → ByteArray → Int) (k : Nat) (okb : Bool) (v : S28) (path : List ByteArray) (HG0 : okb = true → Good G d P path) (hv0 : okb = true → G v) (hok : spec_ValueOk.f k v.f0 v.f1.f0 v.f1.f1 v.f2 v.f3 v.f4 = some okb)
    (hst0 : okb = true → ∀ x, G x → ∀ s ∈ path, spec_l13Step.f k x.f0 x.f1.f0 x.f1.f1 x.f2 x.f3 x.f4 s = some (P x s)) (hcp0 : okb = true → ∀ x, G x → spec_l13Copy.f k x.f0 x.f1.f0 x.f1.f1 x.f2 x.f3 x.f4 = some (x.f0, x.f1.f0, x.f1.f1, x.f2, x.f3, x.f4))
    (w : World) (A4 : Option Addr) (c4 : Nat) (A5 : Option Addr) (c5 : Nat) (AP : Option Addr) (cP : Nat) (h4 : Kd.C k28 w A4 v.f3.length v.f3) (l4 : v.f3.length ≤ c4) (h5 : Kd.C Kd.string w A5 v.f4.length v.f4) (l5 : v.f4.length ≤ c5)
    (hp : Kd.C Kd.string w AP path.length path) (lp : path.length ≤ cP) :
    Calls Tryd.prog 12 #[.agg #[.int .i64 v.f0, .int .i64 v.f1.f0, .int .i64 v.f1.f1, .string v.f2, .slice A4 v.f3.length c4, .slice A5 v.f4.length c5], .slice AP path.length cP] w fun e' w' => ∃ (x : S28) (v4 v5 : Value),
      x = orZero (atRes P okb v path) ∧ e' = .returned (.tuple #[.agg #[.int .i64 x.f0, .int .i64 x.f1.f0, .int .i64 x.f1.f1, .string x.f2, v4, v5], .bool (atRes P okb v path).isSome]) ∧
      Kd.R k28 28 w' w.heap.size (fun _ => True) v4 x.f3 ∧ Kd.R Kd.string 9 w' w.heap.size (fun _ => True) v5 x.f4 ∧ Below w.heap.size w w' := by
  have H4 := Aside0.mk h4; have H5 := Aside0.mk h5; have HP := Aside0.mk hp; have HOK := Aside0.mk hok
  have HPL := Aside0.mk hp.2.1
  clear h4 h5 hp hok
  cases okb with
  | false =>
    go_enter Tryd.func12, Tryd.ntmps12
    go_wp2_with (first
      | ((with_reducible refine gate_dst (N := 2) rfl ?_); refine box_event ?hg (N := 2) ?hd (cs := #[.int .i64 v.f0, .int .i64 v.f1.f0, .int .i64 v.f1.f1, .string v.f2, .slice A4 v.f3.length c4, .slice A5 v.f4.length c5]) (t := 28) ?hr ?_; (case hd => rfl); (case hg => rfl); (case hr => first | (go_simp; done) | (go_simp; rfl))
         intro g1 hg1 w1 hbox1 hb1; have G1 := Aside0.mk hg1; have B1 := Aside0.mk hbox1; have L1 := Aside0.mk hb1; clear hg1 hbox1 hb1)
      | ((with_reducible refine gate_dst (N := 4) rfl ?_); refine box_event ?hg (N := 4) ?hd (cs := #[.int .i64 0, .int .i64 0, .int .i64 0, .string (⟨#[]⟩ : ByteArray), .slice none 0 0, .slice none 0 0]) (t := 28) ?hr ?_; (case hd => rfl); (case hg => rfl); (case hr => first | (go_simp; done) | (go_simp; rfl))
         intro g2 hg2 w2 hbox2 hb2; have G2 := Aside0.mk hg2; have B2 := Aside0.mk hbox2; have L2 := Aside0.mk (below_step L1.out hb2)
         have B1' := Aside0.mk (blk_keep B1.out hb2 (blk_lt B1.out)); clear hg2 hbox2 hb2
         obtain ⟨p0, p1, p2, p3, p4, p5, -⟩ := six_cells B1'.out)
      | (go_at_call 14
         refine (spec_ValueOk.calls k v.f0 v.f1.f0 v.f1.f1 v.f2 A4 c4 v.f3 A5 c5 v.f4 false _ (Kd.C_below H4.out L2.out) l4 (Kd.C_below H5.out L2.out) l5 HOK.out).mono ?_
         rintro e' w3 ⟨rfl, hb3⟩
         have L3 := Aside0.mk (below_step L2.out hb3)
         have C2 := Aside0.mk (blk_keep B2.out hb3 (blk_lt B2.out))
         clear p0 p1 p2 p3 p4 p5 hb3
         obtain ⟨r0, r1, r2, r3, r4, r5, z0, z1, z2, z3, z4, z5⟩ := six_cells C2.out))
    have hP := six_put (v0 := .int .i64 0) (v1 := .int .i64 0) (v2 := .int .i64 0) (v3 := .string ⟨#[]⟩) (v4 := .slice none 0 0) (v5 := .slice none 0 0) C2.out
    refine bodyPost_ret (results_ct rfl _ _ g2 28 #[.int .i64 0, .int .i64 0, .int .i64 0, .string ⟨#[]⟩, .slice none 0 0, .slice none 0 0] (0, 0) _ rfl hP Tryd.underlying28 rfl (by kernel_rfl)) rfl ?_
    have g2w : w.heap.size ≤ g2 := by have := L1.out.size; have := G2.out; omega
    exact ⟨z28, .slice none 0 0, .slice none 0 0, rfl, rfl, Kd.R_nil _ _ _ _ _, Kd.R_nil _ _ _ _ _, six_below L3.out g2w⟩
  | true =>
    have HG := HG0 rfl
    have hv := hv0 rfl
    have hst := hst0 rfl
    have hcp := hcp0 rfl
    have HR := Aside0.mk (show atRes P true v path = At P v path from rfl)
    go_enter Tryd.func12, Tryd.ntmps12
    go_wp2_with (first
      | ((with_reducible refine gate_dst (N := 2) rfl ?_); refine box_event ?hg (N := 2) ?hd (cs := #[.int .i64 v.f0, .int .i64 v.f1.f0, .int .i64 v.f1.f1, .string v.f2, .slice A4 v.f3.length c4, .slice A5 v.f4.length c5]) (t := 28) ?hr ?_; (case hd => rfl); (case hg => rfl); (case hr => first | (go_simp; done) | (go_simp; rfl))
         intro g1 hg1 w1 hbox1 hb1; have G1 := Aside0.mk hg1; have B1 := Aside0.mk hbox1; have L1 := Aside0.mk hb1; clear hg1 hbox1 hb1)
      | ((with_reducible refine gate_dst (N := 4) rfl ?_); refine box_event ?hg (N := 4) ?hd (cs := #[.int .i64 0, .int .i64 0, .int .i64 0, .string (⟨#[]⟩ : ByteArray), .slice none 0 0, .slice none 0 0]) (t := 28) ?hr ?_; (case hd => rfl); (case hg => rfl); (case hr => first | (go_simp; done) | (go_simp; rfl))
         intro g2 hg2 w2 hbox2 hb2; have G2 := Aside0.mk hg2; have B2 := Aside0.mk hbox2; have L2 := Aside0.mk (below_step L1.out hb2)
         have B1' := Aside0.mk (blk_keep B1.out hb2 (blk_lt B1.out)); clear hg2 hbox2 hb2
         obtain ⟨p0, p1, p2, p3, p4, p5, -⟩ := six_cells B1'.out)
      | (go_at_call 14
         refine (spec_ValueOk.calls k v.f0 v.f1.f0 v.f1.f1 v.f2 A4 c4 v.f3 A5 c5 v.f4 true _ (Kd.C_below H4.out L2.out) l4 (Kd.C_below H5.out L2.out) l5 HOK.out).mono ?_
         rintro e' w3 ⟨rfl, hb3⟩
         have L3 := Aside0.mk (below_step L2.out hb3)
         have C1 := Aside0.mk (blk_keep B1'.out hb3 (blk_lt B1'.out)); have C2 := Aside0.mk (blk_keep B2.out hb3 (blk_lt B2.out))
         clear p0 p1 p2 p3 p4 p5 hb3))
    have g1w : w.heap.size ≤ g1 := Nat.le_of_eq G1.out.symm
    have g2w : w.heap.size ≤ g2 := by have := L1.out.size; have := G2.out; omega
    have hne : g1 ≠ g2 := by have := blk_lt B1.out; have := G2.out; omega
    have hne' := hne.symm
    go_loopg [6] path.length (fun kq v15 w' => ∃ (i : Nat) (x : S28) (X4 : Option Addr) (x4 : Nat) (X5 : Option Addr) (x5 : Nat), v15 = .int .i64 (i : Int) ∧ Aside0 (i + kq = path.length) ∧ Aside0 (At P x (path.drop i) = At P v path) ∧ Aside0 (G x) ∧
      Aside0 (w'.heap[g1]? = some (.cells #[.int .i64 x.f0, .int .i64 x.f1.f0, .int .i64 x.f1.f1, .string x.f2, .slice X4 x.f3.length x4, .slice X5 x.f4.length x5] 28 (0, 0))) ∧ Aside0 (w'.heap[g2]? = some (.cells #[.int .i64 0, .int .i64 0, .int .i64 0, .string (⟨#[]⟩ : ByteArray), .slice none 0 0, .slice none 0 0] 28 (0, 0))) ∧
      Aside0 (Kd.C k28 w X4 x.f3.length x.f3 ∧ x.f3.length ≤ x4 ∧ Kd.C Kd.string w X5 x.f4.length x.f4 ∧ x.f4.length ≤ x5) ∧ Aside0 (Below w.heap.size w w'))
    case atStart => exact ⟨0, v, A4, c4, A5, c5, rfl, ⟨by omega⟩, ⟨rfl⟩, ⟨hv⟩, C1, C2, ⟨H4.out, l4, H5.out, l5⟩, L3⟩
    case round =>
      obtain ⟨i, x, X4, x4, X5, x5, rfl, HI, HA, HX, D1, D2, HC, LB⟩ := hrel
      cases gk with
      | zero =>
        have hd : decide ((i : Int) < (path.length : Int)) = false := decide_eq_false (by have := HI.out; omega)
        have hd' : decide (i < path.length) = false := decide_eq_false (by have := HI.out; omega)
        have HAe : Aside0 (At P v path = some x) := ⟨by
          have h := HA.out
          rw [List.drop_of_length_le (by have := HI.out; omega)] at h
          exact h.symm⟩
        obtain ⟨p0, p1, p2, p3, p4, p5, -⟩ := six_cells D1.out
        go_wp2_with (
          go_at_call 47
          refine (spec_l13Copy.calls k x.f0 x.f1.f0 x.f1.f1 x.f2 X4 x4 x.f3 X5 x5 x.f4 _ _ _ _ _ _ _ (Kd.C_below HC.out.1 LB.out) HC.out.2.1 (Kd.C_below HC.out.2.2.1 LB.out) HC.out.2.2.2 (hcp x HX.out)).mono ?_
          rintro e' w5 ⟨v4, v5, rfl, R4, R5, hb5⟩
          obtain ⟨O4, o4, rfl⟩ := Kd.R_slice R4
          obtain ⟨O5, o5, rfl⟩ := Kd.R_slice R5
          have L5 := Aside0.mk (below_step LB.out hb5)
          have E2 := Aside0.mk (blk_keep D2.out hb5 (blk_lt D2.out))
          have Q4 := Aside0.mk R4
          have Q5 := Aside0.mk R5
          obtain ⟨r0, r1, r2, r3, r4, r5, z0, z1, z2, z3, z4, z5⟩ := six_cells E2.out
          clear hb5 R4 R5)
        have hP := six_put (v0 := .int .i64 x.f0) (v1 := .int .i64 x.f1.f0) (v2 := .int .i64 x.f1.f1) (v3 := .string x.f2) (v4 := .slice O4 x.f3.length o4) (v5 := .slice O5 x.f4.length o5) E2.out
        refine bodyPost_ret (results_ct rfl _ _ g2 28 #[.int .i64 x.f0, .int .i64 x.f1.f0, .int .i64 x.f1.f1, .string x.f2, .slice O4 x.f3.length o4, .slice O5 x.f4.length o5] (0, 0) _ rfl hP Tryd.underlying28 rfl (by kernel_rfl)) rfl ?_
        have hg2 := blk_lt D2.out
        exact ⟨x, _, _, by rw [HR.out, HAe.out]; rfl, by rw [HR.out, HAe.out]; rfl, Kd.R_lower (R_six Q4.out hg2) LB.out.size, Kd.R_lower (R_six Q5.out hg2) LB.out.size, six_below L5.out g2w⟩
      | succ k1 =>
        have hd : decide ((i : Int) < (path.length : Int)) = true := decide_eq_true (by have := HI.out; omega)
        have hp : (0 ≤ (i : Int)) = True := eq_true (by omega)
        have hq : ((i : Int) < (path.length : Int)) = True := eq_true (by have := HI.out; omega)
        have hi : i < path.length := by have := HI.out; omega
        have HIk : Aside0 (i + 1 + k1 = path.length) := ⟨by have := HI.out; omega⟩
        have E6 : Aside0 (wrap64 ((i : Int) + 1) = ((i + 1 : Nat) : Int)) := ⟨by have := HPL.out; rw [w64o (by omega) (by omega)]; omega⟩
        obtain ⟨ad, rfl, hsrc⟩ := Kd.at_string HP.out (i : Int) (by omega) (by omega)
        have hxe : rdOf ByteArray.empty path (i : Int) = path[i] := by unfold rdOf; rw [Int.toNat_natCast, List.getD_eq_getElem?_getD, List.getElem?_eq_getElem hi]; rfl
        have hcx := List.getElem?_eq_getElem hi
        rw [hxe] at hsrc
        simp only [Int.toNat_natCast] at hsrc
        generalize path[i] = s at hcx hsrc
        have hsm := List.mem_of_getElem? hcx
        replace hsrc := (LB.out.cell (World.block_lt_of_cell? w _ hsrc)).trans hsrc
        obtain ⟨p0, p1, p2, p3, p4, p5, -⟩ := six_cells D1.out
        have hB7 := below_drew1 LB.out
        have hstp := hst x HX.out s hsm
        have HAc := Aside0.mk (show At P v path = if P x s < 0 then none else At P (rd_T28 x.f3 (P x s)) (path.drop (i + 1)) from by rw [← HA.out, drop_cons_of hcx]; rfl)
        have HLT := Aside0.mk (HG.lt x HX.out s hsm)
        generalize P x s = u at hstp HAc HLT
        by_cases hu : u < 0
        · have hdu : decide (u < 0) = true := decide_eq_true hu
          have HU := Aside0.mk hu
          clear hu
          go_wp2
          refine start_ (n := 7) (S := fun w' => w'.cell? ⟨g1, 0, none⟩ = some (.int .i64 x.f0) ∧ w'.cell? ⟨g1, 1, none⟩ = some (.int .i64 x.f1.f0) ∧ w'.cell? ⟨g1, 2, none⟩ = some (.int .i64 x.f1.f1) ∧ w'.cell? ⟨g1, 3, none⟩ = some (.string x.f2) ∧ w'.cell? ⟨g1, 4, none⟩ = some (.slice X4 x.f3.length x4) ∧ w'.cell? ⟨g1, 5, none⟩ = some (.slice X5 x.f4.length x5) ∧ w'.cell? (ad.add i) = some (.string s)) (ds := []) #[false, false, false, false, false, false, false] (by kernel_rfl) rfl rfl (⟨p0, p1, p2, p3, p4, p5, hsrc⟩) (fun hHeld => ?_)
          have F1 : wr.drew.heap[g1]? = _ := D1.out
          have F2 : wr.drew.heap[g2]? = _ := D2.out
          generalize wr.drew = w7 at hB7 F1 F2 hHeld ⊢
          obtain ⟨p0, p1, p2, p3, p4, p5, hsrc⟩ := id hHeld
          refine pure_ (i := 1) (N := some 19) (v := ?_) (a' := ?_) #[false, true, false, false, false, false, false] rfl rfl (by kernel_rfl) (fun _ _ _ h => h) (Or.inl ⟨by rfl, ?_⟩) ?_ ?_
          rotate_left
          · intro w'
            go_simp; with_reducible rfl
          rotate_left
          · simp only [Act.put, List.setIfInBounds_toArray, List.set_cons_zero, List.set_cons_succ, i64_w, i32_w]; rfl
          refine pure_ (i := 2) (N := some 20) (v := ?_) (a' := ?_) #[false, true, true, false, false, false, false] rfl rfl (by kernel_rfl) (fun _ _ _ h => h) (Or.inl ⟨by rfl, ?_⟩) ?_ ?_
          rotate_left
          · intro w'
            go_simp; with_reducible rfl
          rotate_left
          · simp only [Act.put, List.setIfInBounds_toArray, List.set_cons_zero, List.set_cons_succ, i64_w, i32_w]; rfl
          refine pure_ (i := 3) (N := some 21) (v := ?_) (a' := ?_) #[false, true, true, true, false, false, false] rfl rfl (by kernel_rfl) (fun _ _ _ h => h) (Or.inl ⟨by rfl, ?_⟩) ?_ ?_
          rotate_left
          · intro w'
            go_simp; with_reducible rfl
          rotate_left
          · simp only [Act.put, List.setIfInBounds_toArray, List.set_cons_zero, List.set_cons_succ, i64_w, i32_w]; rfl
          refine take_ (i := 0) (N := some 18) (v := ?_) (a' := ?_) #[true, true, true, true, false, false, false] rfl rfl (by kernel_rfl) (fun _ _ _ h => h) (Or.inl ⟨by rfl, ?_⟩) hHeld ?_ ?_
          rotate_left
          · intro w' s0
            obtain ⟨a0, a1, a2, a3, a4, a5, a6⟩ := s0
            go_simp; with_reducible rfl
          rotate_left
          · simp only [Act.put, List.setIfInBounds_toArray, List.set_cons_zero, List.set_cons_succ, i64_w, i32_w]; rfl
          refine take_ (i := 4) (N := some 22) (v := ?_) (a' := ?_) #[true, true, true, true, true, false, false] rfl rfl (by kernel_rfl) (fun _ _ _ h => h) (Or.inl ⟨by rfl, ?_⟩) hHeld ?_ ?_
          rotate_left
          · intro w' s0
            obtain ⟨a0, a1, a2, a3, a4, a5, a6⟩ := s0
            go_simp; with_reducible rfl
          rotate_left
          · simp only [Act.put, List.setIfInBounds_toArray, List.set_cons_zero, List.set_cons_succ, i64_w, i32_w]; rfl
          refine one_ (i := 5) (N := some 23) #[true, true, true, true, true, true, false] rfl rfl (by kernel_rfl) (by decide) (fun K hK => ?_)
          refine goes_ Tryd.func46 (by kernel_rfl) rfl #[.agg #[.int .i64 x.f0, .int .i64 x.f1.f0, .int .i64 x.f1.f1, .string x.f2, .slice X4 x.f3.length x4, .slice X5 x.f4.length x5], .string s] (by rfl) rfl rfl (by (try simp only [List.map_toArray, List.map_cons, List.map_nil]); first | done | rfl) ?_
          with_reducible refine (spec_l13Step.calls k x.f0 x.f1.f0 x.f1.f1 x.f2 X4 x4 x.f3 X5 x5 x.f4 s u w7 (Kd.C_below HC.out.1 hB7) HC.out.2.1 (Kd.C_below HC.out.2.2.1 hB7) HC.out.2.2.2 hstp).mono ?_
          rintro e w5 ⟨rfl, hb5⟩
          refine ⟨_, rfl, hK.out _ _ (⟨(hb5.cell (World.block_lt_of_cell? w7 _ p0)).trans p0, (hb5.cell (World.block_lt_of_cell? w7 _ p1)).trans p1, (hb5.cell (World.block_lt_of_cell? w7 _ p2)).trans p2, (hb5.cell (World.block_lt_of_cell? w7 _ p3)).trans p3, (hb5.cell (World.block_lt_of_cell? w7 _ p4)).trans p4, (hb5.cell (World.block_lt_of_cell? w7 _ p5)).trans p5, (hb5.cell (World.block_lt_of_cell? w7 _ hsrc)).trans hsrc⟩) (fun hHeld => ?_)⟩
          clear hK K
          refine norm_ (a' := ?_) ?_ ?_
          rotate_left
          · show Act.put _ (some 23) _ = _
            simp only [Act.put, List.setIfInBounds_toArray, List.set_cons_zero, List.set_cons_succ, i64_w, i32_w]; rfl
          refine pure_ (i := 6) (N := some 7) (v := ?_) (a' := ?_) #[true, true, true, true, true, true, true] rfl rfl (by kernel_rfl) (fun _ _ _ h => h) (Or.inl ⟨by rfl, ?_⟩) ?_ ?_
          rotate_left
          · intro w'
            go_simp; with_reducible rfl
          rotate_left
          · simp only [Act.put, List.setIfInBounds_toArray, List.set_cons_zero, List.set_cons_succ, i64_w, i32_w]; rfl
          refine done_ (by kernel_rfl) ?_
          have L5 := Aside0.mk (below_step hB7 hb5)
          have E1 := Aside0.mk (blk_keep F1 hb5 (blk_lt F1))
          have E2 := Aside0.mk (blk_keep F2 hb5 (blk_lt F2))
          clear p0 p1 p2 p3 p4 p5 hsrc
          obtain ⟨r0, r1, r2, r3, r4, r5, z0, z1, z2, z3, z4, z5⟩ := six_cells E2.out
          go_wp2
          have hP := six_put (v0 := .int .i64 0) (v1 := .int .i64 0) (v2 := .int .i64 0) (v3 := .string ⟨#[]⟩) (v4 := .slice none 0 0) (v5 := .slice none 0 0) E2.out
          refine bodyPost_ret (results_ct rfl _ _ g2 28 #[.int .i64 0, .int .i64 0, .int .i64 0, .string ⟨#[]⟩, .slice none 0 0, .slice none 0 0] (0, 0) _ rfl hP Tryd.underlying28 rfl (by kernel_rfl)) rfl ?_
          have hn : atRes P true v path = none := by rw [HR.out, HAc.out, if_pos HU.out]
          exact ⟨z28, .slice none 0 0, .slice none 0 0, by rw [hn]; rfl, by rw [hn]; rfl, Kd.R_nil _ _ _ _ _, Kd.R_nil _ _ _ _ _, six_below L5.out g2w⟩
        · have hdu : decide (u < 0) = false := decide_eq_false hu
          have hu0 : (0 ≤ u) = True := eq_true (by omega)
          have hu1 : (u < (x.f3.length : Int)) = True := eq_true HLT.out
          have hun : u.toNat < x.f3.length := by have := HLT.out; omega
          obtain ⟨ad2, Y4, y4, Y5, y5, rfl, x0, x1, x2, x3, x4', x5', m4, s4, m5, s5⟩ := at_T28 HC.out.1 u (by omega) HLT.out
          have hym : rd_T28 x.f3 u ∈ x.f3 := by
            unfold rd_T28
            rw [List.getD_eq_getElem?_getD, List.getElem?_eq_getElem hun]
            exact List.getElem_mem hun
          have HU := Aside0.mk hu
          generalize rd_T28 x.f3 u = y at *
          have HY := Aside0.mk (HG.kid x HX.out y hym)
          clear hu
          go_wp2
          refine start_ (n := 7) (S := fun w' => w'.cell? ⟨g1, 0, none⟩ = some (.int .i64 x.f0) ∧ w'.cell? ⟨g1, 1, none⟩ = some (.int .i64 x.f1.f0) ∧ w'.cell? ⟨g1, 2, none⟩ = some (.int .i64 x.f1.f1) ∧ w'.cell? ⟨g1, 3, none⟩ = some (.string x.f2) ∧ w'.cell? ⟨g1, 4, none⟩ = some (.slice (some ad2) x.f3.length x4) ∧ w'.cell? ⟨g1, 5, none⟩ = some (.slice X5 x.f4.length x5) ∧ w'.cell? (ad.add i) = some (.string s)) (ds := []) #[false, false, false, false, false, false, false] (by kernel_rfl) rfl rfl (⟨p0, p1, p2, p3, p4, p5, hsrc⟩) (fun hHeld => ?_)
          have F1 : wr.drew.heap[g1]? = _ := D1.out
          have F2 : wr.drew.heap[g2]? = _ := D2.out
          generalize wr.drew = w7 at hB7 F1 F2 hHeld ⊢
          obtain ⟨p0, p1, p2, p3, p4, p5, hsrc⟩ := id hHeld
          refine pure_ (i := 1) (N := some 19) (v := ?_) (a' := ?_) #[false, true, false, false, false, false, false] rfl rfl (by kernel_rfl) (fun _ _ _ h => h) (Or.inl ⟨by rfl, ?_⟩) ?_ ?_
          rotate_left
          · intro w'
            go_simp; with_reducible rfl
          rotate_left
          · simp only [Act.put, List.setIfInBounds_toArray, List.set_cons_zero, List.set_cons_succ, i64_w, i32_w]; rfl
          refine pure_ (i := 2) (N := some 20) (v := ?_) (a' := ?_) #[false, true, true, false, false, false, false] rfl rfl (by kernel_rfl) (fun _ _ _ h => h) (Or.inl ⟨by rfl, ?_⟩) ?_ ?_
          rotate_left
          · intro w'
            go_simp; with_reducible rfl
          rotate_left
          · simp only [Act.put, List.setIfInBounds_toArray, List.set_cons_zero, List.set_cons_succ, i64_w, i32_w]; rfl
          refine pure_ (i := 3) (N := some 21) (v := ?_) (a' := ?_) #[false, true, true, true, false, false, false] rfl rfl (by kernel_rfl) (fun _ _ _ h => h) (Or.inl ⟨by rfl, ?_⟩) ?_ ?_
          rotate_left
          · intro w'
            go_simp; with_reducible rfl
          rotate_left
          · simp only [Act.put, List.setIfInBounds_toArray, List.set_cons_zero, List.set_cons_succ, i64_w, i32_w]; rfl
          refine take_ (i := 0) (N := some 18) (v := ?_) (a' := ?_) #[true, true, true, true, false, false, false] rfl rfl (by kernel_rfl) (fun _ _ _ h => h) (Or.inl ⟨by rfl, ?_⟩) hHeld ?_ ?_
          rotate_left
          · intro w' s0
            obtain ⟨a0, a1, a2, a3, a4, a5, a6⟩ := s0
            go_simp; with_reducible rfl
          rotate_left
          · simp only [Act.put, List.setIfInBounds_toArray, List.set_cons_zero, List.set_cons_succ, i64_w, i32_w]; rfl
          refine take_ (i := 4) (N := some 22) (v := ?_) (a' := ?_) #[true, true, true, true, true, false, false] rfl rfl (by kernel_rfl) (fun _ _ _ h => h) (Or.inl ⟨by rfl, ?_⟩) hHeld ?_ ?_
          rotate_left
          · intro w' s0
            obtain ⟨a0, a1, a2, a3, a4, a5, a6⟩ := s0
            go_simp; with_reducible rfl
          rotate_left
          · simp only [Act.put, List.setIfInBounds_toArray, List.set_cons_zero, List.set_cons_succ, i64_w, i32_w]; rfl
          refine one_ (i := 5) (N := some 23) #[true, true, true, true, true, true, false] rfl rfl (by kernel_rfl) (by decide) (fun K hK => ?_)
          refine goes_ Tryd.func46 (by kernel_rfl) rfl #[.agg #[.int .i64 x.f0, .int .i64 x.f1.f0, .int .i64 x.f1.f1, .string x.f2, .slice (some ad2) x.f3.length x4, .slice X5 x.f4.length x5], .string s] (by rfl) rfl rfl (by (try simp only [List.map_toArray, List.map_cons, List.map_nil]); first | done | rfl) ?_
          with_reducible refine (spec_l13Step.calls k x.f0 x.f1.f0 x.f1.f1 x.f2 (some ad2) x4 x.f3 X5 x5 x.f4 s u w7 (Kd.C_below HC.out.1 hB7) HC.out.2.1 (Kd.C_below HC.out.2.2.1 hB7) HC.out.2.2.2 hstp).mono ?_
          rintro e w5 ⟨rfl, hb5⟩
          refine ⟨_, rfl, hK.out _ _ (⟨(hb5.cell (World.block_lt_of_cell? w7 _ p0)).trans p0, (hb5.cell (World.block_lt_of_cell? w7 _ p1)).trans p1, (hb5.cell (World.block_lt_of_cell? w7 _ p2)).trans p2, (hb5.cell (World.block_lt_of_cell? w7 _ p3)).trans p3, (hb5.cell (World.block_lt_of_cell? w7 _ p4)).trans p4, (hb5.cell (World.block_lt_of_cell? w7 _ p5)).trans p5, (hb5.cell (World.block_lt_of_cell? w7 _ hsrc)).trans hsrc⟩) (fun hHeld => ?_)⟩
          clear hK K
          refine norm_ (a' := ?_) ?_ ?_
          rotate_left
          · show Act.put _ (some 23) _ = _
            simp only [Act.put, List.setIfInBounds_toArray, List.set_cons_zero, List.set_cons_succ, i64_w, i32_w]; rfl
          refine pure_ (i := 6) (N := some 7) (v := ?_) (a' := ?_) #[true, true, true, true, true, true, true] rfl rfl (by kernel_rfl) (fun _ _ _ h => h) (Or.inl ⟨by rfl, ?_⟩) ?_ ?_
          rotate_left
          · intro w'
            go_simp; with_reducible rfl
          rotate_left
          · simp only [Act.put, List.setIfInBounds_toArray, List.set_cons_zero, List.set_cons_succ, i64_w, i32_w]; rfl
          refine done_ (by kernel_rfl) ?_
          have L5 := Aside0.mk (below_step hB7 hb5)
          have E1 := Aside0.mk (blk_keep F1 hb5 (blk_lt F1))
          have E2 := Aside0.mk (blk_keep F2 hb5 (blk_lt F2))
          clear p0 p1 p2 p3 p4 p5 hsrc
          obtain ⟨p0, p1, p2, p3, p4, p5, z0, z1, z2, z3, z4, z5⟩ := six_cells E1.out
          replace x0 := (L5.out.cell (World.block_lt_of_cell? w _ x0)).trans x0
          replace x1 := (L5.out.cell (World.block_lt_of_cell? w _ x1)).trans x1
          replace x2 := (L5.out.cell (World.block_lt_of_cell? w _ x2)).trans x2
          replace x3 := (L5.out.cell (World.block_lt_of_cell? w _ x3)).trans x3
          replace x4' := (L5.out.cell (World.block_lt_of_cell? w _ x4')).trans x4'
          replace x5' := (L5.out.cell (World.block_lt_of_cell? w _ x5')).trans x5'
          go_wp2
          go_roundg k1
          case measure => exact Nat.lt_succ_self k1
          case rel =>
            have hS2 := six_same (w := w5) (g := g1) (v0 := .int .i64 y.f0) (v1 := .int .i64 y.f1.f0) (v2 := .int .i64 y.f1.f1) (v3 := .string y.f2) (v4 := .slice Y4 y.f3.length y4) (v5 := .slice Y5 y.f4.length y5) g2 hne'
            exact ⟨i + 1, y, Y4, y4, Y5, y5, by rw [E6.out], HIk, ⟨by rw [HAc.out, if_neg (by have := HU.out; omega)]⟩, HY, ⟨six_put E1.out⟩, ⟨hS2.trans E2.out⟩, ⟨s4, m4, s5, m5⟩, ⟨six_below L5.out g1w⟩⟩
end Go.Proofs.YtebcepbamlokcaaDoor.Q
namespace Go.Proofs.YtebcepbamlokcaaDoor.Q
open Go.RowKit Go.Proofs.YtebcepbamlokcaaDoorW.PrintWords Go.Proofs.YtebcepbamlokcaaDoorW.PrintLast Go.Proofs.YtebcepbamlokcaaDoorW.PrintMore
set_option linter.unusedVariables false
set_option linter.unusedSimpArgs false

def Fit45 : Nat → List S45 → Prop
  | 0, xs => xs = []
  | d + 1, xs => xs.length ≤ 2097152 ∧ ∀ x ∈ xs, x.f4.length ≤ 2097152 ∧ Fit45 d x.f3
def toV (f : List S45 → List S28) (x : S45) : S28 := ⟨x.f0, ⟨x.f1.f0, x.f1.f1⟩, x.f2, f x.f3, x.f4⟩
/-- The program's values for the statement's. -/
def toL : Nat → List S45 → List S28
  | 0, _ => []
  | d + 1, xs => xs.map (toV (toL d))
theorem toL_length : ∀ (d : Nat) (xs : List S45), Fit45 d xs → (toL d xs).length = xs.length
  | 0, xs, h => by rw [show xs = [] from h]; rfl
  | d + 1, xs, _ => by unfold toL; rw [List.length_map]

theorem toDec_calls (m e : Int) (w : World) : Calls Tryd.prog 65 #[.agg #[.int .i64 m, .int .i64 e]] w fun e' w' => e' = .returned (.agg #[.int .i64 m, .int .i64 e]) ∧ Below w.heap.size w w' := by
  go_enter Tryd.func65, Tryd.ntmps65
  go_wp2_with (first
    | ((with_reducible refine gate_dst (N := 1) rfl ?_); refine box_event ?hg (N := 1) ?hd (cs := #[.int .i64 m, .int .i64 e]) (t := 42) ?hr ?_; (case hd => rfl); (case hg => rfl); (case hr => first | (go_simp; done) | (go_simp; rfl))
       intro g1 hg1 w1 hbox1 hb1; have G1 := Aside0.mk hg1; have B1 := Aside0.mk hbox1; have L1 := Aside0.mk hb1; clear hg1 hbox1 hb1)
    | ((with_reducible refine gate_dst (N := 2) rfl ?_); refine box_event ?hg (N := 2) ?hd (cs := #[.int .i64 0, .int .i64 0]) (t := 24) ?hr ?_; (case hd => rfl); (case hg => rfl); (case hr => first | (go_simp; done) | (go_simp; rfl))
       intro g2 hg2 w2 hbox2 hb2; have G2 := Aside0.mk hg2; have B2 := Aside0.mk hbox2; have L2 := Aside0.mk hb2; clear hg2 hbox2 hb2)
    | ((with_reducible refine gate_dst (N := 3) rfl ?_); refine box_event ?hg (N := 3) ?hd (cs := #[.int .i64 0, .int .i64 0]) (t := 24) ?hr ?_; (case hd => rfl); (case hg => rfl); (case hr => first | (go_simp; done) | (go_simp; rfl))
       intro g3 hg3 w3 hbox3 hb3; have G3 := Aside0.mk hg3; have B3 := Aside0.mk hbox3; have L3 := Aside0.mk hb3; clear hg3 hbox3 hb3
       have C2 := blk_keep B2.out L3.out (blk_lt B2.out)
       have C1 := blk_keep (blk_keep B1.out L2.out (blk_lt B1.out)) L3.out (blk_lt (blk_keep B1.out L2.out (blk_lt B1.out)))
       have h12 : g1 ≠ g2 := by have := blk_lt B1.out; have := G2.out; omega
       have h23 : g2 ≠ g3 := by have := blk_lt B2.out; have := G3.out; omega
       have h13 : g1 ≠ g3 := by have := blk_lt (blk_keep B1.out L2.out (blk_lt B1.out)); have := G3.out; omega
       have h21 := h12.symm; have h32 := h23.symm; have h31 := h13.symm
       have a0 : w3.cell? ⟨g1, 0, none⟩ = some (.int .i64 m) := blk_cell C1 0
       have a1 : w3.cell? ⟨g1, 1, none⟩ = some (.int .i64 e) := blk_cell C1 1
       have b0 : w3.cell? ⟨g2, 0, none⟩ = some (.int .i64 0) := blk_cell C2 0
       have b1 : w3.cell? ⟨g2, 1, none⟩ = some (.int .i64 0) := blk_cell C2 1
       have c0 : w3.cell? ⟨g3, 0, none⟩ = some (.int .i64 0) := blk_cell B3.out 0
       have c1 : w3.cell? ⟨g3, 1, none⟩ = some (.int .i64 0) := blk_cell B3.out 1
       have y0 := blk_frozen C2 0; have y1 := blk_frozen C2 1; have z0 := blk_frozen B3.out 0; have z1 := blk_frozen B3.out 1))
  have D2 := blk_put (cs' := #[.int .i64 m, .int .i64 e]) (blk_put (cs' := #[.int .i64 m, .int .i64 0]) (blk_far (p := ⟨g3, 1, none⟩) (blk_far (p := ⟨g3, 0, none⟩) C2 h23 (.int .i64 m)) h23 (.int .i64 e)) 0 (.int .i64 m) rfl) 1 (.int .i64 e) rfl
  refine bodyPost_ret (results_cell_row rfl _ _ g2 24 #[.int .i64 m, .int .i64 e] (0, 0) _ rfl D2 Tryd.underlying24 rfl (by kernel_rfl)) rfl ?_
  have L := below_step (below_step L1.out L2.out) L3.out
  have h2 : w.heap.size ≤ g2 := by have := L1.out.size; have := G2.out; omega
  have h3 : w.heap.size ≤ g3 := by have := L1.out.size; have := L2.out.size; have := G3.out; omega
  exact ⟨rfl, Below.setCell (p := ⟨g2, 1, none⟩) (Below.setCell (p := ⟨g2, 0, none⟩) (Below.setCell (p := ⟨g3, 1, none⟩) (Below.setCell (p := ⟨g3, 0, none⟩) L h3 _) h3 _) h2 _) h2 _⟩

set_option maxHeartbeats 1000000 in
theorem toStringS_calls (w : World) (A : Option Addr) (c : Nat) (ns : List ByteArray) (h : Kd.C Kd.string w A ns.length ns) (hc : ns.length ≤ c) (hn : ns.length ≤ 2097152) :
    Calls Tryd.prog 30 #[.slice A ns.length c] w fun e w' => ∃ B c' fp, e = .returned (.slice B ns.length c') ∧ ns.length ≤ c' ∧ NRow w' B ns fp ∧ fp.Nodup ∧ (∀ q ∈ fp, w.heap.size ≤ q) ∧ Below w.heap.size w w' := by
  have HC := Aside0.mk h
  have HN := Aside0.mk hn
  clear h hn
  have hnn : (0 : Int) ≤ (ns.length : Int) := by omega
  have hle : (ns.length : Int) ≤ (ns.length : Int) := by omega
  go_enter Tryd.func30, Tryd.ntmps30
  go_wp2_with (
    (with_reducible refine gate_dst (N := 7) rfl ?_); refine Kd.R_make Kd.string _ 9 rfl (N := 7) rfl 26 _ _ rfl (ns.length : Int) rfl rfl Tryd.underlying26 (.string ⟨#[]⟩) 16 info9 rfl (by decide) (by omega) (⟨#[]⟩ : ByteArray) (ok := fun _ => True) (okp := fun _ => True) rfl (fun _ hk => hk) trivial (by omega) (by have := HN.out; simp only [Int.toNat_natCast]; omega) (Below.refl _ _) (Nat.le_refl _) ?_
    intro v4 w4 ho4 hb4 _ _
    obtain ⟨B, c', fp, hv4, hle4, N4, D4, F4⟩ := NRow.of_R ho4
    simp only [Int.toNat_natCast, List.length_replicate] at hv4 hle4 N4
    subst hv4
    have L4 := Aside0.mk hb4
    have HF4 := Aside0.mk F4
    clear ho4 hb4 F4)
  go_loopg [4] ns.length (fun kq v4 w' => ∃ (x4 : Int) (cur : List ByteArray), v4 = .int .i64 x4 ∧ Aside0 (0 ≤ x4 ∧ x4 + kq = ns.length) ∧ Aside0 (NRow w' B cur fp) ∧ Aside0 (cur.length = ns.length) ∧
    Aside0 (∀ (j : Nat), (j : Int) < x4 → cur[j]? = ns[j]?) ∧ Aside0 (Below w.heap.size w w'))
  case atStart => exact ⟨0, _, rfl, ⟨by omega⟩, ⟨N4⟩, ⟨by rw [List.length_replicate]⟩, ⟨fun j hj => by omega⟩, L4⟩
  case round =>
    obtain ⟨x4, cur, rfl, hk, hr, hl, hm, hb⟩ := hrel
    cases gk with
    | zero =>
      have hd : decide (x4 < (ns.length : Int)) = false := decide_eq_false (by have := hk.out; omega)
      go_wp2
      go_ret
      have hcn : cur = ns := List.ext_getElem? (fun j => by
        by_cases hj : j < ns.length
        · exact hm.out j (by have := hk.out; omega)
        · rw [List.getElem?_eq_none (by rw [hl.out]; omega), List.getElem?_eq_none (by omega)])
      subst hcn
      exact ⟨B, c', fp, rfl, hle4, hr.out, D4, fun q hq => (HF4.out q hq).1, hb.out⟩
    | succ k1 =>
      have hd : decide (x4 < (ns.length : Int)) = true := decide_eq_true (by have := hk.out; omega)
      have hp : (0 ≤ x4) = True := eq_true (by have := hk.out; omega)
      have hq : (x4 < (ns.length : Int)) = True := eq_true (by have := hk.out; omega)
      obtain ⟨b, rfl, hfb, hbl, hcell, hfro⟩ := hr.out.cell x4 (by have := hk.out; omega) (by have := hk.out; have := hl.out; omega)
      obtain ⟨ad, rfl, hsrc⟩ := Kd.at_string HC.out x4 (by have := hk.out; omega) (by have := hk.out; omega)
      replace hsrc := (hb.out.cell (World.block_lt_of_cell? w _ hsrc)).trans hsrc
      have HK := Aside0.mk hk.out
      clear hk
      go_wp2
      go_roundg k1
      case measure => exact Nat.lt_succ_self k1
      case rel =>
        have hk1 := HK.out
        have hl1 := hl.out
        have hN := HN.out
        have e6 : wrap64 (x4 + 1) = x4 + 1 := w64o (by omega) (by omega)
        refine ⟨wrap64 (x4 + 1), cur.set x4.toNat (rdOf ByteArray.empty ns x4), rfl, ⟨by rw [e6]; omega⟩, ⟨hr.out.put (by omega) _ _⟩, ⟨by rw [List.length_set]; exact hl1⟩, ⟨fun j hj => ?_⟩,
          ⟨Below.setCell hb.out (by have := (HF4.out b (by rw [hfb]; exact List.mem_singleton_self b)).1; exact this) _⟩⟩
        rw [e6] at hj
        by_cases hji : j = x4.toNat
        · subst hji
          rw [List.getElem?_set_self (by omega)]
          unfold rdOf
          rw [List.getD_eq_getElem?_getD, List.getElem?_eq_getElem (show x4.toNat < ns.length by omega)]; rfl
        · rw [List.getElem?_set_ne (fun e => hji e.symm)]
          exact hm.out j (by omega)
/-- Six cells of a row are written. -/
theorem six_row {W : World} {b o : Nat} {cs : Array Value} {v0 v1 v2 v3 v4 v5 : Value} (h : W.heap[b]? = some (.cells cs 28 (0, 0))) (hs : o + 6 ≤ cs.size) :
    ∃ cs', ((((((W.setCell ⟨b, o, none⟩ v0).setCell ⟨b, o + 1, none⟩ v1).setCell ⟨b, o + 2, none⟩ v2).setCell ⟨b, o + 3, none⟩ v3).setCell ⟨b, o + 4, none⟩ v4).setCell ⟨b, o + 5, none⟩ v5).heap[b]? = some (.cells cs' 28 (0, 0)) ∧ cs'.size = cs.size ∧
      cs'[o]? = some v0 ∧ cs'[o + 1]? = some v1 ∧ cs'[o + 2]? = some v2 ∧ cs'[o + 3]? = some v3 ∧ cs'[o + 4]? = some v4 ∧ cs'[o + 5]? = some v5 ∧ ∀ j, (j < o ∨ o + 6 ≤ j) → cs'[j]? = cs[j]? := by
  refine ⟨_, blk_set (blk_set (blk_set (blk_set (blk_set (blk_set h o v0) (o + 1) v1) (o + 2) v2) (o + 3) v3) (o + 4) v4) (o + 5) v5, by simp only [Array.size_setIfInBounds], ?_, ?_, ?_, ?_, ?_, ?_, fun j hj => ?_⟩
  all_goals
    repeat first
      | rw [Array.getElem?_setIfInBounds_ne (by omega)]
      | exact Array.getElem?_setIfInBounds_self_of_lt (by (try simp only [Array.size_setIfInBounds]); omega)
theorem six_row_other {W : World} {b o : Nat} {v0 v1 v2 v3 v4 v5 : Value} (q : Nat) (h : q ≠ b) :
    ((((((W.setCell ⟨b, o, none⟩ v0).setCell ⟨b, o + 1, none⟩ v1).setCell ⟨b, o + 2, none⟩ v2).setCell ⟨b, o + 3, none⟩ v3).setCell ⟨b, o + 4, none⟩ v4).setCell ⟨b, o + 5, none⟩ v5).heap[q]? = W.heap[q]? :=
  (Below.heap_setCell _ ⟨b, o + 5, none⟩ v5 q h).trans ((Below.heap_setCell _ ⟨b, o + 4, none⟩ v4 q h).trans ((Below.heap_setCell _ ⟨b, o + 3, none⟩ v3 q h).trans ((Below.heap_setCell _ ⟨b, o + 2, none⟩ v2 q h).trans ((Below.heap_setCell _ ⟨b, o + 1, none⟩ v1 q h).trans (Below.heap_setCell _ ⟨b, o, none⟩ v0 q h)))))
theorem six_row_below {B : Nat} {a W : World} {b o : Nat} {v0 v1 v2 v3 v4 v5 : Value} (h : Below B a W) (hg : B ≤ b) :
    Below B a ((((((W.setCell ⟨b, o, none⟩ v0).setCell ⟨b, o + 1, none⟩ v1).setCell ⟨b, o + 2, none⟩ v2).setCell ⟨b, o + 3, none⟩ v3).setCell ⟨b, o + 4, none⟩ v4).setCell ⟨b, o + 5, none⟩ v5) :=
  Below.setCell (p := ⟨b, o + 5, none⟩) (Below.setCell (p := ⟨b, o + 4, none⟩) (Below.setCell (p := ⟨b, o + 3, none⟩) (Below.setCell (p := ⟨b, o + 2, none⟩) (Below.setCell (p := ⟨b, o + 1, none⟩) (Below.setCell (p := ⟨b, o, none⟩) h hg v0) hg v1) hg v2) hg v3) hg v4) hg v5

/-- A row of n places of which the first ones hold what is done. -/
def Part (d : Nat) (base : Nat) (w : World) (A : Option Addr) (n : Nat) (done : List S28) (fps : List (List Nat)) : Prop :=
  n = 0 ∨ ∃ (b : Nat) (cs : Array Value), A = some ⟨b, 0, none⟩ ∧ w.heap[b]? = some (.cells cs 28 (0, 0)) ∧ n * 6 ≤ cs.size ∧ VItems (VRow d) w (fun j => cs[j]?) done fps ∧ fps.flatten.Nodup ∧ (∀ q ∈ fps.flatten, base ≤ q ∧ q < w.heap.size ∧ q ≠ b) ∧ base ≤ b

abbrev ToS (d : Nat) : Prop := ∀ (w : World) (A : Option Addr) (c : Nat) (xs : List S45), Kd.C k45 w A xs.length xs → xs.length ≤ c → Fit45 d xs →
    Calls Tryd.prog 66 #[.slice A xs.length c] w fun e w' => ∃ B c' fp, e = .returned (.slice B xs.length c') ∧ xs.length ≤ c' ∧ VRow d w' B (toL d xs) fp ∧ fp.Nodup ∧ (∀ q ∈ fp, w.heap.size ≤ q) ∧ (xs = [] → fp = []) ∧ Below w.heap.size w w'

set_option maxHeartbeats 2000000 in
set_option maxRecDepth 100000 in
theorem toValue_of (d : Nat) (ih : ToS d) (w : World) (n m e : Int) (s : ByteArray) (A4 : Option Addr) (c4 : Nat) (xs : List S45) (A5 : Option Addr) (c5 : Nat) (ns : List ByteArray) (h4 : Kd.C k45 w A4 xs.length xs) (l4 : xs.length ≤ c4) (h5 : Kd.C Kd.string w A5 ns.length ns) (l5 : ns.length ≤ c5)
    (hf : Fit45 d xs) (hn : ns.length ≤ 2097152) :
    Calls Tryd.prog 24 #[.agg #[.int .i64 n, .int .i64 m, .int .i64 e, .string s, .slice A4 xs.length c4, .slice A5 ns.length c5]] w fun e' w' => ∃ B4 b4 B5 b5 f4 f5,
      e' = .returned (.agg #[.int .i64 n, .int .i64 m, .int .i64 e, .string s, .slice B4 xs.length b4, .slice B5 ns.length b5]) ∧ xs.length ≤ b4 ∧ ns.length ≤ b5 ∧ VRow d w' B4 (toL d xs) f4 ∧ NRow w' B5 ns f5 ∧ (f4 ++ f5).Nodup ∧ (∀ q ∈ f4 ++ f5, w.heap.size ≤ q) ∧ Below w.heap.size w w' := by
  have H4 := Aside0.mk h4
  have H5 := Aside0.mk h5
  have HF := Aside0.mk hf
  have HN := Aside0.mk hn
  clear h4 h5 hf hn
  go_enter Tryd.func24, Tryd.ntmps24
  go_wp2_with (first
    | ((with_reducible refine gate_dst (N := 1) rfl ?_); refine box_event ?hg (N := 1) ?hd (cs := #[.int .i64 n, .int .i64 m, .int .i64 e, .string s, .slice A4 xs.length c4, .slice A5 ns.length c5]) (t := 45) ?hr ?_; (case hd => rfl); (case hg => rfl); (case hr => first | (go_simp; done) | (go_simp; rfl))
       intro g1 hg1 w1 hbox1 hb1; have G1 := Aside0.mk hg1; have B1 := Aside0.mk hbox1; have L1 := Aside0.mk hb1; clear hg1 hbox1 hb1)
    | ((with_reducible refine gate_dst (N := 2) rfl ?_); refine box_event ?hg (N := 2) ?hd (cs := #[.int .i64 0, .int .i64 0, .int .i64 0, .string (⟨#[]⟩ : ByteArray), .slice none 0 0, .slice none 0 0]) (t := 28) ?hr ?_; (case hd => rfl); (case hg => rfl); (case hr => first | (go_simp; done) | (go_simp; rfl))
       intro g2 hg2 w2 hbox2 hb2; have G2 := Aside0.mk hg2; have B2 := Aside0.mk hbox2; have L2 := Aside0.mk hb2; clear hg2 hbox2 hb2)
    | ((with_reducible refine gate_dst (N := 3) rfl ?_); refine box_event ?hg (N := 3) ?hd (cs := #[.int .i64 0, .int .i64 0, .int .i64 0, .string (⟨#[]⟩ : ByteArray), .slice none 0 0, .slice none 0 0]) (t := 28) ?hr ?_; (case hd => rfl); (case hg => rfl); (case hr => first | (go_simp; done) | (go_simp; rfl))
       intro g3 hg3 w3 hbox3 hb3; have G3 := Aside0.mk hg3; have B3 := Aside0.mk hbox3; have L3 := Aside0.mk hb3; clear hg3 hbox3 hb3
       have h12 : g1 ≠ g2 := by have := blk_lt B1.out; have := G2.out; omega
       have h23 : g2 ≠ g3 := by have := blk_lt B2.out; have := G3.out; omega
       have h13 : g1 ≠ g3 := by have := blk_lt (blk_keep B1.out L2.out (blk_lt B1.out)); have := G3.out; omega
       have h21 := h12.symm; have h32 := h23.symm; have h31 := h13.symm
       have gw1 : w.heap.size ≤ g1 := Nat.le_of_eq G1.out.symm
       have gw2 : w.heap.size ≤ g2 := by have := L1.out.size; have := G2.out; omega
       have gw3 : w.heap.size ≤ g3 := by have := L1.out.size; have := L2.out.size; have := G3.out; omega
       have Q2 := Aside0.mk (blk_keep B2.out L3.out (blk_lt B2.out))
       have Q1 := Aside0.mk (blk_keep (blk_keep B1.out L2.out (blk_lt B1.out)) L3.out (blk_lt (blk_keep B1.out L2.out (blk_lt B1.out))))
       have Q3 := Aside0.mk B3.out
       have LL := Aside0.mk (below_step (below_step L1.out L2.out) L3.out)
       obtain ⟨p0, p1, p2, p3, p4, p5, -⟩ := six_cells Q1.out
       obtain ⟨r0, r1, r2, r3, r4, r5, z0, z1, z2, z3, z4, z5⟩ := six_cells Q3.out)
    | (go_at_call 65
       have U1 := Aside0.mk (blk_far (p := ⟨g3, 0, none⟩) Q1.out h13 (.int .i64 n))
       have U2 := Aside0.mk (blk_far (p := ⟨g3, 0, none⟩) Q2.out h23 (.int .i64 n))
       have U3 := Aside0.mk (blk_put (cs' := #[.int .i64 n, .int .i64 0, .int .i64 0, .string (⟨#[]⟩ : ByteArray), .slice none 0 0, .slice none 0 0]) Q3.out 0 (.int .i64 n) rfl)
       have LU := Aside0.mk (Below.setCell (p := ⟨g3, 0, none⟩) LL.out gw3 (.int .i64 n))
       refine (toDec_calls m e _).mono ?_
       rintro e' w4 ⟨rfl, hb4⟩
       have T1 := Aside0.mk (blk_keep U1.out hb4 (blk_lt U1.out)); have T2 := Aside0.mk (blk_keep U2.out hb4 (blk_lt U2.out)); have T3 := Aside0.mk (blk_keep U3.out hb4 (blk_lt U3.out))
       have LT := Aside0.mk (below_step LU.out hb4)
       clear p0 p1 p2 p3 p4 p5 r0 r1 r2 r3 r4 r5 z0 z1 z2 z3 z4 z5 hb4
       obtain ⟨p0, p1, p2, p3, p4, p5, -⟩ := six_cells T1.out
       obtain ⟨r0, r1, r2, r3, r4, r5, z0, z1, z2, z3, z4, z5⟩ := six_cells T3.out)
    | (go_at_call 66
       have X1 := Aside0.mk (blk_far (p := ⟨g3, 3, none⟩) (blk_far (p := ⟨g3, 2, none⟩) (blk_far (p := ⟨g3, 1, none⟩) T1.out h13 (.int .i64 m)) h13 (.int .i64 e)) h13 (.string s))
       have X2 := Aside0.mk (blk_far (p := ⟨g3, 3, none⟩) (blk_far (p := ⟨g3, 2, none⟩) (blk_far (p := ⟨g3, 1, none⟩) T2.out h23 (.int .i64 m)) h23 (.int .i64 e)) h23 (.string s))
       have X3 := Aside0.mk (blk_put (cs' := #[.int .i64 n, .int .i64 m, .int .i64 e, .string s, .slice none 0 0, .slice none 0 0]) (blk_put (cs' := #[.int .i64 n, .int .i64 m, .int .i64 e, .string (⟨#[]⟩ : ByteArray), .slice none 0 0, .slice none 0 0]) (blk_put (cs' := #[.int .i64 n, .int .i64 m, .int .i64 0, .string (⟨#[]⟩ : ByteArray), .slice none 0 0, .slice none 0 0]) T3.out 1 (.int .i64 m) rfl) 2 (.int .i64 e) rfl) 3 (.string s) rfl)
       have LX := Aside0.mk (Below.setCell (p := ⟨g3, 3, none⟩) (Below.setCell (p := ⟨g3, 2, none⟩) (Below.setCell (p := ⟨g3, 1, none⟩) LT.out gw3 (.int .i64 m)) gw3 (.int .i64 e)) gw3 (.string s))
       generalize ((w4.setCell ⟨g3, 1, none⟩ (.int .i64 m)).setCell ⟨g3, 2, none⟩ (.int .i64 e)).setCell ⟨g3, 3, none⟩ (.string s) = wX at *
       refine (ih wX A4 c4 xs (Kd.C_below H4.out LX.out) l4 HF.out).mono ?_
       rintro e' w5 ⟨D4, d4, f4, rfl, ld4, V4, N4, F4, _, hb5⟩
       have L5 := Aside0.mk hb5
       have T1' := Aside0.mk (blk_keep X1.out hb5 (blk_lt X1.out)); have T2' := Aside0.mk (blk_keep X2.out hb5 (blk_lt X2.out)); have T3' := Aside0.mk (blk_keep X3.out hb5 (blk_lt X3.out))
       clear p0 p1 p2 p3 p4 p5 r0 r1 r2 r3 r4 r5 z0 z1 z2 z3 z4 z5 hb5
       obtain ⟨p0, p1, p2, p3, p4, p5, -⟩ := six_cells T1'.out
       obtain ⟨r0, r1, r2, r3, r4, r5, z0, z1, z2, z3, z4, z5⟩ := six_cells T3'.out)
    | (go_at_call 30
       have Y1 := Aside0.mk (blk_far (p := ⟨g3, 4, none⟩) T1'.out h13 (.slice D4 xs.length d4))
       have Y2 := Aside0.mk (blk_far (p := ⟨g3, 4, none⟩) T2'.out h23 (.slice D4 xs.length d4))
       have Y3 := Aside0.mk (blk_put (cs' := #[.int .i64 n, .int .i64 m, .int .i64 e, .string s, .slice D4 xs.length d4, .slice none 0 0]) T3'.out 4 (.slice D4 xs.length d4) rfl)
       have LY := Aside0.mk (Below.setCell (p := ⟨g3, 4, none⟩) (below_step LX.out L5.out) gw3 (.slice D4 xs.length d4))
       have VY := Aside0.mk (VRow.same d V4 (fun q hq => Below.heap_setCell w5 ⟨g3, 4, none⟩ (.slice D4 xs.length d4) q (by have := F4 q hq; have := blk_lt X3.out; show q ≠ g3; omega)))
       have hle5 : wX.heap.size ≤ (w5.setCell ⟨g3, 4, none⟩ (.slice D4 xs.length d4)).heap.size := by have := L5.out.size; simp only [World.setCell, Array.size_modify]; exact this
       generalize w5.setCell ⟨g3, 4, none⟩ (.slice D4 xs.length d4) = wY at *
       refine (toStringS_calls wY A5 c5 ns (Kd.C_below H5.out LY.out) l5 HN.out).mono ?_
       rintro e' w6 ⟨D5, d5, f5, rfl, ld5, N5, M5, F5, hb6⟩
       have L6 := Aside0.mk hb6
       have S2 := Aside0.mk (blk_keep Y2.out hb6 (blk_lt Y2.out)); have S3 := Aside0.mk (blk_keep Y3.out hb6 (blk_lt Y3.out))
       have hlY := VRow.lt d VY.out
       clear p0 p1 p2 p3 p4 p5 r0 r1 r2 r3 r4 r5 z0 z1 z2 z3 z4 z5
       obtain ⟨p0, p1, p2, p3, p4, p5, x0, x1, x2, x3, x4, x5⟩ := six_cells S2.out
       obtain ⟨r0, r1, r2, r3, r4, r5, z0, z1, z2, z3, z4, z5⟩ := six_cells S3.out))
  have hP := six_put (v0 := .int .i64 n) (v1 := .int .i64 m) (v2 := .int .i64 e) (v3 := .string s) (v4 := .slice D4 xs.length d4) (v5 := .slice D5 ns.length d5) (blk_far S2.out (p := ⟨g3, 5, none⟩) h23 (.slice D5 ns.length d5))
  refine bodyPost_ret (results_cell_row rfl _ _ g2 28 #[.int .i64 n, .int .i64 m, .int .i64 e, .string s, .slice D4 xs.length d4, .slice D5 ns.length d5] (0, 0) _ rfl hP Tryd.underlying28 rfl (by kernel_rfl)) rfl ?_
  have hS := six_other (v0 := .int .i64 n) (v1 := .int .i64 m) (v2 := .int .i64 e) (v3 := .string s) (v4 := .slice D4 xs.length d4) (v5 := .slice D5 ns.length d5) (w := w6) (g := g2) g3 5 (.slice D5 ns.length d5)
  have k2 := blk_lt Y2.out
  have k3 := blk_lt Y3.out
  have m2 := blk_lt X2.out
  have m3 := blk_lt X3.out
  have hX := LX.out.size
  have hY := LY.out.size
  have hb6 := L6.out
  refine ⟨D4, d4, D5, d5, f4, f5, rfl, ld4, ld5, VRow.same d (VRow.same d VY.out (Same.of hb6 hlY)) (fun q hq => hS q ?_ ?_), NRow.same N5 (fun q hq => hS q ?_ ?_), List.nodup_append.2 ⟨N4, M5, fun a ha b hb h => ?_⟩, fun q hq => ?_, six_below (Below.setCell (p := ⟨g3, 5, none⟩) (below_step LY.out hb6) gw3 _) gw2⟩
  · have := F4 q hq; omega
  · have := F4 q hq; omega
  · have := F5 q hq; omega
  · have := F5 q hq; omega
  · have := hlY a ha; have := F5 b hb; omega
  · rcases List.mem_append.1 hq with hq | hq
    · have := F4 q hq; omega
    · have := F5 q hq; omega
theorem VRow.nil : ∀ (d : Nat) (w : World) (A : Option Addr), VRow d w A [] []
  | 0, _, _ => ⟨rfl, rfl⟩
  | _ + 1, _, _ => .inl ⟨rfl, rfl⟩

/-- One more place is filled. -/
theorem Part.round {d base : Nat} {wr w7 : World} {b n i : Nat} {cs : Array Value} {done : List S28} {fps : List (List Nat)} {x : S28} {D4 D5 : Option Addr} {d4 d5 : Nat} {e4 e5 : List Nat} (hb : wr.heap[b]? = some (.cells cs 28 (0, 0))) (hcs : n * 6 ≤ cs.size) (hin : i < n) (hl : done.length = i)
    (HV : VItems (VRow d) wr (fun j => cs[j]?) done fps) (HD : fps.flatten.Nodup) (HG : ∀ q ∈ fps.flatten, base ≤ q ∧ q < wr.heap.size ∧ q ≠ b) (hbb : base ≤ b) (L : Below wr.heap.size wr w7)
    (V4 : VRow d w7 D4 x.f3 e4) (N5 : NRow w7 D5 x.f4 e5) (l4 : x.f3.length ≤ d4) (l5 : x.f4.length ≤ d5) (D45 : (e4 ++ e5).Nodup) (F45 : ∀ q ∈ e4 ++ e5, wr.heap.size ≤ q) :
    Part d base ((((((w7.setCell ⟨b, i * 6, none⟩ (.int .i64 x.f0)).setCell ⟨b, i * 6 + 1, none⟩ (.int .i64 x.f1.f0)).setCell ⟨b, i * 6 + 2, none⟩ (.int .i64 x.f1.f1)).setCell ⟨b, i * 6 + 3, none⟩ (.string x.f2)).setCell ⟨b, i * 6 + 4, none⟩ (.slice D4 x.f3.length d4)).setCell ⟨b, i * 6 + 5, none⟩ (.slice D5 x.f4.length d5))
      (some ⟨b, 0, none⟩) n (done ++ [x]) (fps ++ [e4 ++ e5]) := by
  have hblt := blk_lt hb
  have hb7 := blk_keep hb L hblt
  have hlt4 := VRow.lt d V4
  have hlt5 := N5.lt
  have hnb : ∀ q ∈ e4 ++ e5, q ≠ b := fun q hq => by have := F45 q hq; omega
  have hsz : ∀ q, q ≠ b → ((((((w7.setCell ⟨b, i * 6, none⟩ (.int .i64 x.f0)).setCell ⟨b, i * 6 + 1, none⟩ (.int .i64 x.f1.f0)).setCell ⟨b, i * 6 + 2, none⟩ (.int .i64 x.f1.f1)).setCell ⟨b, i * 6 + 3, none⟩ (.string x.f2)).setCell ⟨b, i * 6 + 4, none⟩ (.slice D4 x.f3.length d4)).setCell ⟨b, i * 6 + 5, none⟩ (.slice D5 x.f4.length d5)).heap[q]? = w7.heap[q]? := fun q hq => six_row_other q hq
  obtain ⟨cs', hc', hs', c0, c1, c2, c3, c4, c5, ho⟩ := six_row (v0 := .int .i64 x.f0) (v1 := .int .i64 x.f1.f0) (v2 := .int .i64 x.f1.f1) (v3 := .string x.f2) (v4 := .slice D4 x.f3.length d4) (v5 := .slice D5 x.f4.length d5) hb7 (show i * 6 + 6 ≤ cs.size by omega)
  have hhs : ((((((w7.setCell ⟨b, i * 6, none⟩ (.int .i64 x.f0)).setCell ⟨b, i * 6 + 1, none⟩ (.int .i64 x.f1.f0)).setCell ⟨b, i * 6 + 2, none⟩ (.int .i64 x.f1.f1)).setCell ⟨b, i * 6 + 3, none⟩ (.string x.f2)).setCell ⟨b, i * 6 + 4, none⟩ (.slice D4 x.f3.length d4)).setCell ⟨b, i * 6 + 5, none⟩ (.slice D5 x.f4.length d5)).heap.size = w7.heap.size := by simp only [World.setCell, Array.size_modify]
  generalize (((((w7.setCell ⟨b, i * 6, none⟩ (.int .i64 x.f0)).setCell ⟨b, i * 6 + 1, none⟩ (.int .i64 x.f1.f0)).setCell ⟨b, i * 6 + 2, none⟩ (.int .i64 x.f1.f1)).setCell ⟨b, i * 6 + 3, none⟩ (.string x.f2)).setCell ⟨b, i * 6 + 4, none⟩ (.slice D4 x.f3.length d4)).setCell ⟨b, i * 6 + 5, none⟩ (.slice D5 x.f4.length d5) = W at *
  have hnew : Same w7 W (e4 ++ e5) := fun q hq => hsz q (hnb q hq)
  have hold : ∀ f ∈ fps, Same wr W f := fun f hf q hq => by
    have hg := HG q (List.mem_flatten.2 ⟨f, hf, hq⟩)
    exact (hsz q hg.2.2).trans (L.block q hg.2.1)
  refine .inr ⟨b, cs', rfl, hc', by omega, ⟨?_, fun j y f hy hf => ?_⟩, ?_, fun q hq => ?_, hbb⟩
  · rw [List.length_append, List.length_append, HV.1, List.length_singleton, List.length_singleton]
  · have hfl : fps.length = i := by rw [HV.1, hl]
    rcases Nat.lt_or_ge j i with hj | hj
    · rw [List.getElem?_append_left (by omega)] at hy hf
      refine VItem.of (g := fun j => cs[j]?) (fun q hq => ho _ (by omega)) ?_
      exact VItem.same (fun A xs fp => VRow.same d) (HV.2 j y f hy hf) (hold f (List.mem_of_getElem? hf))
    · have hji : j = i := by
        have := (List.getElem?_eq_some_iff.1 hf).1
        rw [List.length_append, List.length_singleton] at this
        omega
      subst hji
      rw [List.getElem?_append_right (by omega), hfl, Nat.sub_self] at hf
      rw [List.getElem?_append_right (by omega), hl, Nat.sub_self] at hy
      obtain rfl : e4 ++ e5 = f := by simpa using hf
      obtain rfl : x = y := by simpa using hy
      exact ⟨D4, d4, D5, d5, e4, e5, rfl, c0, c1, c2, c3, c4, c5, l4, l5, VRow.same d V4 hnew.left, N5.same hnew.right⟩
  · rw [List.flatten_append]
    refine List.nodup_append.2 ⟨HD, by simpa using D45, fun a ha b hb => ?_⟩
    have h1 := (HG a ha).2.1
    have h2 := F45 b (by simpa using hb)
    omega
  · have hl7 := L.size
    rw [List.flatten_append] at hq
    rcases List.mem_append.1 hq with hq | hq
    · obtain ⟨h1, h2, h3⟩ := HG q hq
      exact ⟨h1, by omega, h3⟩
    · have hq' : q ∈ e4 ++ e5 := by simpa using hq
      have h1 := F45 q hq'
      refine ⟨by omega, ?_, hnb q hq'⟩
      rw [hhs]
      exact (List.mem_append.1 hq').elim (hlt4 q) (hlt5 q)

set_option maxHeartbeats 2000000 in
set_option maxRecDepth 100000 in
theorem toValueS_succ (d : Nat) (w : World) (A : Option Addr) (c : Nat) (xs : List S45) (ih : 0 < xs.length → ToS d) (h : Kd.C k45 w A xs.length xs) (hc : xs.length ≤ c) (hf : Fit45 (d + 1) xs) :
    Calls Tryd.prog 66 #[.slice A xs.length c] w fun e w' => ∃ B c' fp, e = .returned (.slice B xs.length c') ∧ xs.length ≤ c' ∧ VRow (d + 1) w' B (toL (d + 1) xs) fp ∧ fp.Nodup ∧ (∀ q ∈ fp, w.heap.size ≤ q) ∧ (xs = [] → fp = []) ∧ Below w.heap.size w w' := by
  have HC := Aside0.mk h
  have HF := Aside0.mk hf
  clear h hf
  have hnn : (0 : Int) ≤ (xs.length : Int) := by omega
  have hle : (xs.length : Int) ≤ (xs.length : Int) := by omega
  go_enter Tryd.func66, Tryd.ntmps66
  go_wp2_with (
    (with_reducible refine gate_dst (N := 7) rfl ?_); refine Kd.R_make k28 _ 28 rfl (N := 7) rfl 25 _ _ rfl (xs.length : Int) rfl rfl Tryd.underlying25 (.agg #[(.int .i64 0), (.int .i64 0), (.int .i64 0), (.string ⟨#[]⟩), (.slice none 0 0), (.slice none 0 0)]) 88 info28 rfl (by decide) (by omega) z28 (ok := fun _ => True) (okp := fun _ => True) (k28_mkM _ _ _ z28 (Kd.R_nil _ _ _ _ _) (Kd.R_nil _ _ _ _ _)) (fun _ hk => hk) trivial (by omega) (by have := HF.out.1; simp only [Int.toNat_natCast]; omega) (Below.refl _ _) (Nat.le_refl _) ?_
    intro v4 w4 ho4 hb4 _ _
    obtain ⟨inner, hl4, ho4⟩ := Kd.R_own ho4
    have hP : ∃ B c', v4 = .slice B xs.length c' ∧ xs.length ≤ c' ∧ Part d w.heap.size w4 B xs.length [] [] := by
      simp only [Int.toNat_natCast, List.length_replicate] at ho4
      rcases ho4 with ⟨rfl, hn⟩ | ⟨g, cap, cur, rfl, hb, hg, hnc, hm, hs, ht⟩
      · exact ⟨none, 0, by rw [hn], by omega, .inl hn⟩
      · exact ⟨_, cap, rfl, hnc, .inr ⟨g, cur, rfl, hg, by rw [hs]; show xs.length * 6 ≤ cap * 6; omega, ⟨rfl, fun i x f hx => by simp at hx⟩, List.nodup_nil, by simp, hb⟩⟩
    obtain ⟨B, c', rfl, hle4, P4⟩ := hP
    have L4 := Aside0.mk hb4
    have PP := Aside0.mk P4
    clear ho4 hb4 P4 hl4)
  go_loopg [4] xs.length (fun kq v4 w' => ∃ (i : Nat) (fps : List (List Nat)), v4 = .int .i64 (i : Int) ∧ Aside0 (i + kq = xs.length) ∧ Aside0 (Part d w.heap.size w' B xs.length ((xs.take i).map (toV (toL d))) fps) ∧ Aside0 (Below w.heap.size w w'))
  case atStart => exact ⟨0, [], rfl, ⟨by omega⟩, ⟨PP.out⟩, L4⟩
  case round =>
    obtain ⟨i, fps, rfl, HI, HP, HB⟩ := hrel
    cases gk with
    | zero =>
      have hd : decide ((i : Int) < (xs.length : Int)) = false := decide_eq_false (by have := HI.out; omega)
      have hd' : decide (i < xs.length) = false := decide_eq_false (by have := HI.out; omega)
      go_wp2
      go_ret
      have hi := HI.out
      have h1 := HP.out
      rw [List.take_of_length_le (by omega)] at h1
      rcases h1 with h0 | ⟨b, cs, rfl, hb, hcs, HV, HD, HG, hbb⟩
      · have hx : xs = [] := List.length_eq_zero_iff.1 h0
        subst hx
        exact ⟨B, c', [], rfl, hle4, .inl ⟨rfl, rfl⟩, List.nodup_nil, by simp, fun _ => rfl, HB.out⟩
      · by_cases hx : xs = []
        · subst hx
          exact ⟨_, c', [], rfl, hle4, .inl ⟨rfl, rfl⟩, List.nodup_nil, by simp, fun _ => rfl, HB.out⟩
        · refine ⟨_, c', b :: fps.flatten, rfl, hle4, .inr ⟨b, cs, fps, rfl, rfl, hb, by show (List.map _ xs).length * 6 ≤ _; rw [List.length_map]; exact hcs, HV⟩, List.nodup_cons.2 ⟨fun hm => (HG b hm).2.2 rfl, HD⟩, fun q hq => ?_, fun h => absurd h hx, HB.out⟩
          rcases List.mem_cons.1 hq with rfl | hq
          · exact hbb
          · exact (HG q hq).1
    | succ k1 =>
      have hd : decide ((i : Int) < (xs.length : Int)) = true := decide_eq_true (by have := HI.out; omega)
      have hp : (0 ≤ (i : Int)) = True := eq_true (by omega)
      have hq : ((i : Int) < (xs.length : Int)) = True := eq_true (by have := HI.out; omega)
      have hi : i < xs.length := by have := HI.out; omega
      have HIk : Aside0 (i + 1 + k1 = xs.length) := ⟨by have := HI.out; omega⟩
      have E6 : Aside0 (wrap64 ((i : Int) + 1) = ((i + 1 : Nat) : Int)) := ⟨by have := HF.out.1; rw [w64o (by omega) (by omega)]; omega⟩
      obtain ⟨ad, A4', c4', A5', c5', rfl, x0, x1, x2, x3, x4, x5, l4', r4, l5', r5⟩ := at_T45 HC.out (i : Int) (by omega) (by omega)
      have hxe : rd_T45 xs (i : Int) = xs[i] := by unfold rd_T45; rw [Int.toNat_natCast, List.getD_eq_getElem?_getD, List.getElem?_eq_getElem hi]; rfl
      have hcx := List.getElem?_eq_getElem hi
      rw [hxe] at x0 x1 x2 x3 x4 x5 l4' r4 l5' r5
      simp only [Int.toNat_natCast] at x0 x1 x2 x3 x4 x5
      generalize xs[i] = x at hcx x0 x1 x2 x3 x4 x5 l4' r4 l5' r5
      replace x0 := (HB.out.cell (World.block_lt_of_cell? w _ x0)).trans x0
      replace x1 := (HB.out.cell (World.block_lt_of_cell? w _ x1)).trans x1
      replace x2 := (HB.out.cell (World.block_lt_of_cell? w _ x2)).trans x2
      replace x3 := (HB.out.cell (World.block_lt_of_cell? w _ x3)).trans x3
      replace x4 := (HB.out.cell (World.block_lt_of_cell? w _ x4)).trans x4
      replace x5 := (HB.out.cell (World.block_lt_of_cell? w _ x5)).trans x5
      rcases HP.out with h0 | ⟨b, cs, rfl, hb, hcs, HV, HD, HG, hbb⟩
      · omega
      have BK := Aside0.mk hb
      have HVs := Aside0.mk HV
      have hdl : ((xs.take i).map (toV (toL d))).length = i := by rw [List.length_map, List.length_take]; omega
      clear hb HV
      go_wp2_with (
        go_at_call 24
        have hxm := HF.out.2 x (List.mem_of_getElem? hcx)
        refine (toValue_of d (ih (by omega)) wr x.f0 x.f1.f0 x.f1.f1 x.f2 A4' c4' x.f3 A5' c5' x.f4 (Kd.C_below r4 HB.out) l4' (Kd.C_below r5 HB.out) l5' hxm.2 hxm.1).mono ?_
        rintro e' w7 ⟨D4, d4, D5, d5, e4, e5, rfl, m4, m5, V4, N5, D45, F45, hb7⟩
        have L7 := Aside0.mk hb7
        have BK7 := blk_keep BK.out hb7 (blk_lt BK.out)
        have hs6 : i * 6 + 6 ≤ cs.size := by omega
        have p0 := (blk_cell BK7 (i * 6)).trans (Array.getElem?_eq_getElem (by omega))
        have p1 := (blk_cell BK7 (i * 6 + 1)).trans (Array.getElem?_eq_getElem (by omega))
        have p2 := (blk_cell BK7 (i * 6 + 2)).trans (Array.getElem?_eq_getElem (by omega))
        have p3 := (blk_cell BK7 (i * 6 + 3)).trans (Array.getElem?_eq_getElem (by omega))
        have p4 := (blk_cell BK7 (i * 6 + 4)).trans (Array.getElem?_eq_getElem (by omega))
        have p5 := (blk_cell BK7 (i * 6 + 5)).trans (Array.getElem?_eq_getElem (by omega))
        have z0 := blk_frozen BK7 (i * 6); have z1 := blk_frozen BK7 (i * 6 + 1); have z2 := blk_frozen BK7 (i * 6 + 2); have z3 := blk_frozen BK7 (i * 6 + 3); have z4 := blk_frozen BK7 (i * 6 + 4); have z5 := blk_frozen BK7 (i * 6 + 5)
        clear x0 x1 x2 x3 x4 x5 hb7)
      go_roundg k1
      case measure => exact Nat.lt_succ_self k1
      case rel =>
        have hxm := HF.out.2 x (List.mem_of_getElem? hcx)
        have hlt := toL_length d x.f3 hxm.2
        have hr := Part.round (x := toV (toL d) x) (D4 := D4) (D5 := D5) (d4 := d4) (d5 := d5) BK.out hcs hi hdl HVs.out HD HG hbb L7.out V4 N5 (by rw [show (toV (toL d) x).f3 = toL d x.f3 from rfl, hlt]; exact m4) m5 D45 F45
        rw [show (toV (toL d) x).f3 = toL d x.f3 from rfl, hlt] at hr
        refine ⟨i + 1, fps ++ [e4 ++ e5], by rw [E6.out], HIk, ⟨?_⟩, ⟨six_row_below (below_step HB.out L7.out) hbb⟩⟩
        · rw [List.take_add_one, hcx, List.map_append]
          exact hr
theorem toValueS_calls : ∀ d, ToS d
  | d + 1 => fun w A c xs h hc hf => toValueS_succ d w A c xs (fun _ => toValueS_calls d) h hc hf
  | 0 => fun w A c xs h hc hf => by
    have hx : xs = [] := hf
    refine (toValueS_succ 0 w A c xs (fun h => by rw [hx] at h; simp at h) h hc ⟨by rw [hx]; simp, by rw [hx]; simp⟩).mono ?_
    rintro e' w' ⟨B, c', fp, h1, h2, h3, h4, h5, h6, h7⟩
    exact ⟨B, c', fp, h1, h2, ⟨rfl, h6 hx⟩, h4, h5, h6, h7⟩
end Go.Proofs.YtebcepbamlokcaaDoor.Q
namespace Go.Proofs.YtebcepbamlokcaaDoor.Q
open Go.RowKit Go.Proofs.YtebcepbamlokcaaDoorW.PrintWords Go.Proofs.YtebcepbamlokcaaDoorW.PrintLast Go.Proofs.YtebcepbamlokcaaDoorW.PrintMore
set_option linter.unusedVariables false
set_option linter.unusedSimpArgs false

def nw (ns : List ByteArray) : Nat := ns.length + (ns.map ByteArray.size).sum
def xw (c : List S45 → Nat) (x : S45) : Nat := x.f2.size + c x.f3 + nw x.f4
/-- What a row weighs. -/
def vw : Nat → List S45 → Nat
  | 0, _ => 0
  | d + 1, xs => xs.length + (xs.map (xw (vw d))).sum
/-- What is left, -1 if it is too much. -/
def lessW (left : Int) (n : Nat) : Int := if (n : Int) ≤ left then left - n else -1
/-- Nothing is greater than a machine can hold. -/
def Bnd : Nat → List S45 → Prop
  | 0, xs => xs = []
  | d + 1, xs => xs.length ≤ 140737488351232 ∧ ∀ x ∈ xs, x.f2.size ≤ 140737488351232 ∧ x.f4.length ≤ 140737488351232 ∧ (∀ s ∈ x.f4, s.size ≤ 140737488351232) ∧ Bnd d x.f3

theorem lessW_no {left : Int} {n : Nat} (h : left < n) : lessW left n = -1 := by unfold lessW; rw [if_neg (by omega)]
theorem lessW_yes {left : Int} {n : Nat} (h : (n : Int) ≤ left) : lessW left n = left - n := by unfold lessW; rw [if_pos h]

theorem tsum (l : List Nat) (i : Nat) (a : Nat) (h : l[i]? = some a) : (l.take (i + 1)).sum = (l.take i).sum + a := by
  rw [List.take_add_one, h]; simp
theorem tsum_le (l : List Nat) : ∀ i, (l.take i).sum ≤ l.sum := by
  intro i
  have := List.take_append_drop i l
  have h2 : (l.take i ++ l.drop i).sum = l.sum := by rw [this]
  rw [List.sum_append] at h2
  omega

set_option maxHeartbeats 1000000 in
theorem szStringS_calls (w : World) (A : Option Addr) (c : Nat) (ns : List ByteArray) (left : Int) (h : Kd.C Kd.string w A ns.length ns) (hc : ns.length ≤ c) (h0 : 0 ≤ left) (h1 : left ≤ 1048576) (hl : ns.length ≤ 140737488351232) (hs : ∀ s ∈ ns, s.size ≤ 140737488351232) :
    Calls Tryd.prog 29 #[.slice A ns.length c, .int .i64 left] w fun e w' => e = .returned (.int .i64 (lessW left (nw ns))) ∧ Below w.heap.size w w' := by
  have HC := Aside0.mk h
  have HS := Aside0.mk hs
  have HL := Aside0.mk hl
  have H1 := Aside0.mk h1
  clear h hs h1
  have e0 : wrap64 (left - (ns.length : Int)) = left - (ns.length : Int) := w64o (by have := H1.out; omega) (by have := H1.out; omega)
  clear hl
  have HNW : Aside0 (nw ns = ns.length + (ns.map ByteArray.size).sum) := ⟨rfl⟩
  by_cases hb : left - (ns.length : Int) < 0
  · have hd : decide (left - (ns.length : Int) < 0) = true := decide_eq_true hb
    go_enter Tryd.func29, Tryd.ntmps29
    go_wp2
    go_ret
    exact ⟨by rw [lessW_no (by have := HNW.out; omega)]; rfl, Below.refl _ _⟩
  · have hd : decide (left - (ns.length : Int) < 0) = false := decide_eq_false hb
    have HB := Aside0.mk hb
    clear hb
    go_enter Tryd.func29, Tryd.ntmps29
    go_wp2
    go_loopg [1, 5] ns.length (fun kq v1 v5 w' => ∃ (x1 : Int) (i : Nat), v1 = .int .i64 x1 ∧ v5 = .int .i64 (i : Int) ∧ Aside0 (x1 = left - (ns.length : Int) - (((ns.map ByteArray.size).take i).sum : Nat) ∧ 0 ≤ x1 ∧ i + kq = ns.length) ∧ Aside0 (w' = w))
    case atStart => exact ⟨_, 0, rfl, rfl, ⟨by simp, by have := HB.out; omega, by omega⟩, ⟨rfl⟩⟩
    case round =>
      obtain ⟨x1, i, rfl, rfl, hk, hw⟩ := hrel
      obtain rfl := hw.out
      cases gk with
      | zero =>
        have hd : decide ((i : Int) < (ns.length : Int)) = false := decide_eq_false (by have := hk.out; omega)
        have hd' : decide (i < ns.length) = false := decide_eq_false (by have := hk.out; omega)
        go_wp2
        go_ret
        obtain ⟨ha, hb, hc⟩ := hk.out
        rw [List.take_of_length_le (by rw [List.length_map]; omega)] at ha
        have hx : x1 = lessW left (nw ns) := by have := HNW.out; rw [lessW_yes (by omega)]; omega
        exact ⟨by rw [← hx]; rfl, Below.refl _ _⟩
      | succ k1 =>
        have hd : decide ((i : Int) < (ns.length : Int)) = true := decide_eq_true (by have := hk.out; omega)
        have hp : (0 ≤ (i : Int)) = True := eq_true (by omega)
        have hq : ((i : Int) < (ns.length : Int)) = True := eq_true (by have := hk.out; omega)
        have hi : i < ns.length := by have := hk.out; omega
        obtain ⟨ad, rfl, hsrc⟩ := Kd.at_string HC.out (i : Int) (by omega) (by omega)
        have hxe : rdOf ByteArray.empty ns (i : Int) = ns[i] := by unfold rdOf; rw [Int.toNat_natCast, List.getD_eq_getElem?_getD, List.getElem?_eq_getElem hi]; rfl
        have hcx := List.getElem?_eq_getElem hi
        rw [hxe] at hsrc
        generalize ns[i] = s at hcx hsrc
        have hsz := HS.out s (List.mem_of_getElem? hcx)
        have hst := tsum (ns.map ByteArray.size) i s.size (by rw [List.getElem?_map, hcx]; rfl)
        have hsl := tsum_le (ns.map ByteArray.size) (i + 1)
        have HK := Aside0.mk hk.out
        have E6 : Aside0 (wrap64 ((i : Int) + 1) = ((i + 1 : Nat) : Int)) := ⟨by have := HL.out; rw [w64o (by omega) (by omega)]; omega⟩
        have e1 : wrap64 (x1 - (s.size : Int)) = x1 - (s.size : Int) := by have h2 := HK.out; have := H1.out; exact w64o (by omega) (by omega)
        simp only [Int.toNat_natCast] at hsrc
        clear hk
        have HT := Aside0.mk hst
        have HZ := Aside0.mk hsl
        clear hst hsl hsz
        by_cases hb : x1 - (s.size : Int) < 0
        · have hd2 : decide (x1 - (s.size : Int) < 0) = true := decide_eq_true hb
          go_wp2
          go_ret
          have h2 := HK.out; have h3 := HT.out; have h4 := HZ.out
          exact ⟨by rw [lessW_no (by have := HNW.out; omega)]; rfl, Below.refl _ _⟩
        · have hd2 : decide (x1 - (s.size : Int) < 0) = false := decide_eq_false hb
          have HB2 := Aside0.mk hb
          clear hb
          go_wp2
          go_roundg k1
          case measure => exact Nat.lt_succ_self k1
          case rel =>
            have h2 := HK.out; have h3 := HT.out; have h4 := HB2.out
            exact ⟨_, i + 1, rfl, by rw [E6.out], ⟨by rw [h3]; omega, by omega, by omega⟩, ⟨rfl⟩⟩
abbrev SzS (d : Nat) : Prop := ∀ (w : World) (A : Option Addr) (c : Nat) (xs : List S45) (left : Int), Kd.C k45 w A xs.length xs → xs.length ≤ c → 0 ≤ left → left ≤ 1048576 → Bnd d xs →
    Calls Tryd.prog 62 #[.slice A xs.length c, .int .i64 left] w fun e w' => e = .returned (.int .i64 (lessW left (vw d xs))) ∧ Below w.heap.size w w'

set_option maxHeartbeats 2000000 in
set_option maxRecDepth 100000 in
theorem szValue_of (d : Nat) (ih : SzS d) (w : World) (n m e : Int) (s : ByteArray) (A4 : Option Addr) (c4 : Nat) (xs : List S45) (A5 : Option Addr) (c5 : Nat) (ns : List ByteArray) (left : Int) (h4 : Kd.C k45 w A4 xs.length xs) (l4 : xs.length ≤ c4) (h5 : Kd.C Kd.string w A5 ns.length ns) (l5 : ns.length ≤ c5)
    (h0 : 0 ≤ left) (h1 : left ≤ 1048576) (hs : s.size ≤ 140737488351232) (hn : ns.length ≤ 140737488351232) (hss : ∀ s ∈ ns, s.size ≤ 140737488351232) (hb : Bnd d xs) :
    Calls Tryd.prog 22 #[.agg #[.int .i64 n, .int .i64 m, .int .i64 e, .string s, .slice A4 xs.length c4, .slice A5 ns.length c5], .int .i64 left] w fun e' w' =>
      e' = .returned (.int .i64 (lessW left (s.size + vw d xs + nw ns))) ∧ Below w.heap.size w w' := by
  have H4 := Aside0.mk h4
  have H5 := Aside0.mk h5
  have HN := Aside0.mk hn
  have HS := Aside0.mk hss
  have HD := Aside0.mk hb
  have H1 := Aside0.mk h1
  have e0 : wrap64 (left - (s.size : Int)) = left - (s.size : Int) := w64o (by omega) (by omega)
  clear h4 h5 hn hss hb h1 hs
  have LA := below_alloc (Below.refl w.heap.size w) (.cells #[.int .i64 n, .int .i64 m, .int .i64 e, .string s, .slice A4 xs.length c4, .slice A5 ns.length c5] 45)
  have bx := heap_alloc_new w (.cells #[.int .i64 n, .int .i64 m, .int .i64 e, .string s, .slice A4 xs.length c4, .slice A5 ns.length c5] 45)
  by_cases hb : left - (s.size : Int) < 0
  · have hd : decide (left - (s.size : Int) < 0) = true := decide_eq_true hb
    go_enter Tryd.func22, Tryd.ntmps22
    go_wp2
    go_ret
    exact ⟨by rw [lessW_no (by omega)]; rfl, LA⟩
  · have hd : decide (left - (s.size : Int) < 0) = false := decide_eq_false hb
    have HB := Aside0.mk hb
    clear hb
    by_cases hb2 : left - (s.size : Int) - (vw d xs : Nat) < 0
    · have hl2 : lessW (left - (s.size : Int)) (vw d xs) = -1 := lessW_no (by omega)
      have hz : decide ((-1 : Int) < 0) = true := by decide
      go_enter Tryd.func22, Tryd.ntmps22
      go_wp2_with (go_at_call 62
                   refine (ih _ A4 c4 xs (left - (s.size : Int)) (Kd.C_below H4.out LA) l4 (by have := HB.out; omega) (by have := H1.out; omega) HD.out).mono ?_
                   rintro e' w2 ⟨rfl, hb4⟩
                   rw [hl2])
      go_ret
      exact ⟨by rw [lessW_no (by omega)]; rfl, below_step LA hb4⟩
    · have hl2 : lessW (left - (s.size : Int)) (vw d xs) = left - (s.size : Int) - (vw d xs : Nat) := lessW_yes (by omega)
      have hz : decide (left - (s.size : Int) - (vw d xs : Nat) < 0) = false := decide_eq_false hb2
      have HB2 := Aside0.mk hb2
      clear hb2
      by_cases hb3 : left - (s.size : Int) - (vw d xs : Nat) - (nw ns : Nat) < 0
      · have hl3 : lessW (left - (s.size : Int) - (vw d xs : Nat)) (nw ns) = -1 := lessW_no (by omega)
        have hz3 : decide ((-1 : Int) < 0) = true := by decide
        go_enter Tryd.func22, Tryd.ntmps22
        go_wp2_with (first
          | (go_at_call 62
             refine (ih _ A4 c4 xs (left - (s.size : Int)) (Kd.C_below H4.out LA) l4 (by have := HB.out; omega) (by have := H1.out; omega) HD.out).mono ?_
             rintro e' w2 ⟨rfl, hb4⟩
             rw [hl2]
             have g5 : w2.cell? ⟨w.heap.size, 5, none⟩ = some (.slice A5 ns.length c5) := blk_cell ((hb4.block _ (blk_lt bx)).trans bx) 5)
          | (go_at_call 29
             refine (szStringS_calls _ A5 c5 ns _ (Kd.C_below H5.out (below_step LA hb4)) l5 (by have := HB2.out; omega) (by have := H1.out; omega) HN.out HS.out).mono ?_
             rintro e' w3 ⟨rfl, hb5⟩
             rw [hl3]))
        go_ret
        exact ⟨by rw [lessW_no (by omega)]; rfl, below_step (below_step LA hb4) hb5⟩
      · have hl3 : lessW (left - (s.size : Int) - (vw d xs : Nat)) (nw ns) = left - (s.size : Int) - (vw d xs : Nat) - (nw ns : Nat) := lessW_yes (by omega)
        have hz3 : decide (left - (s.size : Int) - (vw d xs : Nat) - (nw ns : Nat) < 0) = false := decide_eq_false hb3
        have hfin : lessW left (s.size + vw d xs + nw ns) = left - (s.size : Int) - (vw d xs : Nat) - (nw ns : Nat) := by rw [lessW_yes (by omega)]; omega
        have HFI := Aside0.mk hfin
        clear hb3 hfin
        go_enter Tryd.func22, Tryd.ntmps22
        go_wp2_with (first
          | (go_at_call 62
             refine (ih _ A4 c4 xs (left - (s.size : Int)) (Kd.C_below H4.out LA) l4 (by have := HB.out; omega) (by have := H1.out; omega) HD.out).mono ?_
             rintro e' w2 ⟨rfl, hb4⟩
             rw [hl2]
             have g5 : w2.cell? ⟨w.heap.size, 5, none⟩ = some (.slice A5 ns.length c5) := blk_cell ((hb4.block _ (blk_lt bx)).trans bx) 5)
          | (go_at_call 29
             refine (szStringS_calls _ A5 c5 ns _ (Kd.C_below H5.out (below_step LA hb4)) l5 (by have := HB2.out; omega) (by have := H1.out; omega) HN.out HS.out).mono ?_
             rintro e' w3 ⟨rfl, hb5⟩
             rw [hl3]))
        go_ret
        exact ⟨by rw [HFI.out]; rfl, below_step (below_step LA hb4) hb5⟩

set_option maxHeartbeats 2000000 in
set_option maxRecDepth 100000 in
theorem szValueS_succ (d : Nat) (w : World) (A : Option Addr) (c : Nat) (xs : List S45) (left : Int) (ih : 0 < xs.length → SzS d) (h : Kd.C k45 w A xs.length xs) (hc : xs.length ≤ c) (h0 : 0 ≤ left) (h1 : left ≤ 1048576) (hbd : Bnd (d + 1) xs) :
    Calls Tryd.prog 62 #[.slice A xs.length c, .int .i64 left] w fun e w' => e = .returned (.int .i64 (lessW left (vw (d + 1) xs))) ∧ Below w.heap.size w w' := by
  have HC := Aside0.mk h
  have HD := Aside0.mk hbd
  have H1 := Aside0.mk h1
  have hl := hbd.1
  clear h h1 hbd
  have e0 : wrap64 (left - (xs.length : Int)) = left - (xs.length : Int) := w64o (by omega) (by have := H1.out; omega)
  clear hl
  have HNW : Aside0 (vw (d + 1) xs = xs.length + (xs.map (xw (vw d))).sum) := ⟨rfl⟩
  by_cases hb : left - (xs.length : Int) < 0
  · have hd : decide (left - (xs.length : Int) < 0) = true := decide_eq_true hb
    go_enter Tryd.func62, Tryd.ntmps62
    go_wp2
    go_ret
    exact ⟨by rw [lessW_no (by have := HNW.out; omega)]; rfl, Below.refl _ _⟩
  · have hd : decide (left - (xs.length : Int) < 0) = false := decide_eq_false hb
    have HB := Aside0.mk hb
    clear hb
    go_enter Tryd.func62, Tryd.ntmps62
    go_wp2
    go_loopg [1, 5] xs.length (fun kq v1 v5 w' => ∃ (x1 : Int) (i : Nat), v1 = .int .i64 x1 ∧ v5 = .int .i64 (i : Int) ∧ Aside0 (x1 = left - (xs.length : Int) - (((xs.map (xw (vw d))).take i).sum : Nat) ∧ 0 ≤ x1 ∧ i + kq = xs.length) ∧ Aside0 (Below w.heap.size w w'))
    case atStart => exact ⟨_, 0, rfl, rfl, ⟨by simp, by have := HB.out; omega, by omega⟩, ⟨Below.refl _ _⟩⟩
    case round =>
      obtain ⟨x1, i, rfl, rfl, hk, hw⟩ := hrel
      cases gk with
      | zero =>
        have hd : decide ((i : Int) < (xs.length : Int)) = false := decide_eq_false (by have := hk.out; omega)
        have hd' : decide (i < xs.length) = false := decide_eq_false (by have := hk.out; omega)
        go_wp2
        go_ret
        obtain ⟨ha, hb, hc⟩ := hk.out
        rw [List.take_of_length_le (by rw [List.length_map]; omega)] at ha
        have hx : x1 = lessW left (vw (d + 1) xs) := by have := HNW.out; rw [lessW_yes (by omega)]; omega
        exact ⟨by rw [← hx]; rfl, hw.out⟩
      | succ k1 =>
        have hd : decide ((i : Int) < (xs.length : Int)) = true := decide_eq_true (by have := hk.out; omega)
        have hp : (0 ≤ (i : Int)) = True := eq_true (by omega)
        have hq : ((i : Int) < (xs.length : Int)) = True := eq_true (by have := hk.out; omega)
        have hi : i < xs.length := by have := hk.out; omega
        obtain ⟨ad, A4', c4', A5', c5', rfl, y0, y1, y2, y3, y4, y5, l4', r4, l5', r5⟩ := at_T45 HC.out (i : Int) (by omega) (by omega)
        have hxe : rd_T45 xs (i : Int) = xs[i] := by unfold rd_T45; rw [Int.toNat_natCast, List.getD_eq_getElem?_getD, List.getElem?_eq_getElem hi]; rfl
        have hcx := List.getElem?_eq_getElem hi
        rw [hxe] at y0 y1 y2 y3 y4 y5 l4' r4 l5' r5
        simp only [Int.toNat_natCast] at y0 y1 y2 y3 y4 y5
        generalize xs[i] = x at hcx y0 y1 y2 y3 y4 y5 l4' r4 l5' r5
        have hxm := HD.out.2 x (List.mem_of_getElem? hcx)
        have HST := Aside0.mk (tsum (xs.map (xw (vw d))) i (x.f2.size + vw d x.f3 + nw x.f4) (by rw [List.getElem?_map, hcx]; rfl))
        have HSL := Aside0.mk (tsum_le (xs.map (xw (vw d))) (i + 1))
        have HK := Aside0.mk hk.out
        have E6 : Aside0 (wrap64 ((i : Int) + 1) = ((i + 1 : Nat) : Int)) := ⟨by have := HD.out.1; rw [w64o (by omega) (by omega)]; omega⟩
        clear hk
        replace y0 := (hw.out.cell (World.block_lt_of_cell? w _ y0)).trans y0
        replace y1 := (hw.out.cell (World.block_lt_of_cell? w _ y1)).trans y1
        replace y2 := (hw.out.cell (World.block_lt_of_cell? w _ y2)).trans y2
        replace y3 := (hw.out.cell (World.block_lt_of_cell? w _ y3)).trans y3
        replace y4 := (hw.out.cell (World.block_lt_of_cell? w _ y4)).trans y4
        replace y5 := (hw.out.cell (World.block_lt_of_cell? w _ y5)).trans y5
        have hcall := szValue_of d (ih (by omega)) wr x.f0 x.f1.f0 x.f1.f1 x.f2 A4' c4' x.f3 A5' c5' x.f4 x1 (Kd.C_below r4 hw.out) l4' (Kd.C_below r5 hw.out) l5' HK.out.2.1 (by have h2 := HK.out; have := H1.out; omega) hxm.1 hxm.2.1 hxm.2.2.1 hxm.2.2.2
        generalize x.f2.size + vw d x.f3 + nw x.f4 = u at *
        by_cases hb : x1 < (u : Int)
        · rw [lessW_no hb] at hcall
          have hd2 : decide ((-1 : Int) < 0) = true := by decide
          have HCA := Aside0.mk hb
          clear hb
          go_wp2_with (go_at_call 22; refine hcall.mono ?_; rintro e' w2 ⟨rfl, hb2⟩)
          go_ret
          have h2 := HK.out; have h3 := HST.out; have h4 := HSL.out; have h5 := HNW.out; have h6 := HCA.out
          exact ⟨by rw [lessW_no (by omega)]; rfl, below_step hw.out hb2⟩
        · have hge : (u : Int) ≤ x1 := by omega
          rw [lessW_yes hge] at hcall
          have hd2 : decide (x1 - (u : Int) < 0) = false := decide_eq_false (by omega)
          have HGE := Aside0.mk hge
          clear hb hge
          go_wp2_with (go_at_call 22; refine hcall.mono ?_; rintro e' w2 ⟨rfl, hb2⟩)
          go_roundg k1
          case measure => exact Nat.lt_succ_self k1
          case rel =>
            have h2 := HK.out; have h3 := HST.out; have h4 := HGE.out
            exact ⟨_, i + 1, rfl, by rw [E6.out], ⟨by rw [h3]; omega, by omega, by omega⟩, ⟨below_step hw.out hb2⟩⟩
theorem szValueS_calls : ∀ d, SzS d
  | d + 1 => fun w A c xs left h hc h0 h1 hb => szValueS_succ d w A c xs left (fun _ => szValueS_calls d) h hc h0 h1 hb
  | 0 => fun w A c xs left h hc h0 h1 hb => by
    have hx : xs = [] := hb
    refine (szValueS_succ 0 w A c xs left (fun h => by rw [hx] at h; simp at h) h hc h0 h1 ⟨by rw [hx]; simp, by rw [hx]; simp⟩).mono ?_
    rintro e' w' ⟨rfl, hb⟩
    exact ⟨by rw [hx]; rfl, hb⟩
end Go.Proofs.YtebcepbamlokcaaDoor.Q
namespace Go.Proofs.YtebcepbamlokcaaDoor.Q
open Go.RowKit Go.Proofs.YtebcepbamlokcaaDoorW.PrintWords Go.Proofs.YtebcepbamlokcaaDoorW.PrintLast Go.Proofs.YtebcepbamlokcaaDoorW.PrintMore
set_option linter.unusedVariables false
set_option linter.unusedSimpArgs false

set_option maxHeartbeats 1000000 in
theorem eqStringS_calls (w : World) (A B : Option Addr) (c c' : Nat) (ns : List ByteArray) (h : Kd.C Kd.string w A ns.length ns) (h' : Kd.C Kd.string w B ns.length ns) (hc : ns.length ≤ c) (hc' : ns.length ≤ c') :
    Calls Tryd.prog 31 #[.slice A ns.length c, .slice B ns.length c'] w fun e w' => e = .returned (.bool true) ∧ Below w.heap.size w w' := by
  have HC := Aside0.mk h
  have HC' := Aside0.mk h'
  have HL := Aside0.mk h.2.1
  clear h h'
  go_enter Tryd.func31, Tryd.ntmps31
  go_wp2
  go_loopg [5] ns.length (fun kq v5 w' => ∃ (i : Nat), v5 = .int .i64 (i : Int) ∧ Aside0 (i + kq = ns.length) ∧ Aside0 (Below w.heap.size w w'))
  case atStart => exact ⟨0, rfl, ⟨by omega⟩, ⟨Below.refl _ _⟩⟩
  case round =>
    obtain ⟨i, rfl, hk, hw⟩ := hrel
    cases gk with
    | zero =>
      have hd : decide ((i : Int) < (ns.length : Int)) = false := decide_eq_false (by have := hk.out; omega)
      have hd' : decide (i < ns.length) = false := decide_eq_false (by have := hk.out; omega)
      go_wp2
      go_ret
      exact ⟨rfl, hw.out⟩
    | succ k1 =>
      have hd : decide ((i : Int) < (ns.length : Int)) = true := decide_eq_true (by have := hk.out; omega)
      have hp : (0 ≤ (i : Int)) = True := eq_true (by omega)
      have hq : ((i : Int) < (ns.length : Int)) = True := eq_true (by have := hk.out; omega)
      have hi : i < ns.length := by have := hk.out; omega
      obtain ⟨ad, rfl, hsrc⟩ := Kd.at_string HC.out (i : Int) (by omega) (by omega)
      obtain ⟨ad', rfl, hsrc'⟩ := Kd.at_string HC'.out (i : Int) (by omega) (by omega)
      simp only [Int.toNat_natCast] at hsrc hsrc'
      replace hsrc := (hw.out.cell (World.block_lt_of_cell? w _ hsrc)).trans hsrc
      replace hsrc' := (hw.out.cell (World.block_lt_of_cell? w _ hsrc')).trans hsrc'
      generalize rdOf ByteArray.empty ns (i : Int) = s at hsrc hsrc'
      have E6 : Aside0 (wrap64 ((i : Int) + 1) = ((i + 1 : Nat) : Int)) := ⟨by have := HL.out; rw [w64o (by omega) (by omega)]; omega⟩
      have HK := Aside0.mk hk.out
      clear hk
      go_wp2
      go_quiet (fail)
      go_wp2
      go_roundg k1
      case measure => exact Nat.lt_succ_self k1
      case rel =>
        exact ⟨i + 1, by rw [E6.out], ⟨by have := HK.out; omega⟩, ⟨by apply pw_below_drewN; exact hw.out⟩⟩
theorem eqDec_calls (m e : Int) (w : World) : Calls Tryd.prog 69 #[.agg #[.int .i64 m, .int .i64 e], .agg #[.int .i64 m, .int .i64 e]] w fun e' w' => e' = .returned (.bool true) ∧ Below w.heap.size w w' := by
  go_enter Tryd.func69, Tryd.ntmps69
  go_wp2
  go_ret
  exact ⟨rfl, below_alloc (below_alloc (Below.refl _ _) _) _⟩
abbrev EqS (d : Nat) : Prop := ∀ (w : World) (A B : Option Addr) (c c' : Nat) (xs : List S28), Kd.C k28 w A xs.length xs → Kd.C k28 w B xs.length xs → xs.length ≤ c → xs.length ≤ c' → Fit d xs →
    Calls Tryd.prog 70 #[.slice A xs.length c, .slice B xs.length c'] w fun e w' => e = .returned (.bool true) ∧ Below w.heap.size w w'

set_option maxHeartbeats 2000000 in
set_option maxRecDepth 100000 in
theorem eqValue_of (d : Nat) (ih : EqS d) (w : World) (n m e : Int) (s : ByteArray) (A4 B4 : Option Addr) (c4 d4 : Nat) (xs : List S28) (A5 B5 : Option Addr) (c5 d5 : Nat) (ns : List ByteArray) (h4 : Kd.C k28 w A4 xs.length xs) (g4 : Kd.C k28 w B4 xs.length xs) (l4 : xs.length ≤ c4) (m4 : xs.length ≤ d4)
    (h5 : Kd.C Kd.string w A5 ns.length ns) (g5 : Kd.C Kd.string w B5 ns.length ns) (l5 : ns.length ≤ c5) (m5 : ns.length ≤ d5) (hf : Fit d xs) :
    Calls Tryd.prog 26 #[.agg #[.int .i64 n, .int .i64 m, .int .i64 e, .string s, .slice A4 xs.length c4, .slice A5 ns.length c5], .agg #[.int .i64 n, .int .i64 m, .int .i64 e, .string s, .slice B4 xs.length d4, .slice B5 ns.length d5]] w fun e' w' =>
      e' = .returned (.bool true) ∧ Below w.heap.size w w' := by
  have H4 := Aside0.mk h4; have H5 := Aside0.mk h5; have J4 := Aside0.mk g4; have J5 := Aside0.mk g5
  have HF := Aside0.mk hf
  clear h4 h5 g4 g5 hf
  go_enter Tryd.func26, Tryd.ntmps26
  go_wp2_with (first
    | ((with_reducible refine gate_dst (N := 2) rfl ?_); refine box_event ?hg (N := 2) ?hd (cs := #[.int .i64 n, .int .i64 m, .int .i64 e, .string s, .slice A4 xs.length c4, .slice A5 ns.length c5]) (t := 28) ?hr ?_; (case hd => rfl); (case hg => rfl); (case hr => first | (go_simp; done) | (go_simp; rfl))
       intro g1 hg1 w1 hbox1 hb1; have G1 := Aside0.mk hg1; have B1 := Aside0.mk hbox1; have L1 := Aside0.mk hb1; clear hg1 hbox1 hb1)
    | ((with_reducible refine gate_dst (N := 3) rfl ?_); refine box_event ?hg (N := 3) ?hd (cs := #[.int .i64 n, .int .i64 m, .int .i64 e, .string s, .slice B4 xs.length d4, .slice B5 ns.length d5]) (t := 28) ?hr ?_; (case hd => rfl); (case hg => rfl); (case hr => first | (go_simp; done) | (go_simp; rfl))
       intro g2 hg2 w2 hbox2 hb2; have G2 := Aside0.mk hg2; have B2 := Aside0.mk hbox2; have L2 := Aside0.mk (below_step L1.out hb2)
       have B1' := Aside0.mk (blk_keep B1.out hb2 (blk_lt B1.out)); clear hg2 hbox2 hb2
       obtain ⟨p0, p1, p2, p3, p4, p5, -⟩ := six_cells B1'.out
       obtain ⟨r0, r1, r2, r3, r4, r5, -⟩ := six_cells B2.out)
    | (go_at_call 69
       refine (eqDec_calls m e _).mono ?_
       rintro e' w3 ⟨rfl, hb3⟩
       have L3 := Aside0.mk (below_step L2.out hb3)
       have C1 := Aside0.mk (blk_keep B1'.out hb3 (blk_lt B1'.out)); have C2 := Aside0.mk (blk_keep B2.out hb3 (blk_lt B2.out))
       clear p0 p1 p2 p3 p4 p5 r0 r1 r2 r3 r4 r5 hb3
       obtain ⟨p0, p1, p2, p3, p4, p5, -⟩ := six_cells C1.out
       obtain ⟨r0, r1, r2, r3, r4, r5, -⟩ := six_cells C2.out)
    | (go_at_call 70
       refine (ih _ A4 B4 c4 d4 xs (Kd.C_below H4.out L3.out) (Kd.C_below J4.out L3.out) l4 m4 HF.out).mono ?_
       rintro e' w4 ⟨rfl, hb4⟩
       have L4 := Aside0.mk (below_step L3.out hb4)
       have D1 := Aside0.mk (blk_keep C1.out hb4 (blk_lt C1.out)); have D2 := Aside0.mk (blk_keep C2.out hb4 (blk_lt C2.out))
       clear p0 p1 p2 p3 p4 p5 r0 r1 r2 r3 r4 r5 hb4
       obtain ⟨p0, p1, p2, p3, p4, p5, -⟩ := six_cells D1.out
       obtain ⟨r0, r1, r2, r3, r4, r5, -⟩ := six_cells D2.out)
    | (go_at_call 31
       refine (eqStringS_calls _ A5 B5 c5 d5 ns (Kd.C_below H5.out L4.out) (Kd.C_below J5.out L4.out) l5 m5).mono ?_
       rintro e' w5 ⟨rfl, hb5⟩
       have L5 := Aside0.mk (below_step L4.out hb5)))
  go_ret
  exact ⟨rfl, L5.out⟩

set_option maxHeartbeats 2000000 in
set_option maxRecDepth 100000 in
theorem eqValueS_succ (d : Nat) (w : World) (A B : Option Addr) (c c' : Nat) (xs : List S28) (ih : 0 < xs.length → EqS d) (h : Kd.C k28 w A xs.length xs) (h' : Kd.C k28 w B xs.length xs) (hc : xs.length ≤ c) (hc' : xs.length ≤ c') (hf : Fit (d + 1) xs) :
    Calls Tryd.prog 70 #[.slice A xs.length c, .slice B xs.length c'] w fun e w' => e = .returned (.bool true) ∧ Below w.heap.size w w' := by
  have HC := Aside0.mk h
  have HC' := Aside0.mk h'
  have HF := Aside0.mk hf
  clear h h' hf
  go_enter Tryd.func70, Tryd.ntmps70
  go_wp2
  go_loopg [5] xs.length (fun kq v5 w' => ∃ (i : Nat), v5 = .int .i64 (i : Int) ∧ Aside0 (i + kq = xs.length) ∧ Aside0 (Below w.heap.size w w'))
  case atStart => exact ⟨0, rfl, ⟨by omega⟩, ⟨Below.refl _ _⟩⟩
  case round =>
    obtain ⟨i, rfl, hk, hw⟩ := hrel
    cases gk with
    | zero =>
      have hd : decide ((i : Int) < (xs.length : Int)) = false := decide_eq_false (by have := hk.out; omega)
      have hd' : decide (i < xs.length) = false := decide_eq_false (by have := hk.out; omega)
      go_wp2
      go_ret
      exact ⟨rfl, hw.out⟩
    | succ k1 =>
      have hd : decide ((i : Int) < (xs.length : Int)) = true := decide_eq_true (by have := hk.out; omega)
      have hp : (0 ≤ (i : Int)) = True := eq_true (by omega)
      have hq : ((i : Int) < (xs.length : Int)) = True := eq_true (by have := hk.out; omega)
      have hi : i < xs.length := by have := hk.out; omega
      have hxe : rd_T28 xs (i : Int) = xs[i] := by unfold rd_T28; rw [Int.toNat_natCast, List.getD_eq_getElem?_getD, List.getElem?_eq_getElem hi]; rfl
      have hcx := List.getElem?_eq_getElem hi
      obtain ⟨ad, A4, c4, A5, c5, rfl, x0, x1, x2, x3, x4, x5, l4, r4, l5, r5⟩ := at_T28 HC.out (i : Int) (by omega) (by omega)
      obtain ⟨ad', B4, d4, B5, d5, rfl, y0, y1, y2, y3, y4, y5, m4, s4, m5, s5⟩ := at_T28 HC'.out (i : Int) (by omega) (by omega)
      rw [hxe] at x0 x1 x2 x3 x4 x5 l4 r4 l5 r5 y0 y1 y2 y3 y4 y5 m4 s4 m5 s5
      simp only [Int.toNat_natCast] at x0 x1 x2 x3 x4 x5 y0 y1 y2 y3 y4 y5
      generalize xs[i] = x at hcx x0 x1 x2 x3 x4 x5 l4 r4 l5 r5 y0 y1 y2 y3 y4 y5 m4 s4 m5 s5
      replace x0 := (hw.out.cell (World.block_lt_of_cell? w _ x0)).trans x0
      replace x1 := (hw.out.cell (World.block_lt_of_cell? w _ x1)).trans x1
      replace x2 := (hw.out.cell (World.block_lt_of_cell? w _ x2)).trans x2
      replace x3 := (hw.out.cell (World.block_lt_of_cell? w _ x3)).trans x3
      replace x4 := (hw.out.cell (World.block_lt_of_cell? w _ x4)).trans x4
      replace x5 := (hw.out.cell (World.block_lt_of_cell? w _ x5)).trans x5
      replace y0 := (hw.out.cell (World.block_lt_of_cell? w _ y0)).trans y0
      replace y1 := (hw.out.cell (World.block_lt_of_cell? w _ y1)).trans y1
      replace y2 := (hw.out.cell (World.block_lt_of_cell? w _ y2)).trans y2
      replace y3 := (hw.out.cell (World.block_lt_of_cell? w _ y3)).trans y3
      replace y4 := (hw.out.cell (World.block_lt_of_cell? w _ y4)).trans y4
      replace y5 := (hw.out.cell (World.block_lt_of_cell? w _ y5)).trans y5
      have E6 : Aside0 (wrap64 ((i : Int) + 1) = ((i + 1 : Nat) : Int)) := ⟨by have := HF.out.1; rw [w64o (by omega) (by omega)]; omega⟩
      have HK := Aside0.mk hk.out
      have hfx : Fit d x.f3 := (HF.out.2 x (List.mem_of_getElem? hcx)).2
      have hB7 := below_drew1 hw.out
      clear hk
      go_wp2
      refine start_ (n := 10) (S := fun w' => w'.cell? (ad.add (i * 6)) = some (.int .i64 x.f0) ∧ w'.cell? ⟨(ad.add (i * 6)).block, (ad.add (i * 6)).off + 1, none⟩ = some (.int .i64 x.f1.f0) ∧ w'.cell? ⟨(ad.add (i * 6)).block, (ad.add (i * 6)).off + 2, none⟩ = some (.int .i64 x.f1.f1) ∧ w'.cell? ⟨(ad.add (i * 6)).block, (ad.add (i * 6)).off + 3, none⟩ = some (.string x.f2) ∧ w'.cell? ⟨(ad.add (i * 6)).block, (ad.add (i * 6)).off + 4, none⟩ = some (.slice A4 x.f3.length c4) ∧ w'.cell? ⟨(ad.add (i * 6)).block, (ad.add (i * 6)).off + 5, none⟩ = some (.slice A5 x.f4.length c5) ∧ w'.cell? (ad'.add (i * 6)) = some (.int .i64 x.f0) ∧ w'.cell? ⟨(ad'.add (i * 6)).block, (ad'.add (i * 6)).off + 1, none⟩ = some (.int .i64 x.f1.f0) ∧ w'.cell? ⟨(ad'.add (i * 6)).block, (ad'.add (i * 6)).off + 2, none⟩ = some (.int .i64 x.f1.f1) ∧ w'.cell? ⟨(ad'.add (i * 6)).block, (ad'.add (i * 6)).off + 3, none⟩ = some (.string x.f2) ∧ w'.cell? ⟨(ad'.add (i * 6)).block, (ad'.add (i * 6)).off + 4, none⟩ = some (.slice B4 x.f3.length d4) ∧ w'.cell? ⟨(ad'.add (i * 6)).block, (ad'.add (i * 6)).off + 5, none⟩ = some (.slice B5 x.f4.length d5)) (ds := []) #[false, false, false, false, false, false, false, false, false, false] (by kernel_rfl) rfl rfl (⟨x0, x1, x2, x3, x4, x5, y0, y1, y2, y3, y4, y5⟩) (fun hHeld => ?_)
      generalize wr.drew = w7 at hB7 hHeld ⊢
      obtain ⟨x0, x1, x2, x3, x4, x5, y0, y1, y2, y3, y4, y5⟩ := id hHeld
      refine pure_ (i := 0) (N := some 17) (v := ?_) (a' := ?_) #[true, false, false, false, false, false, false, false, false, false] rfl rfl (by kernel_rfl) (fun _ _ _ h => h) (Or.inl ⟨by rfl, ?_⟩) ?_ ?_
      rotate_left
      · intro w'
        go_simp; with_reducible rfl
      rotate_left
      · simp only [Act.put, List.setIfInBounds_toArray, List.set_cons_zero, List.set_cons_succ, i64_w, i32_w]; rfl
      refine pure_ (i := 1) (N := some 18) (v := ?_) (a' := ?_) #[true, true, false, false, false, false, false, false, false, false] rfl rfl (by kernel_rfl) (fun _ _ _ h => h) (Or.inl ⟨by rfl, ?_⟩) ?_ ?_
      rotate_left
      · intro w'
        go_simp; with_reducible rfl
      rotate_left
      · simp only [Act.put, List.setIfInBounds_toArray, List.set_cons_zero, List.set_cons_succ, i64_w, i32_w]; rfl
      refine pure_ (i := 2) (N := some 19) (v := ?_) (a' := ?_) #[true, true, true, false, false, false, false, false, false, false] rfl rfl (by kernel_rfl) (fun _ _ _ h => h) (Or.inl ⟨by rfl, ?_⟩) ?_ ?_
      rotate_left
      · intro w'
        go_simp; with_reducible rfl
      rotate_left
      · simp only [Act.put, List.setIfInBounds_toArray, List.set_cons_zero, List.set_cons_succ, i64_w, i32_w]; rfl
      refine pure_ (i := 4) (N := some 21) (v := ?_) (a' := ?_) #[true, true, true, false, true, false, false, false, false, false] rfl rfl (by kernel_rfl) (fun _ _ _ h => h) (Or.inl ⟨by rfl, ?_⟩) ?_ ?_
      rotate_left
      · intro w'
        go_simp; with_reducible rfl
      rotate_left
      · simp only [Act.put, List.setIfInBounds_toArray, List.set_cons_zero, List.set_cons_succ, i64_w, i32_w]; rfl
      refine pure_ (i := 5) (N := some 22) (v := ?_) (a' := ?_) #[true, true, true, false, true, true, false, false, false, false] rfl rfl (by kernel_rfl) (fun _ _ _ h => h) (Or.inl ⟨by rfl, ?_⟩) ?_ ?_
      rotate_left
      · intro w'
        go_simp; with_reducible rfl
      rotate_left
      · simp only [Act.put, List.setIfInBounds_toArray, List.set_cons_zero, List.set_cons_succ, i64_w, i32_w]; rfl
      refine pure_ (i := 6) (N := some 23) (v := ?_) (a' := ?_) #[true, true, true, false, true, true, true, false, false, false] rfl rfl (by kernel_rfl) (fun _ _ _ h => h) (Or.inl ⟨by rfl, ?_⟩) ?_ ?_
      rotate_left
      · intro w'
        go_simp; with_reducible rfl
      rotate_left
      · simp only [Act.put, List.setIfInBounds_toArray, List.set_cons_zero, List.set_cons_succ, i64_w, i32_w]; rfl
      refine take_ (i := 3) (N := some 20) (v := ?_) (a' := ?_) #[true, true, true, true, true, true, true, false, false, false] rfl rfl (by kernel_rfl) (fun _ _ _ h => h) (Or.inl ⟨by rfl, ?_⟩) hHeld ?_ ?_
      rotate_left
      · intro w' s0
        obtain ⟨a0, a1, a2, a3, a4, a5, b0, b1, b2, b3, b4, b5⟩ := s0
        go_simp; with_reducible rfl
      rotate_left
      · simp only [Act.put, List.setIfInBounds_toArray, List.set_cons_zero, List.set_cons_succ, i64_w, i32_w]; rfl
      refine take_ (i := 7) (N := some 24) (v := ?_) (a' := ?_) #[true, true, true, true, true, true, true, true, false, false] rfl rfl (by kernel_rfl) (fun _ _ _ h => h) (Or.inl ⟨by rfl, ?_⟩) hHeld ?_ ?_
      rotate_left
      · intro w' s0
        obtain ⟨a0, a1, a2, a3, a4, a5, b0, b1, b2, b3, b4, b5⟩ := s0
        go_simp; with_reducible rfl
      rotate_left
      · simp only [Act.put, List.setIfInBounds_toArray, List.set_cons_zero, List.set_cons_succ, i64_w, i32_w]; rfl
      refine one_ (i := 8) (N := some 25) #[true, true, true, true, true, true, true, true, true, false] rfl rfl (by kernel_rfl) (by decide) (fun K hK => ?_)
      refine goes_ Tryd.func26 (by kernel_rfl) rfl #[.agg #[.int .i64 x.f0, .int .i64 x.f1.f0, .int .i64 x.f1.f1, .string x.f2, .slice A4 x.f3.length c4, .slice A5 x.f4.length c5], .agg #[.int .i64 x.f0, .int .i64 x.f1.f0, .int .i64 x.f1.f1, .string x.f2, .slice B4 x.f3.length d4, .slice B5 x.f4.length d5]] (by rfl) rfl rfl (by (try simp only [List.map_toArray, List.map_cons, List.map_nil]); first | done | rfl) ?_
      with_reducible refine (eqValue_of d (ih (by omega)) w7 x.f0 x.f1.f0 x.f1.f1 x.f2 A4 B4 c4 d4 x.f3 A5 B5 c5 d5 x.f4 (Kd.C_below r4 hB7) (Kd.C_below s4 hB7) l4 m4 (Kd.C_below r5 hB7) (Kd.C_below s5 hB7) l5 m5 hfx).mono ?_
      rintro e w8 ⟨rfl, hb8⟩
      refine ⟨_, rfl, hK.out _ _ (⟨(hb8.cell (World.block_lt_of_cell? w7 _ x0)).trans x0, (hb8.cell (World.block_lt_of_cell? w7 _ x1)).trans x1, (hb8.cell (World.block_lt_of_cell? w7 _ x2)).trans x2, (hb8.cell (World.block_lt_of_cell? w7 _ x3)).trans x3, (hb8.cell (World.block_lt_of_cell? w7 _ x4)).trans x4, (hb8.cell (World.block_lt_of_cell? w7 _ x5)).trans x5, (hb8.cell (World.block_lt_of_cell? w7 _ y0)).trans y0, (hb8.cell (World.block_lt_of_cell? w7 _ y1)).trans y1, (hb8.cell (World.block_lt_of_cell? w7 _ y2)).trans y2, (hb8.cell (World.block_lt_of_cell? w7 _ y3)).trans y3, (hb8.cell (World.block_lt_of_cell? w7 _ y4)).trans y4, (hb8.cell (World.block_lt_of_cell? w7 _ y5)).trans y5⟩) (fun hHeld => ?_)⟩
      clear hK K
      refine norm_ (a' := ?_) ?_ ?_
      rotate_left
      · show Act.put _ (some 25) _ = _
        simp only [Act.put, List.setIfInBounds_toArray, List.set_cons_zero, List.set_cons_succ, i64_w, i32_w]; rfl
      refine pure_ (i := 9) (N := some 26) (v := ?_) (a' := ?_) #[true, true, true, true, true, true, true, true, true, true] rfl rfl (by kernel_rfl) (fun _ _ _ h => h) (Or.inl ⟨by rfl, ?_⟩) ?_ ?_
      rotate_left
      · intro w'
        go_simp; with_reducible rfl
      rotate_left
      · simp only [Act.put, List.setIfInBounds_toArray, List.set_cons_zero, List.set_cons_succ, i64_w, i32_w]; rfl
      refine done_ (by kernel_rfl) ?_
      go_wp2
      go_roundg k1
      case measure => exact Nat.lt_succ_self k1
      case rel => exact ⟨i + 1, by rw [E6.out], ⟨by have := HK.out; omega⟩, ⟨below_step hB7 hb8⟩⟩
theorem eqValueS_calls : ∀ d, EqS d
  | d + 1 => fun w A B c c' xs h h' hc hc' hf => eqValueS_succ d w A B c c' xs (fun _ => eqValueS_calls d) h h' hc hc' hf
  | 0 => fun w A B c c' xs h h' hc hc' hf => by
    have hx : xs = [] := hf
    exact eqValueS_succ 0 w A B c c' xs (fun h => by rw [hx] at h; simp at h) h h' hc hc' ⟨by rw [hx]; simp, by rw [hx]; simp⟩
end Go.Proofs.YtebcepbamlokcaaDoor.Q
namespace Go.Proofs.YtebcepbamlokcaaDoor.Q
open Go.RowKit Go.Proofs.YtebcepbamlokcaaDoorW.PrintWords Go.Proofs.YtebcepbamlokcaaDoorW.PrintLast Go.Proofs.YtebcepbamlokcaaDoorW.PrintMore
attribute [local go_sem] max2_int min2_int max_two min_two max_three min_three max_four min_four   -- for this text's walks alone
set_option linter.unusedVariables false
set_option linter.unusedSimpArgs false

-- NOT PRINTED: function 70 (laws_eqValueS)

-- NOT PRINTED: function 26 (laws_eqValue)

theorem qQx13s0_ {P : Prop} (h : P := by repeat (first | (with_reducible first | exact HB.out | apply below_alloc | apply pw_below_drewN | apply below_drew1) | exact HB.out)) : P := h
theorem qQx13s1_ {P : Prop} (h : P := by first | rfl | (simp; done) | (simp [*]; done)) : P := h
/-! ### laws_markText: function 74 -/
def laws_markText.l0 : Nat → Int → ByteArray → Option (ByteArray)
 | 0, _, _ => none
 | k + 1, x0, x3 => if x0 > 0 then ((some (([(wrap64 (48 + (Int.tmod x0 10))) % 256] : List Int) : List Int)).bind fun y195 => (if (strOfNums y195).size + x3.size ≤ 9223372036854775807 then (laws_markText.l0 k (wrap64 (Int.tdiv x0 10)) ((strOfNums y195) ++ x3)) else (none))) else (if 1 + x3.size ≤ 9223372036854775807 then (some ((⟨#[109]⟩ : ByteArray) ++ x3)) else (none))
def laws_markText.f (k : Nat) (a0 : Int) : Option (ByteArray) := if a0 ≤ 0 then (some (⟨#[109, 48]⟩ : ByteArray)) else (laws_markText.l0 k a0 (⟨#[]⟩ : ByteArray))
theorem laws_markText.mono_l : ∀ k, (∀ y0 y1, LeO (laws_markText.l0 k y0 y1) (laws_markText.l0 (k + 1) y0 y1))
 | 0 => fun _ _ r h => by simp [laws_markText.l0] at h
 | k + 1 => by
  have ih0 := laws_markText.mono_l k
  ·intro y0 y1
   unfold laws_markText.l0
   repeat' first
   | (with_reducible exact ih0 _ _)
   | (with_reducible exact LeO.refl _)
   | (with_reducible exact LeO.none _)
   | (with_reducible refine LeO.ite ?_ ?_)
   | (with_reducible refine LeO.bind ?_ (fun _ => ?_))
   | exact ih0 _ _
   | exact LeO.none _
   | refine LeO.ite ?_ ?_
   | refine LeO.bind ?_ (fun _ => ?_)
theorem laws_markText.mono : ∀ a0 k, LeO (laws_markText.f k a0) (laws_markText.f (k + 1) a0) := by
 intro a0 k
 have ih0 := laws_markText.mono_l k
 unfold laws_markText.f
 repeat' first
   | (with_reducible exact ih0 _ _)
   | (with_reducible exact LeO.refl _)
   | (with_reducible exact LeO.none _)
   | (with_reducible refine LeO.ite ?_ ?_)
   | (with_reducible refine LeO.bind ?_ (fun _ => ?_))
   | exact ih0 _ _
   | exact LeO.none _
   | refine LeO.ite ?_ ?_
   | refine LeO.bind ?_ (fun _ => ?_)
set_option maxHeartbeats 8000000 in
set_option maxRecDepth 100000 in
theorem laws_markText.calls (k : Nat) (a0 : Int) (r : ByteArray) (w : World) (h : laws_markText.f k a0 = some r) :
  Calls Tryd.prog 74 #[.int .i64 a0] w fun e w' => e = .returned (.string r) ∧ Below w.heap.size w w' := by
 have HB := Aside0.mk (Below.refl w.heap.size w)
 have H : (if a0 ≤ 0 then (some (⟨#[109, 48]⟩ : ByteArray)) else (laws_markText.l0 k a0 (⟨#[]⟩ : ByteArray))) = some r := h
 clear h
 by_cases c2 : a0 ≤ 0
 ·rw [if_pos c2] at H
  have c2b0 : decide (a0 ≤ 0) = true := decide_eq_true c2
  clear c2
  obtain rfl := Option.some.inj H
  go_enter Tryd.func74, Tryd.ntmps74
  go_wp2
  go_ret
  exact ⟨(by first | rfl | (simp [errW_none, errW_some] <;> rfl) | (simp [*, errW_none, errW_some] <;> rfl)), qQx13s0_⟩
 ·rw [if_neg c2] at H
  have c2b0 : decide (a0 ≤ 0) = false := decide_eq_false c2
  clear c2
  have H' := Aside0.mk H
  clear H
  go_enter Tryd.func74, Tryd.ntmps74
  go_wp2
  go_loopg [0, 3] k (fun kq v0 v3 w' => ∃ (x0_1 : Int) (x3_1 : ByteArray), v0 = .int .i64 x0_1 ∧ v3 = .string x3_1 ∧ Aside0 (laws_markText.l0 kq x0_1 x3_1 = some r) ∧ Aside0 (kq ≤ k) ∧ Aside0 (Below w.heap.size w w'))
  case atStart => exact ⟨(a0), ((⟨#[]⟩ : ByteArray)), qQx13s1_, qQx13s1_, H', ⟨Nat.le_refl _⟩, ⟨qQx13s0_⟩⟩
  case round =>
   clear H'
   try clear c2
   try clear c2b0
   try clear p2
   obtain ⟨x0_1, x3_1, rfl, rfl, HA, HK1, HB⟩ := hrel
   cases gk with
   | zero => exact absurd HA.out (by simp [laws_markText.l0])
   | succ k1 =>
    have H := HA.out
    clear HA
    simp only [laws_markText.l0] at H
    by_cases c3 : x0_1 > 0
    ·rw [if_pos c3] at H
     have c3b0 : decide (0 < x0_1) = true := decide_eq_true c3
     clear c3
     obtain ⟨y195, hy195⟩ : ∃ y_ : List Int, y_ = (([(wrap64 (48 + (Int.tmod x0_1 10))) % 256] : List Int)) := ⟨_, rfl⟩
     replace H : (if (strOfNums y195).size + x3_1.size ≤ 9223372036854775807 then (laws_markText.l0 k1 (wrap64 (Int.tdiv x0_1 10)) ((strOfNums y195) ++ x3_1)) else (none)) = some r := by first | (rw [hy195]; with_reducible exact H) | (have H2_ := (Option.bind_some _ _).symm.trans H; rw [hy195]; with_reducible exact H2_) | (have H2_ := (Option.bind_some _ _).symm.trans H; with_reducible exact H2_) | with_reducible exact H | (rw [hy195]; exact H) | exact H
     have Ny195 := Aside0.mk hy195
     clear hy195
     by_cases c4 : (strOfNums y195).size + x3_1.size ≤ 9223372036854775807
     ·rw [if_pos c4] at H
      have c4b0 := eq_true c4
      have c4b1 : decide ((strOfNums y195).size + x3_1.size ≤ 9223372036854775807) = true := decide_eq_true c4
      try have c4b2 : (9223372036854775807 < (strOfNums y195).size + x3_1.size) = False := eq_false (Nat.not_lt.2 c4)
      have H' := Aside0.mk H
      clear H
      go_wp2_with (first | ((with_reducible refine gate_dst (N := 12) rfl ?_); refine Kd.R_lit (Kd.int .u8) _ 5 ?hg (N := 12) ?hd (xs := ([(wrap64 (48 + (Int.tmod x0_1 10))) % 256] : List Int)) (inner := [.int .u8 ((wrap64 (48 + (Int.tmod x0_1 10))) % 256)]) (ok := fun _ => True) (okp := fun _ => True) ?hr ?hp (fun _ hk => hk) trivial (Below.refl _ _) (Nat.le_refl _) (by simp) ?_; (case hd => rfl); (case hg => rfl); (case hr => exact (by first | (go_simp; done) | (go_simp; rfl))); (case hp => exact (by exact (Reps.one (show Kd.M (Kd.int .u8) _ _ _ ((wrap64 (48 + (Int.tmod x0_1 10))) % 256) [.int .u8 ((wrap64 (48 + (Int.tmod x0_1 10))) % 256)] from rfl) (Reps.none _ _)))); intro v196 w5 ho6 hb hg_ hnew_; clear hg_ hnew_; (first | rw [← Ny195.out] at ho6 | (simp only [Int.reduceToNat] at ho6; rw [← Ny195.out] at ho6)); have n0_ := Aside0.mk (Kd.R_lower ho6 (below_size qQx13s0_)); have n1_ := Aside0.mk (below_step qQx13s0_ hb); clear HB; have HO197 := n0_; have HB := n1_; clear n0_ n1_ hb ho6; have hcv7 := own_string (P := Tryd.prog) Tryd.underlying22 Tryd.underlying5 Tryd.underlying9 (Kd.own_of_R HO197.out)))
      go_roundg k1
      case measure => have := HK1.out; omega
      case rel => exact ⟨(wrap64 (Int.tdiv x0_1 10)), ((strOfNums y195) ++ x3_1), qQx13s1_, qQx13s1_, H', ⟨by have := HK1.out; omega⟩, ⟨qQx13s0_⟩⟩
     ·rw [if_neg c4] at H
      exact absurd H (by simp)
    ·rw [if_neg c3] at H
     have c3b0 : decide (0 < x0_1) = false := decide_eq_false c3
     clear c3
     by_cases c8 : 1 + x3_1.size ≤ 9223372036854775807
     ·rw [if_pos c8] at H
      have c8b0 := eq_true c8
      have c8b1 : decide (1 + x3_1.size ≤ 9223372036854775807) = true := decide_eq_true c8
      try have c8b2 : (9223372036854775807 < 1 + x3_1.size) = False := eq_false (Nat.not_lt.2 c8)
      obtain rfl := Option.some.inj H
      go_wp2
      go_ret
      exact ⟨(by first | rfl | (simp [errW_none, errW_some] <;> rfl) | (simp [*, errW_none, errW_some] <;> rfl)), qQx13s0_⟩
     ·rw [if_neg c8] at H
      exact absurd H (by simp)

end Go.Proofs.YtebcepbamlokcaaDoor.Q
