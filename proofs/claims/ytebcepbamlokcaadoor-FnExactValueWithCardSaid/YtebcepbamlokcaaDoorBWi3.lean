/- Qx10, PlainAll, GOpen, PlainWith, GWithI, GWithJ, GWithS, GWithV -/
import Derived.Deep.Slices
import Derived.SliceStrings
import Derived.Deep.Strs
import Derived.Lib.SmallJoins
import Derived.SizedLaws
import Derived.Test.YtebcepbamlokcaaDoorBWi2
namespace Go.Proofs.YtebcepbamlokcaaDoor.Q
open Go.RowKit Go.Proofs.YtebcepbamlokcaaDoorW.PrintWords Go.Proofs.YtebcepbamlokcaaDoorW.PrintLast
set_option linter.unusedVariables false
set_option linter.unusedSimpArgs false

theorem qQx10s0_ {P : Prop} (h : P := by repeat (first | (with_reducible first | exact HB.out | apply below_alloc | apply pw_below_drewN | apply below_drew1 | refine below_set ?_ GE156.out | refine below_set ?_ GE157.out | refine below_set ?_ GE164.out) | exact HB.out)) : P := h
theorem qQx10s1_ {P : Prop} (h : P := by (with_reducible repeat (first | refine blk_drewN ?_ _ | refine blk_drew ?_ | refine blk_alloc ?_ _)); exact BK156.out) : P := h
theorem qQx10s2_ {P : Prop} (h : P := by repeat (first | (with_reducible first | exact HB.out | apply below_alloc | apply pw_below_drewN | apply below_drew1 | refine below_set ?_ GE156.out | refine below_set ?_ GE157.out) | exact HB.out)) : P := h
theorem qQx10s3_ {P : Prop} (h : P := by (with_reducible repeat (first | refine blk_drewN ?_ _ | refine blk_drew ?_ | refine blk_alloc ?_ _)); exact BK157.out) : P := h
theorem qQx10s4_ {P : Prop} (h : P := by exact ⟨(blk_cell BK156.out 0).trans rfl, (blk_cell BK156.out 1).trans rfl, (blk_cell BK156.out 2).trans rfl, (blk_cell BK156.out 3).trans rfl, (blk_cell BK156.out 4).trans rfl, (blk_cell BK156.out 5).trans rfl⟩) : P := h
theorem qQx10s5_ {P : Prop} (h : P := by (with_reducible repeat (first | refine blk_drewN ?_ _ | refine blk_drew ?_ | refine blk_alloc ?_ _)); exact BK164.out) : P := h
theorem qQx10s6_ {P : Prop} (h : P := by exact ⟨hHeld, (by (with_reducible repeat (first | apply Kd.R_alloc | apply Kd.R_drewN | apply Kd.R_drew)); exact HO163.out), qQx10s1_, qQx10s3_, qQx10s5_, GW164.out, GE164.out, NB156_164.out, NB164_156.out, NB157_164.out, NB164_157.out, qQx10s0_⟩) : P := h
theorem qQx10s7_ {P : Prop} (h : P := by (with_reducible repeat (first | apply Kd.R_alloc | apply Kd.R_drewN | apply Kd.R_drew)); exact HO_165005.out) : P := h
theorem qQx10s8_ {P : Prop} (h : P := by repeat (first | exact (Kd.C_below HR0_5.out HB.out) | (with_reducible refine Kd.C_alloc ?_ _) | (with_reducible refine Kd.C_drewN ?_ _) | (with_reducible refine Kd.C_drew ?_))) : P := h
theorem qQx10s9_ {P : Prop} (h : P := by repeat (first | (with_reducible first | exact HB.out | apply below_alloc | apply pw_below_drewN | apply below_drew1 | refine below_set ?_ GE156.out) | exact HB.out)) : P := h
theorem qQx10s10_ {P : Prop} (h : P := by (with_reducible repeat (first | apply Kd.R_alloc | apply Kd.R_drewN | apply Kd.R_drew)); exact HO160.out) : P := h
theorem qQx10s11_ {P : Prop} (h : P := by repeat (first | (with_reducible first | exact HB.out | apply below_alloc | apply pw_below_drewN | apply below_drew1) | exact HB.out)) : P := h
theorem qQx10s12_ {P : Prop} (h : P := by first | (go_simp; done) | (go_simp; rfl)) : P := h
theorem qQx10s13_ {P : Prop} (h : P := by exact (take_ofW HT_.out HW_.out (by kernel_rfl))) : P := h
theorem qQx10s14_ {P : Prop} (h : P := by (with_reducible repeat (first | apply Kd.R_alloc | apply Kd.R_drewN | apply Kd.R_drew)); exact HO_165004.out) : P := h
theorem qQx10s15_ {P : Prop} (h : P := by simp only [putAll, Act.put, List.setIfInBounds_toArray, List.set_cons_zero, List.set_cons_succ]) : P := h
mutual
def spec_l13Copy.l0 : Nat → Int → Int → Int → Int → ByteArray → List (S28) → List ByteArray → Int → Int → Int → ByteArray → List (S28) → List ByteArray → Option (Int × Int × Int × ByteArray × (List (S28)) × List ByteArray)
 | 0, _, _, _, _, _, _, _, _, _, _, _, _, _ => none
 | k + 1, x4, x157000, x157001, x157002, x157003, x157004, x157005, x165000, x165001, x165002, x165003, x165004, x165005 => if x4 < (x157004.length : Int) then (if 0 ≤ x4 then ((spec_l13Copy.f k ((rd_T28 x157004 x4).f0) ((rd_T28 x157004 x4).f1.f0) ((rd_T28 x157004 x4).f1.f1) ((rd_T28 x157004 x4).f2) ((rd_T28 x157004 x4).f3) ((rd_T28 x157004 x4).f4)).bind fun bt166 => (if x165004.length < 1599289640401 then (spec_l13Copy.l0 k (wrap64 (x4 + 1)) x157000 x157001 x157002 x157003 x157004 x157005 x165000 x165001 x165002 x165003 (x165004 ++ [(⟨bt166.1, (⟨bt166.2.1, bt166.2.2.1⟩ : S24), bt166.2.2.2.1, bt166.2.2.2.2.1, bt166.2.2.2.2.2⟩ : S28)]) x165005) else (none))) else (none)) else (some (x165000, x165001, x165002, x165003, x165004, x165005))
def spec_l13Copy.f : Nat → Int → Int → Int → ByteArray → List (S28) → List ByteArray → Option (Int × Int × Int × ByteArray × (List (S28)) × List ByteArray)
 | 0, _, _, _, _, _, _ => none
 | k + 1, a0_0, a0_1, a0_2, a0_3, l0_4, l0_5 => (some (([] : List ByteArray) : List ByteArray)).bind fun y158 => (if y158.length + l0_5.length < 8796093022208 then (spec_l13Copy.l0 k 0 a0_0 a0_1 a0_2 a0_3 l0_4 l0_5 a0_0 a0_1 a0_2 a0_3 ([] : List (S28)) (y158 ++ l0_5)) else (none))
end
theorem spec_l13Copy.mono_l : ∀ k, (∀ y0 y1 y2 y3 y4 y5, LeO (spec_l13Copy.f k y0 y1 y2 y3 y4 y5) (spec_l13Copy.f (k + 1) y0 y1 y2 y3 y4 y5)) ∧ (∀ y0 y1 y2 y3 y4 y5 y6 y7 y8 y9 y10 y11 y12, LeO (spec_l13Copy.l0 k y0 y1 y2 y3 y4 y5 y6 y7 y8 y9 y10 y11 y12) (spec_l13Copy.l0 (k + 1) y0 y1 y2 y3 y4 y5 y6 y7 y8 y9 y10 y11 y12))
 | 0 => ⟨fun _ _ _ _ _ _ r h => by simp [spec_l13Copy.f] at h, fun _ _ _ _ _ _ _ _ _ _ _ _ _ r h => by simp [spec_l13Copy.l0] at h⟩
 | k + 1 => by
  obtain ⟨ih0, ih1⟩ := spec_l13Copy.mono_l k
  refine ⟨?_, ?_⟩
  ·intro y0 y1 y2 y3 y4 y5
   unfold spec_l13Copy.f
   repeat' first
   | (with_reducible exact ih0 _ _ _ _ _ _)
   | (with_reducible exact ih1 _ _ _ _ _ _ _ _ _ _ _ _ _)
   | (with_reducible exact LeO.refl _)
   | (with_reducible exact LeO.none _)
   | (with_reducible refine LeO.ite ?_ ?_)
   | (with_reducible refine LeO.bind ?_ (fun _ => ?_))
   | exact ih0 _ _ _ _ _ _
   | exact ih1 _ _ _ _ _ _ _ _ _ _ _ _ _
   | exact LeO.none _
   | refine LeO.ite ?_ ?_
   | refine LeO.bind ?_ (fun _ => ?_)
  ·intro y0 y1 y2 y3 y4 y5 y6 y7 y8 y9 y10 y11 y12
   unfold spec_l13Copy.l0
   repeat' first
   | (with_reducible exact ih0 _ _ _ _ _ _)
   | (with_reducible exact ih1 _ _ _ _ _ _ _ _ _ _ _ _ _)
   | (with_reducible exact LeO.refl _)
   | (with_reducible exact LeO.none _)
   | (with_reducible refine LeO.ite ?_ ?_)
   | (with_reducible refine LeO.bind ?_ (fun _ => ?_))
   | exact ih0 _ _ _ _ _ _
   | exact ih1 _ _ _ _ _ _ _ _ _ _ _ _ _
   | exact LeO.none _
   | refine LeO.ite ?_ ?_
   | refine LeO.bind ?_ (fun _ => ?_)
theorem spec_l13Copy.mono : ∀ a0 a1 a2 a3 a4 a5 k, LeO (spec_l13Copy.f k a0 a1 a2 a3 a4 a5) (spec_l13Copy.f (k + 1) a0 a1 a2 a3 a4 a5) := by
 intro a0 a1 a2 a3 a4 a5 k
 obtain ⟨ih0, ih1⟩ := spec_l13Copy.mono_l k
 exact ih0 a0 a1 a2 a3 a4 a5
def spec_l13Copy.T1 : Bool × List (List Nat × List Nat) := (true, [([], []), ([0], [0]), ([], []), ([2], [2]), ([], []), ([4], [4]), ([], []), ([], []), ([7], [7]), ([6, 8], [6, 8]), ([1, 3, 5, 9], [1, 3, 5, 9]), ([], []), ([11, 10, 9, 0, 1, 2, 3, 4, 5, 6, 7, 8, 9, 10, 11], [10, 11])])
def spec_l13Copy.B1 : List Nat := [0, 1, 0, 4, 0, 16, 0, 0, 128, 448, 1023, 0, 4095]
theorem spec_l13Copy.tab1 : rtab .any (opsOf Tryd.f47 1) = spec_l13Copy.T1 := by kernel_rfl
theorem spec_l13Copy.bits1 : waitsOk spec_l13Copy.T1.2 spec_l13Copy.B1 = true := by kernel_rfl
def spec_l13Copy.T5 : Bool × List (List Nat × List Nat) := (true, [([], []), ([0], [0]), ([], []), ([2], [2]), ([], []), ([3, 4], [3, 4]), ([5], [5]), ([6], [6]), ([7], [7]), ([1, 8, 7], [1, 8]), ([0, 1, 2, 3, 4, 5, 6, 7, 8, 9], []), ([10, 9, 9, 0, 1, 2, 3, 4, 5, 6, 7, 8, 9], [9, 10])])
def spec_l13Copy.B5 : List Nat := [0, 1, 0, 4, 0, 28, 60, 124, 252, 511, 1023, 2047]
theorem spec_l13Copy.tab5 : rtab .any (opsOf Tryd.f47 5) = spec_l13Copy.T5 := by kernel_rfl
theorem spec_l13Copy.bits5 : waitsOk spec_l13Copy.T5.2 spec_l13Copy.B5 = true := by kernel_rfl
set_option maxHeartbeats 8000000 in
set_option maxRecDepth 100000 in
theorem spec_l13Copy.calls (k : Nat) : ∀ (a0_0 : Int) (a0_1 : Int) (a0_2 : Int) (a0_3 : ByteArray) (A0_4 : Option Addr) (c0_4 : Nat) (l0_4 : List (S28)) (A0_5 : Option Addr) (c0_5 : Nat) (l0_5 : List ByteArray) (r1 : Int) (r2 : Int) (r3 : Int) (r4 : ByteArray) (r5 : List (S28)) (r6 : List ByteArray) (w : World) (hr0_4 : Kd.C k28 w A0_4 l0_4.length l0_4) (hc0_4 : l0_4.length ≤ c0_4) (hr0_5 : Kd.C Kd.string w A0_5 l0_5.length l0_5) (hc0_5 : l0_5.length ≤ c0_5) (h : spec_l13Copy.f k a0_0 a0_1 a0_2 a0_3 l0_4 l0_5 = some (r1, r2, r3, r4, r5, r6)),
  Calls Tryd.prog 47 #[.agg #[.int .i64 a0_0, .int .i64 a0_1, .int .i64 a0_2, .string a0_3, .slice A0_4 l0_4.length c0_4, .slice A0_5 l0_5.length c0_5]] w fun e w' => ∃ v4_ v5_ : Value, e = .returned (.agg #[.int .i64 r1, .int .i64 r2, .int .i64 r3, .string r4, v4_, v5_]) ∧ Kd.R k28 28 w' w.heap.size (fun k_ => some k_ ≠ (v5_ : Value).ownBlock) v4_ r5 ∧ Kd.R Kd.string 9 w' w.heap.size (fun _ => True) v5_ r6 ∧ Below w.heap.size w w' := by
 induction k using Nat.strongRecOn with
 | _ k ih =>
 intro a0_0 a0_1 a0_2 a0_3 A0_4 c0_4 l0_4 A0_5 c0_5 l0_5 r1 r2 r3 r4 r5 r6 w hr0_4 hc0_4 hr0_5 hc0_5 h
 cases k with
 | zero => exact absurd h (by simp [spec_l13Copy.f])
 | succ k =>
 simp only [spec_l13Copy.f] at h
 have hu28 := Tryd.underlying28
 have hu24 := Tryd.underlying24
 have HR0_4 := Aside0.mk hr0_4
 have HC0_4 := Aside0.mk hc0_4
 clear hr0_4 hc0_4
 have HR0_5 := Aside0.mk hr0_5
 have HC0_5 := Aside0.mk hc0_5
 clear hr0_5 hc0_5
 have HB := Aside0.mk (Below.refl w.heap.size w)
 have H : ((some (([] : List ByteArray) : List ByteArray)).bind fun y158 => (if y158.length + l0_5.length < 8796093022208 then (spec_l13Copy.l0 k 0 a0_0 a0_1 a0_2 a0_3 l0_4 l0_5 a0_0 a0_1 a0_2 a0_3 ([] : List (S28)) (y158 ++ l0_5)) else (none))) = some (r1, r2, r3, r4, r5, r6) := h
 clear h
 obtain ⟨y158, hy158⟩ : ∃ y_ : List ByteArray, y_ = (([] : List ByteArray)) := ⟨_, rfl⟩
 replace H : (if y158.length + l0_5.length < 8796093022208 then (spec_l13Copy.l0 k 0 a0_0 a0_1 a0_2 a0_3 l0_4 l0_5 a0_0 a0_1 a0_2 a0_3 ([] : List (S28)) (y158 ++ l0_5)) else (none)) = some (r1, r2, r3, r4, r5, r6) := by first | (rw [hy158]; with_reducible exact H) | (have H2_ := (Option.bind_some _ _).symm.trans H; rw [hy158]; with_reducible exact H2_) | (have H2_ := (Option.bind_some _ _).symm.trans H; with_reducible exact H2_) | with_reducible exact H | (rw [hy158]; exact H) | exact H
 have Ny158 := Aside0.mk hy158
 clear hy158
 by_cases c2 : y158.length + l0_5.length < 8796093022208
 ·rw [if_pos c2] at H
  have LMc2 := Aside0.mk c2
  clear c2
  obtain ⟨y161, hy161⟩ : ∃ y_ : List ByteArray, y_ = (y158 ++ l0_5) := ⟨_, rfl⟩
  replace H : (spec_l13Copy.l0 k 0 a0_0 a0_1 a0_2 a0_3 l0_4 l0_5 a0_0 a0_1 a0_2 a0_3 ([] : List (S28)) y161) = some (r1, r2, r3, r4, r5, r6) := by first | (rw [hy161]; with_reducible exact H) | (have H2_ := (Option.bind_some _ _).symm.trans H; rw [hy161]; with_reducible exact H2_) | (have H2_ := (Option.bind_some _ _).symm.trans H; with_reducible exact H2_) | with_reducible exact H | (rw [hy161]; exact H) | exact H
  have Ny161 := Aside0.mk hy161
  clear hy161
  have H' := Aside0.mk H
  clear H
  go_enter Tryd.func47, Tryd.ntmps47
  try go_wp2_with (first | ((with_reducible refine gate_dst (N := 1) rfl ?_); refine box_event ?hg (N := 1) ?hd (cs := #[.int .i64 a0_0, .int .i64 a0_1, .int .i64 a0_2, .string a0_3, .slice A0_4 l0_4.length c0_4, .slice A0_5 l0_5.length c0_5]) (t := 28) ?hr ?_; (case hd => rfl); (case hg => rfl); (case hr => exact qQx10s12_); intro gb156 hg w_ hbox hb; have n0_ := Aside0.mk (below_step qQx10s11_ hb); have n1_ := Aside0.mk (hbox); have n2_ := Aside0.mk ((by rw [hg]; exact (below_size qQx10s11_) : w.heap.size ≤ gb156)); have n3_ := Aside0.mk ((by rw [hg]; exact (below_size qQx10s11_) : w.heap.size ≤ gb156)); clear HB; have HB := n0_; have BK156 := n1_; have GW156 := n2_; have GE156 := n3_; clear n0_ n1_ n2_ n3_ hb hbox hg) | ((with_reducible refine gate_dst (N := 2) rfl ?_); refine box_event ?hg (N := 2) ?hd (cs := #[.int .i64 0, .int .i64 0, .int .i64 0, .string (⟨#[]⟩ : ByteArray), .slice none 0 0, .slice none 0 0]) (t := 28) ?hr ?_; (case hd => rfl); (case hg => rfl); (case hr => exact qQx10s12_); intro gb157 hg w4 hbox hb; have n0_ := Aside0.mk (blk_below (g := gb156) (o := .cells #[.int .i64 a0_0, .int .i64 a0_1, .int .i64 a0_2, .string a0_3, .slice A0_4 l0_4.length c0_4, .slice A0_5 l0_5.length c0_5] 28 (0, 0)) qQx10s1_ hb); have n1_ := Aside0.mk (below_step qQx10s9_ hb); have n2_ := Aside0.mk (hbox); have n3_ := Aside0.mk ((by rw [hg]; exact (below_size qQx10s9_) : w.heap.size ≤ gb157)); have n4_ := Aside0.mk ((by rw [hg]; exact (below_size qQx10s9_) : w.heap.size ≤ gb157)); have n5_ := Aside0.mk ((by rw [hg]; exact Nat.ne_of_lt (blk_lt (g := gb156) (o := .cells #[.int .i64 a0_0, .int .i64 a0_1, .int .i64 a0_2, .string a0_3, .slice A0_4 l0_4.length c0_4, .slice A0_5 l0_5.length c0_5] 28 (0, 0)) qQx10s1_) : gb156 ≠ gb157)); have n6_ := Aside0.mk ((by rw [hg]; exact Nat.ne_of_gt (blk_lt (g := gb156) (o := .cells #[.int .i64 a0_0, .int .i64 a0_1, .int .i64 a0_2, .string a0_3, .slice A0_4 l0_4.length c0_4, .slice A0_5 l0_5.length c0_5] 28 (0, 0)) qQx10s1_) : gb157 ≠ gb156)); clear BK156 HB; have BK156 := n0_; have HB := n1_; have BK157 := n2_; have GW157 := n3_; have GE157 := n4_; have NB156_157 := n5_; have NB157_156 := n6_; clear n0_ n1_ n2_ n3_ n4_ n5_ n6_ hb hbox hg))
  have n0_ := Aside0.mk (blk_drew BK156.out)
  have n1_ := Aside0.mk (blk_drew BK157.out)
  have n2_ := Aside0.mk (below_drew1 HB.out)
  clear BK156
  clear BK157
  clear HB
  have BK156 := n0_
  have BK157 := n1_
  have HB := n2_
  clear n0_ n1_ n2_
  refine start_ (n := 13) (S := fun w' => w'.cell? ⟨gb156, 0, none⟩ = some (.int .i64 a0_0) ∧ w'.cell? ⟨gb156, 1, none⟩ = some (.int .i64 a0_1) ∧ w'.cell? ⟨gb156, 2, none⟩ = some (.int .i64 a0_2) ∧ w'.cell? ⟨gb156, 3, none⟩ = some (.string a0_3) ∧ w'.cell? ⟨gb156, 4, none⟩ = some (.slice A0_4 l0_4.length c0_4) ∧ w'.cell? ⟨gb156, 5, none⟩ = some (.slice A0_5 l0_5.length c0_5)) (ds := []) #[false, false, false, false, false, false, false, false, false, false, false, false, false] (by kernel_rfl) rfl rfl qQx10s4_ (fun hHeld => ?_); refine with_tabW spec_l13Copy.tab1 spec_l13Copy.bits1 (fun HT_ HW_ => ?_)
  generalize w4.drew = w5 at BK156 BK157 HB hHeld ⊢
  refine pure_ (i := 0) (N := some 5) (v := ?_) (a' := ?_) #[true, false, false, false, false, false, false, false, false, false, false, false, false] rfl rfl (any_of HT_.out (by kernel_rfl)) (fun _ _ _ h => h) (Or.inl ⟨by rfl, ?_⟩) ?_ ?_
  rotate_left
  ·intro w'
   go_simp
   with_reducible rfl
  rotate_left
  ·simp only [Act.put, List.setIfInBounds_toArray, List.set_cons_zero, List.set_cons_succ, i64_w, i32_w]
   rfl
  refine pure_ (i := 2) (N := some 7) (v := ?_) (a' := ?_) #[true, false, true, false, false, false, false, false, false, false, false, false, false] rfl rfl (any_of HT_.out (by kernel_rfl)) (fun _ _ _ h => h) (Or.inl ⟨by rfl, ?_⟩) ?_ ?_
  rotate_left
  ·intro w'
   go_simp
   with_reducible rfl
  rotate_left
  ·simp only [Act.put, List.setIfInBounds_toArray, List.set_cons_zero, List.set_cons_succ, i64_w, i32_w]
   rfl
  refine pure_ (i := 4) (N := some 9) (v := ?_) (a' := ?_) #[true, false, true, false, true, false, false, false, false, false, false, false, false] rfl rfl (any_of HT_.out (by kernel_rfl)) (fun _ _ _ h => h) (Or.inl ⟨by rfl, ?_⟩) ?_ ?_
  rotate_left
  ·intro w'
   go_simp
   with_reducible rfl
  rotate_left
  ·simp only [Act.put, List.setIfInBounds_toArray, List.set_cons_zero, List.set_cons_succ, i64_w, i32_w]
   rfl
  refine pure_ (i := 7) (N := some 12) (v := ?_) (a' := ?_) #[true, false, true, false, true, false, false, true, false, false, false, false, false] rfl rfl (any_of HT_.out (by kernel_rfl)) (fun _ _ _ h => h) (Or.inl ⟨by rfl, ?_⟩) ?_ ?_
  rotate_left
  ·intro w'
   go_simp
   with_reducible rfl
  rotate_left
  ·simp only [Act.put, List.setIfInBounds_toArray, List.set_cons_zero, List.set_cons_succ, i64_w, i32_w]
   rfl
  refine take_ (i := 1) (N := some 6) (v := ?_) (a' := ?_) #[true, true, true, false, true, false, false, true, false, false, false, false, false] rfl rfl qQx10s13_ (fun _ _ _ h => h) (Or.inl ⟨by rfl, ?_⟩) hHeld ?_ ?_
  rotate_left
  ·rintro w' ⟨s0, s1, s2, s3, s4, s5⟩
   go_simp
   with_reducible rfl
  rotate_left
  ·simp only [Act.put, List.setIfInBounds_toArray, List.set_cons_zero, List.set_cons_succ, i64_w, i32_w]
   rfl
  refine take_ (i := 3) (N := some 8) (v := ?_) (a' := ?_) #[true, true, true, true, true, false, false, true, false, false, false, false, false] rfl rfl qQx10s13_ (fun _ _ _ h => h) (Or.inl ⟨by rfl, ?_⟩) hHeld ?_ ?_
  rotate_left
  ·rintro w' ⟨s0, s1, s2, s3, s4, s5⟩
   go_simp
   with_reducible rfl
  rotate_left
  ·simp only [Act.put, List.setIfInBounds_toArray, List.set_cons_zero, List.set_cons_succ, i64_w, i32_w]
   rfl
  refine take_ (i := 5) (N := some 10) (v := ?_) (a' := ?_) #[true, true, true, true, true, true, false, true, false, false, false, false, false] rfl rfl qQx10s13_ (fun _ _ _ h => h) (Or.inl ⟨by rfl, ?_⟩) hHeld ?_ ?_
  rotate_left
  ·rintro w' ⟨s0, s1, s2, s3, s4, s5⟩
   go_simp
   with_reducible rfl
  rotate_left
  ·simp only [Act.put, List.setIfInBounds_toArray, List.set_cons_zero, List.set_cons_succ, i64_w, i32_w]
   rfl
  refine take_ (i := 8) (N := some 13) (v := ?_) (a' := ?_) #[true, true, true, true, true, true, false, true, true, false, false, false, false] rfl rfl qQx10s13_ (fun _ _ _ h => h) (Or.inl ⟨by rfl, ?_⟩) hHeld ?_ ?_
  rotate_left
  ·rintro w' ⟨s0, s1, s2, s3, s4, s5⟩
   go_simp
   with_reducible rfl
  rotate_left
  ·simp only [Act.put, List.setIfInBounds_toArray, List.set_cons_zero, List.set_cons_succ, i64_w, i32_w]
   rfl
  refine join_ (σ := Value × Value × Nat) 1 #[true, true, true, true, true, true, true, true, true, true, true, true, false] (fun s_ => [(11, s_.1), (14, s_.2.1), (3, .pointer (some ⟨s_.2.2, 0, none⟩)), (15, .agg #[.int .i64 a0_0, .int .i64 a0_1, .int .i64 a0_2, .string a0_3, .slice none 0 0, s_.2.1])]) (fun s_ w' => (w'.cell? ⟨gb156, 0, none⟩ = some (.int .i64 a0_0) ∧ w'.cell? ⟨gb156, 1, none⟩ = some (.int .i64 a0_1) ∧ w'.cell? ⟨gb156, 2, none⟩ = some (.int .i64 a0_2) ∧ w'.cell? ⟨gb156, 3, none⟩ = some (.string a0_3) ∧ w'.cell? ⟨gb156, 4, none⟩ = some (.slice A0_4 l0_4.length c0_4) ∧ w'.cell? ⟨gb156, 5, none⟩ = some (.slice A0_5 l0_5.length c0_5)) ∧ (Kd.R Kd.string 9 w' w.heap.size (fun _ => True) s_.2.1 y161) ∧ (w'.heap[gb156]? = some (.cells #[.int .i64 a0_0, .int .i64 a0_1, .int .i64 a0_2, .string a0_3, .slice A0_4 l0_4.length c0_4, .slice A0_5 l0_5.length c0_5] 28 (0, 0))) ∧ (w'.heap[gb157]? = some (.cells #[.int .i64 0, .int .i64 0, .int .i64 0, .string (⟨#[]⟩ : ByteArray), .slice none 0 0, .slice none 0 0] 28 (0, 0))) ∧ (w'.heap[s_.2.2]? = some (.cells #[.int .i64 0, .int .i64 0, .int .i64 0, .string (⟨#[]⟩ : ByteArray), .slice none 0 0, .slice none 0 0] 28 (0, 0))) ∧ (w.heap.size ≤ s_.2.2) ∧ (w.heap.size ≤ s_.2.2) ∧ (gb156 ≠ s_.2.2) ∧ (s_.2.2 ≠ gb156) ∧ (gb157 ≠ s_.2.2) ∧ (s_.2.2 ≠ gb157) ∧ (Below w.heap.size w w')) ?_ ?_
  rotate_left
  ·intro hCont
   refine two_ (i := 6) (j := 11) (Ni := some 11) (Nj := some 3) #[true, true, true, true, true, true, true, true, true, false, false, false, false] #[true, true, true, true, true, true, false, true, true, false, false, true, false] rfl rfl rfl rfl (two_of HT_.out (by kernel_rfl)) (by decide) (by decide) (fun K hK => ?_) (fun K hK => ?_)
   ·skip
    refine Kd.R_lit_step Kd.string _ 9 ?hg (N := 11) ?hd (xs := ([] : List ByteArray)) (inner := []) (ok := fun _ => True) (okp := fun _ => True) ?hr ?hp (fun _ hk => hk) trivial (Below.refl _ _) (Nat.le_refl _) (by simp) ?_; (case hd => rfl); (case hg => rfl); (case hr => exact qQx10s12_); (case hp => exact (by exact (Reps.none _ _)))
    intro v159 w6 ho7 hb hg_ hnew_
    clear hg_ hnew_
    (first | rw [← Ny158.out] at ho7 | (simp only [Int.reduceToNat] at ho7; rw [← Ny158.out] at ho7))
    have n0_ := Aside0.mk (Kd.R_lower ho7 (below_size qQx10s2_))
    have n1_ := Aside0.mk (blk_below (g := gb156) (o := .cells #[.int .i64 a0_0, .int .i64 a0_1, .int .i64 a0_2, .string a0_3, .slice A0_4 l0_4.length c0_4, .slice A0_5 l0_5.length c0_5] 28 (0, 0)) qQx10s1_ hb)
    have n2_ := Aside0.mk (blk_below (g := gb157) (o := .cells #[.int .i64 0, .int .i64 0, .int .i64 0, .string (⟨#[]⟩ : ByteArray), .slice none 0 0, .slice none 0 0] 28 (0, 0)) qQx10s3_ hb)
    have n3_ := Aside0.mk (below_step qQx10s2_ hb)
    clear BK156
    clear BK157
    clear HB
    have HO160 := n0_
    have BK156 := n1_
    have BK157 := n2_
    have HB := n3_
    clear n0_ n1_ n2_ n3_
    clear hb ho7
    refine hK.out _ _ qQx10s4_ (fun hHeld => ?_)
    clear hK K
    refine norm_ (a' := ?_) ?_ ?_
    rotate_left
    ·show Act.put _ (some 11) _ = _
     simp only [Act.put, List.setIfInBounds_toArray, List.set_cons_zero, List.set_cons_succ, i64_w, i32_w]
     rfl
    refine two_ (i := 9) (j := 11) (Ni := some 14) (Nj := some 3) #[true, true, true, true, true, true, true, true, true, true, false, false, false] #[true, true, true, true, true, true, true, true, true, false, false, true, false] rfl rfl rfl rfl (two_of HT_.out (by kernel_rfl)) (by decide) (by decide) (fun K hK => ?_) (fun K hK => ?_)
    ·skip
     refine Kd.R_append_rows_step Kd.string (w0 := w) w.heap.size (by rfl) (.tmp 11) (.tmp 13) 26 9 (.string ⟨#[]⟩) 16 rfl Tryd.underlying26 info9 rfl (by decide) (by omega) v159 y158 l0_5 _ _ _ (fun _ => True) (fun _ => False) rfl rfl ?aO ?aR (fun _ _ h => h) (fun _ h => h.elim) ?aF ?aB ?aS ?aL ?_
     (case aR => exact qQx10s8_)
     (case aB => exact qQx10s2_)
     (case aF => exact (by exact (fun _ _ => trivial)))
     (case aO => exact qQx10s10_)
     (case aS => exact (by exact (below_size qQx10s2_)))
     (case aL => exact (by have := LMc2.out; omega))
     intro v162 w8 ho hb hg hat
     rw [← Ny161.out] at ho
     have n0_ := Aside0.mk (blk_grown (g := gb156) (o := .cells #[.int .i64 a0_0, .int .i64 a0_1, .int .i64 a0_2, .string a0_3, .slice A0_4 l0_4.length c0_4, .slice A0_5 l0_5.length c0_5] 28 (0, 0)) qQx10s1_ hg (Kd.R_ne HO160.out BK156.out (by decide)))
     have n1_ := Aside0.mk (blk_grown (g := gb157) (o := .cells #[.int .i64 0, .int .i64 0, .int .i64 0, .string (⟨#[]⟩ : ByteArray), .slice none 0 0, .slice none 0 0] 28 (0, 0)) qQx10s3_ hg (Kd.R_ne HO160.out BK157.out (by decide)))
     have n2_ := Aside0.mk (hb)
     have n3_ := Aside0.mk (ho)
     clear BK156
     clear BK157
     clear HB
     clear HO160
     have BK156 := n0_
     have BK157 := n1_
     have HB := n2_
     have HO163 := n3_
     clear n0_ n1_ n2_ n3_
     clear ho hb hg hat
     obtain ⟨Ao9, co9, eo9⟩ := Kd.R_slice HO163.out
     (first | subst eo9 | (injection eo9 with f1_ f2_ f3_; have f4_ := f1_.symm; have f5_ := f3_.symm; clear f1_ f2_ f3_; subst f4_; subst f5_))
     refine hK.out _ _ qQx10s4_ (fun hHeld => ?_)
     clear hK K
     refine norm_ (a' := ?_) ?_ ?_
     rotate_left
     ·show Act.put _ (some 14) _ = _
      simp only [Act.put, List.setIfInBounds_toArray, List.set_cons_zero, List.set_cons_succ, i64_w, i32_w]
      rfl
     refine pure_ (i := 10) (N := some 15) (v := ?_) (a' := ?_) #[true, true, true, true, true, true, true, true, true, true, true, false, false] rfl rfl (any_of HT_.out (by kernel_rfl)) (fun _ _ _ h => h) (Or.inl ⟨by rfl, ?_⟩) ?_ ?_
     rotate_left
     ·intro w'
      go_simp
      with_reducible rfl
     rotate_left
     ·simp only [Act.put, List.setIfInBounds_toArray, List.set_cons_zero, List.set_cons_succ, i64_w, i32_w]
      rfl
     refine one_ (i := 11) (N := some 3) #[true, true, true, true, true, true, true, true, true, true, true, true, false] rfl rfl (one_of HT_.out (by kernel_rfl)) (by decide) (fun K hK => ?_)
     refine box_step ?hg (N := 3) ?hd (cs := #[.int .i64 0, .int .i64 0, .int .i64 0, .string (⟨#[]⟩ : ByteArray), .slice none 0 0, .slice none 0 0]) (t := 28) ?hr ?_; (case hd => rfl); (case hg => rfl); (case hr => exact qQx10s12_)
     intro gb164 hg w10 hbox hb
     have n0_ := Aside0.mk (Kd.R_below (by (with_reducible repeat (first | apply Kd.R_alloc | apply Kd.R_drewN | apply Kd.R_drew)); exact HO163.out) hb)
     have n1_ := Aside0.mk (blk_below (g := gb156) (o := .cells #[.int .i64 a0_0, .int .i64 a0_1, .int .i64 a0_2, .string a0_3, .slice A0_4 l0_4.length c0_4, .slice A0_5 l0_5.length c0_5] 28 (0, 0)) qQx10s1_ hb)
     have n2_ := Aside0.mk (blk_below (g := gb157) (o := .cells #[.int .i64 0, .int .i64 0, .int .i64 0, .string (⟨#[]⟩ : ByteArray), .slice none 0 0, .slice none 0 0] 28 (0, 0)) qQx10s3_ hb)
     have n3_ := Aside0.mk (below_step qQx10s2_ hb)
     have n4_ := Aside0.mk (hbox)
     have n5_ := Aside0.mk ((by rw [hg]; exact (below_size qQx10s2_) : w.heap.size ≤ gb164))
     have n6_ := Aside0.mk ((by rw [hg]; exact (below_size qQx10s2_) : w.heap.size ≤ gb164))
     have n7_ := Aside0.mk ((by rw [hg]; exact Nat.ne_of_lt (blk_lt (g := gb156) (o := .cells #[.int .i64 a0_0, .int .i64 a0_1, .int .i64 a0_2, .string a0_3, .slice A0_4 l0_4.length c0_4, .slice A0_5 l0_5.length c0_5] 28 (0, 0)) qQx10s1_) : gb156 ≠ gb164))
     have n8_ := Aside0.mk ((by rw [hg]; exact Nat.ne_of_gt (blk_lt (g := gb156) (o := .cells #[.int .i64 a0_0, .int .i64 a0_1, .int .i64 a0_2, .string a0_3, .slice A0_4 l0_4.length c0_4, .slice A0_5 l0_5.length c0_5] 28 (0, 0)) qQx10s1_) : gb164 ≠ gb156))
     have n9_ := Aside0.mk ((by rw [hg]; exact Nat.ne_of_lt (blk_lt (g := gb157) (o := .cells #[.int .i64 0, .int .i64 0, .int .i64 0, .string (⟨#[]⟩ : ByteArray), .slice none 0 0, .slice none 0 0] 28 (0, 0)) qQx10s3_) : gb157 ≠ gb164))
     have n10_ := Aside0.mk ((by rw [hg]; exact Nat.ne_of_gt (blk_lt (g := gb157) (o := .cells #[.int .i64 0, .int .i64 0, .int .i64 0, .string (⟨#[]⟩ : ByteArray), .slice none 0 0, .slice none 0 0] 28 (0, 0)) qQx10s3_) : gb164 ≠ gb157))
     clear HO163
     clear BK156
     clear BK157
     clear HB
     have HO163 := n0_
     have BK156 := n1_
     have BK157 := n2_
     have HB := n3_
     have BK164 := n4_
     have GW164 := n5_
     have GE164 := n6_
     have NB156_164 := n7_
     have NB164_156 := n8_
     have NB157_164 := n9_
     have NB164_157 := n10_
     clear n0_ n1_ n2_ n3_ n4_ n5_ n6_ n7_ n8_ n9_ n10_
     clear hb hbox hg
     refine hK.out _ _ qQx10s4_ (fun hHeld => ?_)
     clear hK K
     refine norm_ (a' := ?_) ?_ ?_
     rotate_left
     ·show Act.put _ (some 3) _ = _
      simp only [Act.put, List.setIfInBounds_toArray, List.set_cons_zero, List.set_cons_succ, i64_w, i32_w]
      rfl
     exact norm_ qQx10s15_ (hCont (v159, .slice Ao9 y161.length co9, gb164) _ qQx10s6_)
    ·skip
     refine box_step ?hg (N := 3) ?hd (cs := #[.int .i64 0, .int .i64 0, .int .i64 0, .string (⟨#[]⟩ : ByteArray), .slice none 0 0, .slice none 0 0]) (t := 28) ?hr ?_; (case hd => rfl); (case hg => rfl); (case hr => exact qQx10s12_)
     intro gb164 hg w8 hbox hb
     have n0_ := Aside0.mk (Kd.R_below qQx10s10_ hb)
     have n1_ := Aside0.mk (blk_below (g := gb156) (o := .cells #[.int .i64 a0_0, .int .i64 a0_1, .int .i64 a0_2, .string a0_3, .slice A0_4 l0_4.length c0_4, .slice A0_5 l0_5.length c0_5] 28 (0, 0)) qQx10s1_ hb)
     have n2_ := Aside0.mk (blk_below (g := gb157) (o := .cells #[.int .i64 0, .int .i64 0, .int .i64 0, .string (⟨#[]⟩ : ByteArray), .slice none 0 0, .slice none 0 0] 28 (0, 0)) qQx10s3_ hb)
     have n3_ := Aside0.mk (below_step qQx10s2_ hb)
     have n4_ := Aside0.mk (hbox)
     have n5_ := Aside0.mk ((by rw [hg]; exact (below_size qQx10s2_) : w.heap.size ≤ gb164))
     have n6_ := Aside0.mk ((by rw [hg]; exact (below_size qQx10s2_) : w.heap.size ≤ gb164))
     have n7_ := Aside0.mk ((by rw [hg]; exact Nat.ne_of_lt (blk_lt (g := gb156) (o := .cells #[.int .i64 a0_0, .int .i64 a0_1, .int .i64 a0_2, .string a0_3, .slice A0_4 l0_4.length c0_4, .slice A0_5 l0_5.length c0_5] 28 (0, 0)) qQx10s1_) : gb156 ≠ gb164))
     have n8_ := Aside0.mk ((by rw [hg]; exact Nat.ne_of_gt (blk_lt (g := gb156) (o := .cells #[.int .i64 a0_0, .int .i64 a0_1, .int .i64 a0_2, .string a0_3, .slice A0_4 l0_4.length c0_4, .slice A0_5 l0_5.length c0_5] 28 (0, 0)) qQx10s1_) : gb164 ≠ gb156))
     have n9_ := Aside0.mk ((by rw [hg]; exact Nat.ne_of_lt (blk_lt (g := gb157) (o := .cells #[.int .i64 0, .int .i64 0, .int .i64 0, .string (⟨#[]⟩ : ByteArray), .slice none 0 0, .slice none 0 0] 28 (0, 0)) qQx10s3_) : gb157 ≠ gb164))
     have n10_ := Aside0.mk ((by rw [hg]; exact Nat.ne_of_gt (blk_lt (g := gb157) (o := .cells #[.int .i64 0, .int .i64 0, .int .i64 0, .string (⟨#[]⟩ : ByteArray), .slice none 0 0, .slice none 0 0] 28 (0, 0)) qQx10s3_) : gb164 ≠ gb157))
     clear HO160
     clear BK156
     clear BK157
     clear HB
     have HO160 := n0_
     have BK156 := n1_
     have BK157 := n2_
     have HB := n3_
     have BK164 := n4_
     have GW164 := n5_
     have GE164 := n6_
     have NB156_164 := n7_
     have NB164_156 := n8_
     have NB157_164 := n9_
     have NB164_157 := n10_
     clear n0_ n1_ n2_ n3_ n4_ n5_ n6_ n7_ n8_ n9_ n10_
     clear hb hbox hg
     refine hK.out _ _ qQx10s4_ (fun hHeld => ?_)
     clear hK K
     refine norm_ (a' := ?_) ?_ ?_
     rotate_left
     ·show Act.put _ (some 3) _ = _
      simp only [Act.put, List.setIfInBounds_toArray, List.set_cons_zero, List.set_cons_succ, i64_w, i32_w]
      rfl
     refine one_ (i := 9) (N := some 14) #[true, true, true, true, true, true, true, true, true, true, false, true, false] rfl rfl (one_of HT_.out (by kernel_rfl)) (by decide) (fun K hK => ?_)
     refine Kd.R_append_rows_step Kd.string (w0 := w) w.heap.size (by rfl) (.tmp 11) (.tmp 13) 26 9 (.string ⟨#[]⟩) 16 rfl Tryd.underlying26 info9 rfl (by decide) (by omega) v159 y158 l0_5 _ _ _ (fun _ => True) (fun _ => False) rfl rfl ?aO ?aR (fun _ _ h => h) (fun _ h => h.elim) ?aF ?aB ?aS ?aL ?_
     (case aR => exact qQx10s8_)
     (case aB => exact qQx10s0_)
     (case aF => exact (by exact (fun _ _ => trivial)))
     (case aO => exact qQx10s10_)
     (case aS => exact (by exact (below_size qQx10s0_)))
     (case aL => exact (by have := LMc2.out; omega))
     intro v162 w9 ho hb hg hat
     rw [← Ny161.out] at ho
     have n0_ := Aside0.mk (blk_grown (g := gb156) (o := .cells #[.int .i64 a0_0, .int .i64 a0_1, .int .i64 a0_2, .string a0_3, .slice A0_4 l0_4.length c0_4, .slice A0_5 l0_5.length c0_5] 28 (0, 0)) qQx10s1_ hg (Kd.R_ne HO160.out BK156.out (by decide)))
     have n1_ := Aside0.mk (blk_grown (g := gb157) (o := .cells #[.int .i64 0, .int .i64 0, .int .i64 0, .string (⟨#[]⟩ : ByteArray), .slice none 0 0, .slice none 0 0] 28 (0, 0)) qQx10s3_ hg (Kd.R_ne HO160.out BK157.out (by decide)))
     have n2_ := Aside0.mk (blk_grown (g := gb164) (o := .cells #[.int .i64 0, .int .i64 0, .int .i64 0, .string (⟨#[]⟩ : ByteArray), .slice none 0 0, .slice none 0 0] 28 (0, 0)) qQx10s5_ hg (Kd.R_ne HO160.out BK164.out (by decide)))
     have n3_ := Aside0.mk (hb)
     have n4_ := Aside0.mk (ho)
     clear BK156
     clear BK157
     clear BK164
     clear HB
     clear HO160
     have BK156 := n0_
     have BK157 := n1_
     have BK164 := n2_
     have HB := n3_
     have HO163 := n4_
     clear n0_ n1_ n2_ n3_ n4_
     clear ho hb hg hat
     obtain ⟨Ao10, co10, eo10⟩ := Kd.R_slice HO163.out
     (first | subst eo10 | (injection eo10 with f1_ f2_ f3_; have f4_ := f1_.symm; have f5_ := f3_.symm; clear f1_ f2_ f3_; subst f4_; subst f5_))
     refine hK.out _ _ qQx10s4_ (fun hHeld => ?_)
     clear hK K
     refine norm_ (a' := ?_) ?_ ?_
     rotate_left
     ·show Act.put _ (some 14) _ = _
      simp only [Act.put, List.setIfInBounds_toArray, List.set_cons_zero, List.set_cons_succ, i64_w, i32_w]
      rfl
     refine pure_ (i := 10) (N := some 15) (v := ?_) (a' := ?_) #[true, true, true, true, true, true, true, true, true, true, true, true, false] rfl rfl (any_of HT_.out (by kernel_rfl)) (fun _ _ _ h => h) (Or.inl ⟨by rfl, ?_⟩) ?_ ?_
     rotate_left
     ·intro w'
      go_simp
      with_reducible rfl
     rotate_left
     ·simp only [Act.put, List.setIfInBounds_toArray, List.set_cons_zero, List.set_cons_succ, i64_w, i32_w]
      rfl
     exact norm_ qQx10s15_ (hCont (v159, .slice Ao10 y161.length co10, gb164) _ qQx10s6_)
   ·skip
    refine box_step ?hg (N := 3) ?hd (cs := #[.int .i64 0, .int .i64 0, .int .i64 0, .string (⟨#[]⟩ : ByteArray), .slice none 0 0, .slice none 0 0]) (t := 28) ?hr ?_; (case hd => rfl); (case hg => rfl); (case hr => exact qQx10s12_)
    intro gb164 hg w6 hbox hb
    have n0_ := Aside0.mk (blk_below (g := gb156) (o := .cells #[.int .i64 a0_0, .int .i64 a0_1, .int .i64 a0_2, .string a0_3, .slice A0_4 l0_4.length c0_4, .slice A0_5 l0_5.length c0_5] 28 (0, 0)) qQx10s1_ hb)
    have n1_ := Aside0.mk (blk_below (g := gb157) (o := .cells #[.int .i64 0, .int .i64 0, .int .i64 0, .string (⟨#[]⟩ : ByteArray), .slice none 0 0, .slice none 0 0] 28 (0, 0)) qQx10s3_ hb)
    have n2_ := Aside0.mk (below_step qQx10s2_ hb)
    have n3_ := Aside0.mk (hbox)
    have n4_ := Aside0.mk ((by rw [hg]; exact (below_size qQx10s2_) : w.heap.size ≤ gb164))
    have n5_ := Aside0.mk ((by rw [hg]; exact (below_size qQx10s2_) : w.heap.size ≤ gb164))
    have n6_ := Aside0.mk ((by rw [hg]; exact Nat.ne_of_lt (blk_lt (g := gb156) (o := .cells #[.int .i64 a0_0, .int .i64 a0_1, .int .i64 a0_2, .string a0_3, .slice A0_4 l0_4.length c0_4, .slice A0_5 l0_5.length c0_5] 28 (0, 0)) qQx10s1_) : gb156 ≠ gb164))
    have n7_ := Aside0.mk ((by rw [hg]; exact Nat.ne_of_gt (blk_lt (g := gb156) (o := .cells #[.int .i64 a0_0, .int .i64 a0_1, .int .i64 a0_2, .string a0_3, .slice A0_4 l0_4.length c0_4, .slice A0_5 l0_5.length c0_5] 28 (0, 0)) qQx10s1_) : gb164 ≠ gb156))
    have n8_ := Aside0.mk ((by rw [hg]; exact Nat.ne_of_lt (blk_lt (g := gb157) (o := .cells #[.int .i64 0, .int .i64 0, .int .i64 0, .string (⟨#[]⟩ : ByteArray), .slice none 0 0, .slice none 0 0] 28 (0, 0)) qQx10s3_) : gb157 ≠ gb164))
    have n9_ := Aside0.mk ((by rw [hg]; exact Nat.ne_of_gt (blk_lt (g := gb157) (o := .cells #[.int .i64 0, .int .i64 0, .int .i64 0, .string (⟨#[]⟩ : ByteArray), .slice none 0 0, .slice none 0 0] 28 (0, 0)) qQx10s3_) : gb164 ≠ gb157))
    clear BK156
    clear BK157
    clear HB
    have BK156 := n0_
    have BK157 := n1_
    have HB := n2_
    have BK164 := n3_
    have GW164 := n4_
    have GE164 := n5_
    have NB156_164 := n6_
    have NB164_156 := n7_
    have NB157_164 := n8_
    have NB164_157 := n9_
    clear n0_ n1_ n2_ n3_ n4_ n5_ n6_ n7_ n8_ n9_
    clear hb hbox hg
    refine hK.out _ _ qQx10s4_ (fun hHeld => ?_)
    clear hK K
    refine norm_ (a' := ?_) ?_ ?_
    rotate_left
    ·show Act.put _ (some 3) _ = _
     simp only [Act.put, List.setIfInBounds_toArray, List.set_cons_zero, List.set_cons_succ, i64_w, i32_w]
     rfl
    refine one_ (i := 6) (N := some 11) #[true, true, true, true, true, true, true, true, true, false, false, true, false] rfl rfl (one_of HT_.out (by kernel_rfl)) (by decide) (fun K hK => ?_)
    refine Kd.R_lit_step Kd.string _ 9 ?hg (N := 11) ?hd (xs := ([] : List ByteArray)) (inner := []) (ok := fun _ => True) (okp := fun _ => True) ?hr ?hp (fun _ hk => hk) trivial (Below.refl _ _) (Nat.le_refl _) (by simp) ?_; (case hd => rfl); (case hg => rfl); (case hr => exact qQx10s12_); (case hp => exact (by exact (Reps.none _ _)))
    intro v159 w7 ho8 hb hg_ hnew_
    clear hg_ hnew_
    (first | rw [← Ny158.out] at ho8 | (simp only [Int.reduceToNat] at ho8; rw [← Ny158.out] at ho8))
    have n0_ := Aside0.mk (Kd.R_lower ho8 (below_size qQx10s0_))
    have n1_ := Aside0.mk (blk_below (g := gb156) (o := .cells #[.int .i64 a0_0, .int .i64 a0_1, .int .i64 a0_2, .string a0_3, .slice A0_4 l0_4.length c0_4, .slice A0_5 l0_5.length c0_5] 28 (0, 0)) qQx10s1_ hb)
    have n2_ := Aside0.mk (blk_below (g := gb157) (o := .cells #[.int .i64 0, .int .i64 0, .int .i64 0, .string (⟨#[]⟩ : ByteArray), .slice none 0 0, .slice none 0 0] 28 (0, 0)) qQx10s3_ hb)
    have n3_ := Aside0.mk (blk_below (g := gb164) (o := .cells #[.int .i64 0, .int .i64 0, .int .i64 0, .string (⟨#[]⟩ : ByteArray), .slice none 0 0, .slice none 0 0] 28 (0, 0)) qQx10s5_ hb)
    have n4_ := Aside0.mk (below_step qQx10s0_ hb)
    clear BK156
    clear BK157
    clear BK164
    clear HB
    have HO160 := n0_
    have BK156 := n1_
    have BK157 := n2_
    have BK164 := n3_
    have HB := n4_
    clear n0_ n1_ n2_ n3_ n4_
    clear hb ho8
    refine hK.out _ _ qQx10s4_ (fun hHeld => ?_)
    clear hK K
    refine norm_ (a' := ?_) ?_ ?_
    rotate_left
    ·show Act.put _ (some 11) _ = _
     simp only [Act.put, List.setIfInBounds_toArray, List.set_cons_zero, List.set_cons_succ, i64_w, i32_w]
     rfl
    refine one_ (i := 9) (N := some 14) #[true, true, true, true, true, true, true, true, true, true, false, true, false] rfl rfl (one_of HT_.out (by kernel_rfl)) (by decide) (fun K hK => ?_)
    refine Kd.R_append_rows_step Kd.string (w0 := w) w.heap.size (by rfl) (.tmp 11) (.tmp 13) 26 9 (.string ⟨#[]⟩) 16 rfl Tryd.underlying26 info9 rfl (by decide) (by omega) v159 y158 l0_5 _ _ _ (fun _ => True) (fun _ => False) rfl rfl ?aO ?aR (fun _ _ h => h) (fun _ h => h.elim) ?aF ?aB ?aS ?aL ?_
    (case aR => exact qQx10s8_)
    (case aB => exact qQx10s0_)
    (case aF => exact (by exact (fun _ _ => trivial)))
    (case aO => exact qQx10s10_)
    (case aS => exact (by exact (below_size qQx10s0_)))
    (case aL => exact (by have := LMc2.out; omega))
    intro v162 w9 ho hb hg hat
    rw [← Ny161.out] at ho
    have n0_ := Aside0.mk (blk_grown (g := gb156) (o := .cells #[.int .i64 a0_0, .int .i64 a0_1, .int .i64 a0_2, .string a0_3, .slice A0_4 l0_4.length c0_4, .slice A0_5 l0_5.length c0_5] 28 (0, 0)) qQx10s1_ hg (Kd.R_ne HO160.out BK156.out (by decide)))
    have n1_ := Aside0.mk (blk_grown (g := gb157) (o := .cells #[.int .i64 0, .int .i64 0, .int .i64 0, .string (⟨#[]⟩ : ByteArray), .slice none 0 0, .slice none 0 0] 28 (0, 0)) qQx10s3_ hg (Kd.R_ne HO160.out BK157.out (by decide)))
    have n2_ := Aside0.mk (blk_grown (g := gb164) (o := .cells #[.int .i64 0, .int .i64 0, .int .i64 0, .string (⟨#[]⟩ : ByteArray), .slice none 0 0, .slice none 0 0] 28 (0, 0)) qQx10s5_ hg (Kd.R_ne HO160.out BK164.out (by decide)))
    have n3_ := Aside0.mk (hb)
    have n4_ := Aside0.mk (ho)
    clear BK156
    clear BK157
    clear BK164
    clear HB
    clear HO160
    have BK156 := n0_
    have BK157 := n1_
    have BK164 := n2_
    have HB := n3_
    have HO163 := n4_
    clear n0_ n1_ n2_ n3_ n4_
    clear ho hb hg hat
    obtain ⟨Ao10, co10, eo10⟩ := Kd.R_slice HO163.out
    (first | subst eo10 | (injection eo10 with f1_ f2_ f3_; have f4_ := f1_.symm; have f5_ := f3_.symm; clear f1_ f2_ f3_; subst f4_; subst f5_))
    refine hK.out _ _ qQx10s4_ (fun hHeld => ?_)
    clear hK K
    refine norm_ (a' := ?_) ?_ ?_
    rotate_left
    ·show Act.put _ (some 14) _ = _
     simp only [Act.put, List.setIfInBounds_toArray, List.set_cons_zero, List.set_cons_succ, i64_w, i32_w]
     rfl
    refine pure_ (i := 10) (N := some 15) (v := ?_) (a' := ?_) #[true, true, true, true, true, true, true, true, true, true, true, true, false] rfl rfl (any_of HT_.out (by kernel_rfl)) (fun _ _ _ h => h) (Or.inl ⟨by rfl, ?_⟩) ?_ ?_
    rotate_left
    ·intro w'
     go_simp
     with_reducible rfl
    rotate_left
    ·simp only [Act.put, List.setIfInBounds_toArray, List.set_cons_zero, List.set_cons_succ, i64_w, i32_w]
     rfl
    exact norm_ qQx10s15_ (hCont (v159, .slice Ao10 y161.length co10, gb164) _ qQx10s6_)
  rintro ⟨v159, v162, gb164⟩ w11 ⟨hS_, h0_, h1_, h2_, h3_, h4_, h5_, h6_, h7_, h8_, h9_, h10_⟩
  have n0_ : Aside0 (Kd.R Kd.string 9 w11 w.heap.size (fun _ => True) v162 y161) := ⟨h0_⟩
  have n1_ : Aside0 (w11.heap[gb156]? = some (.cells #[.int .i64 a0_0, .int .i64 a0_1, .int .i64 a0_2, .string a0_3, .slice A0_4 l0_4.length c0_4, .slice A0_5 l0_5.length c0_5] 28 (0, 0))) := ⟨h1_⟩
  have n2_ : Aside0 (w11.heap[gb157]? = some (.cells #[.int .i64 0, .int .i64 0, .int .i64 0, .string (⟨#[]⟩ : ByteArray), .slice none 0 0, .slice none 0 0] 28 (0, 0))) := ⟨h2_⟩
  have n3_ : Aside0 (w11.heap[gb164]? = some (.cells #[.int .i64 0, .int .i64 0, .int .i64 0, .string (⟨#[]⟩ : ByteArray), .slice none 0 0, .slice none 0 0] 28 (0, 0))) := ⟨h3_⟩
  have n4_ : Aside0 (w.heap.size ≤ gb164) := ⟨h4_⟩
  have n5_ : Aside0 (w.heap.size ≤ gb164) := ⟨h5_⟩
  have n6_ : Aside0 (gb156 ≠ gb164) := ⟨h6_⟩
  have n7_ : Aside0 (gb164 ≠ gb156) := ⟨h7_⟩
  have n8_ : Aside0 (gb157 ≠ gb164) := ⟨h8_⟩
  have n9_ : Aside0 (gb164 ≠ gb157) := ⟨h9_⟩
  have n10_ : Aside0 (Below w.heap.size w w11) := ⟨h10_⟩
  clear BK156
  clear BK157
  clear HB
  clear h0_ h1_ h2_ h3_ h4_ h5_ h6_ h7_ h8_ h9_ h10_
  have HO163 := n0_
  have BK156 := n1_
  have BK157 := n2_
  have BK164 := n3_
  have GW164 := n4_
  have GE164 := n5_
  have NB156_164 := n6_
  have NB164_156 := n7_
  have NB157_164 := n8_
  have NB164_157 := n9_
  have HB := n10_
  clear n0_ n1_ n2_ n3_ n4_ n5_ n6_ n7_ n8_ n9_ n10_
  have hHeld : w11.cell? ⟨gb156, 0, none⟩ = some (.int .i64 a0_0) ∧ w11.cell? ⟨gb156, 1, none⟩ = some (.int .i64 a0_1) ∧ w11.cell? ⟨gb156, 2, none⟩ = some (.int .i64 a0_2) ∧ w11.cell? ⟨gb156, 3, none⟩ = some (.string a0_3) ∧ w11.cell? ⟨gb156, 4, none⟩ = some (.slice A0_4 l0_4.length c0_4) ∧ w11.cell? ⟨gb156, 5, none⟩ = some (.slice A0_5 l0_5.length c0_5) := hS_
  obtain ⟨Ao12, co12, eo12⟩ := Kd.R_slice HO163.out
  (first | subst eo12 | (injection eo12 with f1_ f2_ f3_; have f4_ := f1_.symm; have f5_ := f3_.symm; clear f1_ f2_ f3_; subst f4_; subst f5_))
  refine norm_ (a' := ?_) ?_ ?_
  rotate_left
  ·simp only [putAll, Act.put, List.setIfInBounds_toArray, List.set_cons_zero, List.set_cons_succ]
   rfl
  refine one_ (i := 12) (N := none) #[true, true, true, true, true, true, true, true, true, true, true, true, true] rfl rfl (one_of HT_.out (by kernel_rfl)) (by decide) (fun K hK => ?_)
  have hs13 : w11.cell? ⟨gb164, 0, none⟩ = some (.int .i64 0) := (blk_cell BK164.out 0).trans rfl
  have hfs13 := blk_frozen BK164.out 0
  have hns13_0 := NB156_164.out
  have hns13_1 := NB157_164.out
  have hms13_0 := NB164_156.out
  have hms13_1 := NB164_157.out
  have hs14 : w11.cell? ⟨gb164, 1, none⟩ = some (.int .i64 0) := (blk_cell BK164.out 1).trans rfl
  have hfs14 := blk_frozen BK164.out 1
  have hns14_0 := NB156_164.out
  have hns14_1 := NB157_164.out
  have hms14_0 := NB164_156.out
  have hms14_1 := NB164_157.out
  have hs15 : w11.cell? ⟨gb164, 2, none⟩ = some (.int .i64 0) := (blk_cell BK164.out 2).trans rfl
  have hfs15 := blk_frozen BK164.out 2
  have hns15_0 := NB156_164.out
  have hns15_1 := NB157_164.out
  have hms15_0 := NB164_156.out
  have hms15_1 := NB164_157.out
  have hs16 : w11.cell? ⟨gb164, 3, none⟩ = some (.string (⟨#[]⟩ : ByteArray)) := (blk_cell BK164.out 3).trans rfl
  have hfs16 := blk_frozen BK164.out 3
  have hns16_0 := NB156_164.out
  have hns16_1 := NB157_164.out
  have hms16_0 := NB164_156.out
  have hms16_1 := NB164_157.out
  have hs17 : w11.cell? ⟨gb164, 4, none⟩ = some (.slice none 0 0) := (blk_cell BK164.out 4).trans rfl
  have hfs17 := blk_frozen BK164.out 4
  have hns17_0 := NB156_164.out
  have hns17_1 := NB157_164.out
  have hms17_0 := NB164_156.out
  have hms17_1 := NB164_157.out
  have hs18 : w11.cell? ⟨gb164, 5, none⟩ = some (.slice none 0 0) := (blk_cell BK164.out 5).trans rfl
  have hfs18 := blk_frozen BK164.out 5
  have hns18_0 := NB156_164.out
  have hns18_1 := NB157_164.out
  have hms18_0 := NB164_156.out
  have hms18_1 := NB164_157.out
  refine skip_ (w1 := ?_) (by rfl) rfl ?_ ?_
  rotate_left
  ·go_simp
   rfl
  refine hK.out _ _ ⟨((cell_far (p := ⟨gb164, _, none⟩) NB156_164.out _).trans (((cell_far (p := ⟨gb164, _, none⟩) NB156_164.out _).trans (((cell_far (p := ⟨gb164, _, none⟩) NB156_164.out _).trans (((cell_far (p := ⟨gb164, _, none⟩) NB156_164.out _).trans (((cell_far (p := ⟨gb164, _, none⟩) NB156_164.out _).trans (((cell_far (p := ⟨gb164, _, none⟩) NB156_164.out _).trans (hHeld.1)))))))))))), ((cell_far (p := ⟨gb164, _, none⟩) NB156_164.out _).trans (((cell_far (p := ⟨gb164, _, none⟩) NB156_164.out _).trans (((cell_far (p := ⟨gb164, _, none⟩) NB156_164.out _).trans (((cell_far (p := ⟨gb164, _, none⟩) NB156_164.out _).trans (((cell_far (p := ⟨gb164, _, none⟩) NB156_164.out _).trans (((cell_far (p := ⟨gb164, _, none⟩) NB156_164.out _).trans (hHeld.2.1)))))))))))), ((cell_far (p := ⟨gb164, _, none⟩) NB156_164.out _).trans (((cell_far (p := ⟨gb164, _, none⟩) NB156_164.out _).trans (((cell_far (p := ⟨gb164, _, none⟩) NB156_164.out _).trans (((cell_far (p := ⟨gb164, _, none⟩) NB156_164.out _).trans (((cell_far (p := ⟨gb164, _, none⟩) NB156_164.out _).trans (((cell_far (p := ⟨gb164, _, none⟩) NB156_164.out _).trans (hHeld.2.2.1)))))))))))), ((cell_far (p := ⟨gb164, _, none⟩) NB156_164.out _).trans (((cell_far (p := ⟨gb164, _, none⟩) NB156_164.out _).trans (((cell_far (p := ⟨gb164, _, none⟩) NB156_164.out _).trans (((cell_far (p := ⟨gb164, _, none⟩) NB156_164.out _).trans (((cell_far (p := ⟨gb164, _, none⟩) NB156_164.out _).trans (((cell_far (p := ⟨gb164, _, none⟩) NB156_164.out _).trans (hHeld.2.2.2.1)))))))))))), ((cell_far (p := ⟨gb164, _, none⟩) NB156_164.out _).trans (((cell_far (p := ⟨gb164, _, none⟩) NB156_164.out _).trans (((cell_far (p := ⟨gb164, _, none⟩) NB156_164.out _).trans (((cell_far (p := ⟨gb164, _, none⟩) NB156_164.out _).trans (((cell_far (p := ⟨gb164, _, none⟩) NB156_164.out _).trans (((cell_far (p := ⟨gb164, _, none⟩) NB156_164.out _).trans (hHeld.2.2.2.2.1)))))))))))), ((cell_far (p := ⟨gb164, _, none⟩) NB156_164.out _).trans (((cell_far (p := ⟨gb164, _, none⟩) NB156_164.out _).trans (((cell_far (p := ⟨gb164, _, none⟩) NB156_164.out _).trans (((cell_far (p := ⟨gb164, _, none⟩) NB156_164.out _).trans (((cell_far (p := ⟨gb164, _, none⟩) NB156_164.out _).trans (((cell_far (p := ⟨gb164, _, none⟩) NB156_164.out _).trans (hHeld.2.2.2.2.2))))))))))))⟩ (fun hHeld => ?_)
  clear hK K
  refine done_ (done_of HT_.out (by kernel_rfl)) ?_
  try go_wp2
  go_loopg [4] k (fun kq v4 w' => ∃ (x4_1 : Int) (x165004_1 : List (S28)) (u165004 : Value), v4 = .int .i64 x4_1 ∧ Aside0 (spec_l13Copy.l0 kq x4_1 a0_0 a0_1 a0_2 a0_3 l0_4 l0_5 a0_0 a0_1 a0_2 a0_3 x165004_1 y161 = some (r1, r2, r3, r4, r5, r6)) ∧ Aside0 (kq ≤ k) ∧ Aside0 (Kd.R k28 28 w' w.heap.size (fun k_ => some k_ ≠ ((.slice Ao12 y161.length co12) : Value).ownBlock ∧ k_ ≠ gb156 ∧ k_ ≠ gb157 ∧ k_ ≠ gb164) u165004 x165004_1) ∧ Aside0 (Kd.R Kd.string 9 w' w.heap.size (fun _ => True) (.slice Ao12 y161.length co12) y161) ∧ Aside0 (w'.heap[gb156]? = some (.cells #[.int .i64 a0_0, .int .i64 a0_1, .int .i64 a0_2, .string a0_3, (.slice A0_4 l0_4.length c0_4), (.slice A0_5 l0_5.length c0_5)] 28 (0, 0))) ∧ Aside0 (w'.heap[gb157]? = some (.cells #[.int .i64 0, .int .i64 0, .int .i64 0, .string (⟨#[]⟩ : ByteArray), (.slice none 0 0), (.slice none 0 0)] 28 (0, 0))) ∧ Aside0 (w'.heap[gb164]? = some (.cells #[.int .i64 a0_0, .int .i64 a0_1, .int .i64 a0_2, .string a0_3, u165004, (.slice Ao12 y161.length co12)] 28 (0, 0))) ∧ Aside0 (Below w.heap.size w w'))
  case atStart => exact ⟨(0), (([] : List (S28))), (.slice none 0 0), (by first | rfl | (simp; done) | (simp [*]; done)), H', ⟨Nat.le_refl _⟩, ⟨by first | exact Kd.R_nil _ _ _ _ _ | exact Kd.N_nil _ _ _ _ _ | exact Kd.V_nil _ _ _ _ _ | exact Kd.Q_nil _ _ _ _ _ | exact Kd.S_nil _ _ _ _ _⟩, ⟨(by (with_reducible repeat (first | apply Kd.R_alloc | apply Kd.R_drewN | apply Kd.R_drew)); exact Kd.R_mono (Kd.R_far (p := ⟨gb164, 5, none⟩) (Kd.R_far (p := ⟨gb164, 4, none⟩) (Kd.R_far (p := ⟨gb164, 3, none⟩) (Kd.R_far (p := ⟨gb164, 2, none⟩) (Kd.R_far (p := ⟨gb164, 1, none⟩) (Kd.R_far (p := ⟨gb164, 0, none⟩) (Kd.R_types HO163.out BK164.out (by decide)) (fun _ hk => hk.2) (.int .i64 a0_0)) (fun _ hk => hk.2) (.int .i64 a0_1)) (fun _ hk => hk.2) (.int .i64 a0_2)) (fun _ hk => hk.2) (.string a0_3)) (fun _ hk => hk.2) (.slice none 0 0)) (fun _ hk => hk.2) (.slice Ao12 y161.length co12)) (fun _ hk => trivial))⟩, ⟨(by (with_reducible repeat (first | refine blk_drewN ?_ _ | refine blk_drew ?_ | refine blk_alloc ?_ _)); refine blk_far ?_ NB156_164.out _; (with_reducible repeat (first | refine blk_drewN ?_ _ | refine blk_drew ?_ | refine blk_alloc ?_ _)); refine blk_far ?_ NB156_164.out _; (with_reducible repeat (first | refine blk_drewN ?_ _ | refine blk_drew ?_ | refine blk_alloc ?_ _)); refine blk_far ?_ NB156_164.out _; (with_reducible repeat (first | refine blk_drewN ?_ _ | refine blk_drew ?_ | refine blk_alloc ?_ _)); refine blk_far ?_ NB156_164.out _; (with_reducible repeat (first | refine blk_drewN ?_ _ | refine blk_drew ?_ | refine blk_alloc ?_ _)); refine blk_far ?_ NB156_164.out _; (with_reducible repeat (first | refine blk_drewN ?_ _ | refine blk_drew ?_ | refine blk_alloc ?_ _)); refine blk_far ?_ NB156_164.out _; (with_reducible repeat (first | refine blk_drewN ?_ _ | refine blk_drew ?_ | refine blk_alloc ?_ _)); exact BK156.out)⟩, ⟨(by (with_reducible repeat (first | refine blk_drewN ?_ _ | refine blk_drew ?_ | refine blk_alloc ?_ _)); refine blk_far ?_ NB157_164.out _; (with_reducible repeat (first | refine blk_drewN ?_ _ | refine blk_drew ?_ | refine blk_alloc ?_ _)); refine blk_far ?_ NB157_164.out _; (with_reducible repeat (first | refine blk_drewN ?_ _ | refine blk_drew ?_ | refine blk_alloc ?_ _)); refine blk_far ?_ NB157_164.out _; (with_reducible repeat (first | refine blk_drewN ?_ _ | refine blk_drew ?_ | refine blk_alloc ?_ _)); refine blk_far ?_ NB157_164.out _; (with_reducible repeat (first | refine blk_drewN ?_ _ | refine blk_drew ?_ | refine blk_alloc ?_ _)); refine blk_far ?_ NB157_164.out _; (with_reducible repeat (first | refine blk_drewN ?_ _ | refine blk_drew ?_ | refine blk_alloc ?_ _)); refine blk_far ?_ NB157_164.out _; (with_reducible repeat (first | refine blk_drewN ?_ _ | refine blk_drew ?_ | refine blk_alloc ?_ _)); exact BK157.out)⟩, ⟨(by (with_reducible repeat (first | refine blk_drewN ?_ _ | refine blk_drew ?_ | refine blk_alloc ?_ _)); refine blk_put (cs := #[.int .i64 a0_0, .int .i64 a0_1, .int .i64 a0_2, .string a0_3, .slice none 0 0, .slice none 0 0]) ?_ 5 _ rfl; (with_reducible repeat (first | refine blk_drewN ?_ _ | refine blk_drew ?_ | refine blk_alloc ?_ _)); refine blk_put (cs := #[.int .i64 a0_0, .int .i64 a0_1, .int .i64 a0_2, .string a0_3, .slice none 0 0, .slice none 0 0]) ?_ 4 _ rfl; (with_reducible repeat (first | refine blk_drewN ?_ _ | refine blk_drew ?_ | refine blk_alloc ?_ _)); refine blk_put (cs := #[.int .i64 a0_0, .int .i64 a0_1, .int .i64 a0_2, .string (⟨#[]⟩ : ByteArray), .slice none 0 0, .slice none 0 0]) ?_ 3 _ rfl; (with_reducible repeat (first | refine blk_drewN ?_ _ | refine blk_drew ?_ | refine blk_alloc ?_ _)); refine blk_put (cs := #[.int .i64 a0_0, .int .i64 a0_1, .int .i64 0, .string (⟨#[]⟩ : ByteArray), .slice none 0 0, .slice none 0 0]) ?_ 2 _ rfl; (with_reducible repeat (first | refine blk_drewN ?_ _ | refine blk_drew ?_ | refine blk_alloc ?_ _)); refine blk_put (cs := #[.int .i64 a0_0, .int .i64 0, .int .i64 0, .string (⟨#[]⟩ : ByteArray), .slice none 0 0, .slice none 0 0]) ?_ 1 _ rfl; (with_reducible repeat (first | refine blk_drewN ?_ _ | refine blk_drew ?_ | refine blk_alloc ?_ _)); refine blk_put (cs := #[.int .i64 0, .int .i64 0, .int .i64 0, .string (⟨#[]⟩ : ByteArray), .slice none 0 0, .slice none 0 0]) ?_ 0 _ rfl; (with_reducible repeat (first | refine blk_drewN ?_ _ | refine blk_drew ?_ | refine blk_alloc ?_ _)); exact BK164.out)⟩, ⟨qQx10s0_⟩⟩
  case round =>
   clear H'
   try clear c2
   try clear p2
   try clear c4
   obtain ⟨x4_1, x165004_1, u165004, rfl, HA, HK1, HO_165004, HO_165005, BK156, BK157, BK164, HB⟩ := hrel
   cases gk with
   | zero => exact absurd HA.out (by simp [spec_l13Copy.l0])
   | succ k1 =>
    have H := HA.out
    clear HA
    simp only [spec_l13Copy.l0] at H
    by_cases c19 : x4_1 < (l0_4.length : Int)
    ·rw [if_pos c19] at H
     have c19b0 : decide (x4_1 < (l0_4.length : Int)) = true := decide_eq_true c19
     clear c19
     by_cases c20 : 0 ≤ x4_1
     ·rw [if_pos c20] at H
      have c20b0 : decide (0 ≤ x4_1) = true := decide_eq_true c20
      have c20q := c20
      clear c20
      replace H := Option.bind_eq_some_iff.mp H
      obtain ⟨⟨t166, t167, t168, t169, t170, t173⟩, A210, H⟩ := H
      replace H : (if x165004_1.length < 1599289640401 then (spec_l13Copy.l0 k1 (wrap64 (x4_1 + 1)) a0_0 a0_1 a0_2 a0_3 l0_4 l0_5 a0_0 a0_1 a0_2 a0_3 (x165004_1 ++ [(⟨t166, (⟨t167, t168⟩ : S24), t169, t170, t173⟩ : S28)]) y161) else (none)) = some (r1, r2, r3, r4, r5, r6) := H
      have A21 := Aside0.mk A210
      clear A210
      by_cases c22 : x165004_1.length < 1599289640401
      ·rw [if_pos c22] at H
       have LMc22 := Aside0.mk c22
       clear c22
       obtain ⟨y176, hy176⟩ : ∃ y_ : List (S28), y_ = (x165004_1 ++ [(⟨t166, (⟨t167, t168⟩ : S24), t169, t170, t173⟩ : S28)]) := ⟨_, rfl⟩
       replace H : (spec_l13Copy.l0 k1 (wrap64 (x4_1 + 1)) a0_0 a0_1 a0_2 a0_3 l0_4 l0_5 a0_0 a0_1 a0_2 a0_3 y176 y161) = some (r1, r2, r3, r4, r5, r6) := by first | (rw [hy176]; with_reducible exact H) | (have H2_ := (Option.bind_some _ _).symm.trans H; rw [hy176]; with_reducible exact H2_) | (have H2_ := (Option.bind_some _ _).symm.trans H; with_reducible exact H2_) | with_reducible exact H | (rw [hy176]; exact H) | exact H
       have Ny176 := Aside0.mk hy176
       clear hy176
       have H' := Aside0.mk H
       clear H
       have hnb23 := NB156_157.out
       have hnc23 := NB157_156.out
       have hnb24 := NB156_164.out
       have hnc24 := NB164_156.out
       have hcz25_0 : wr.cell? ⟨gb156, 0, none⟩ = some (.int .i64 a0_0) := (blk_cell BK156.out 0).trans rfl
       have hcz25_1 : wr.cell? ⟨gb156, 1, none⟩ = some (.int .i64 a0_1) := (blk_cell BK156.out 1).trans rfl
       have hcz25_2 : wr.cell? ⟨gb156, 2, none⟩ = some (.int .i64 a0_2) := (blk_cell BK156.out 2).trans rfl
       have hcz25_3 : wr.cell? ⟨gb156, 3, none⟩ = some (.string a0_3) := (blk_cell BK156.out 3).trans rfl
       have hcz25_4 : wr.cell? ⟨gb156, 4, none⟩ = some (.slice A0_4 l0_4.length c0_4) := (blk_cell BK156.out 4).trans rfl
       have hcz25_5 : wr.cell? ⟨gb156, 5, none⟩ = some (.slice A0_5 l0_5.length c0_5) := (blk_cell BK156.out 5).trans rfl
       have hfz25_0 := blk_frozen BK156.out 0
       have hfz25_1 := blk_frozen BK156.out 1
       have hfz25_2 := blk_frozen BK156.out 2
       have hfz25_3 := blk_frozen BK156.out 3
       have hfz25_4 := blk_frozen BK156.out 4
       have hfz25_5 := blk_frozen BK156.out 5
       try go_wp2
       have n0_ := Aside0.mk (Kd.R_drew HO_165004.out)
       have n1_ := Aside0.mk (Kd.R_drew HO_165005.out)
       have n2_ := Aside0.mk (blk_drew BK156.out)
       have n3_ := Aside0.mk (blk_drew BK157.out)
       have n4_ := Aside0.mk (blk_drew BK164.out)
       have n5_ := Aside0.mk (below_drew1 HB.out)
       clear HO_165004
       clear HO_165005
       clear BK156
       clear BK157
       clear BK164
       clear HB
       have HO_165004 := n0_
       have HO_165005 := n1_
       have BK156 := n2_
       have BK157 := n3_
       have BK164 := n4_
       have HB := n5_
       clear n0_ n1_ n2_ n3_ n4_ n5_
       have p165 : 0 ≤ (x4_1 : Int) := of_decide_eq_true (by first | (with_reducible assumption) | assumption)
       have q165 : x4_1 < (l0_4.length : Int) := of_decide_eq_true (by first | (with_reducible assumption) | assumption)
       obtain ⟨ad165, A165_4, c165_4, A165_5, c165_5, e165, hx165_0, hx165_1, hx165_2, hx165_3, hx165_4, hx165_5, hl165_4, hi165_4, hl165_5, hi165_5⟩ := at_T28 HR0_4.out x4_1 p165 q165
       have hw165_5 := hx165_5
       have hw165_4 := hx165_4
       have hw165_3 := hx165_3
       have hw165_2 := hx165_2
       have hw165_1 := hx165_1
       have hw165_0 := hx165_0
       cases e165
       replace hx165_0 := (HB.out.cell (World.block_lt_of_cell? w _ hx165_0)).trans hx165_0
       replace hx165_1 := (HB.out.cell (World.block_lt_of_cell? w _ hx165_1)).trans hx165_1
       replace hx165_2 := (HB.out.cell (World.block_lt_of_cell? w _ hx165_2)).trans hx165_2
       replace hx165_3 := (HB.out.cell (World.block_lt_of_cell? w _ hx165_3)).trans hx165_3
       replace hx165_4 := (HB.out.cell (World.block_lt_of_cell? w _ hx165_4)).trans hx165_4
       replace hx165_5 := (HB.out.cell (World.block_lt_of_cell? w _ hx165_5)).trans hx165_5
       have HR165_4 := Aside0.mk hi165_4
       have HC165_4 := Aside0.mk hl165_4
       clear hi165_4 hl165_4
       have HR165_5 := Aside0.mk hi165_5
       have HC165_5 := Aside0.mk hl165_5
       clear hi165_5 hl165_5
       replace p165 := eq_true p165
       replace q165 := eq_true q165
       refine start_ (n := 12) (S := fun w' => w'.cell? ⟨gb164, 0, none⟩ = some (.int .i64 a0_0) ∧ w'.cell? ⟨gb164, 1, none⟩ = some (.int .i64 a0_1) ∧ w'.cell? ⟨gb164, 2, none⟩ = some (.int .i64 a0_2) ∧ w'.cell? ⟨gb164, 3, none⟩ = some (.string a0_3) ∧ w'.cell? ⟨gb164, 4, none⟩ = some (u165004) ∧ w'.cell? ⟨gb164, 5, none⟩ = some (.slice Ao12 y161.length co12) ∧ w'.cell? ⟨gb156, 0, none⟩ = some (.int .i64 a0_0) ∧ w'.cell? ⟨gb156, 1, none⟩ = some (.int .i64 a0_1) ∧ w'.cell? ⟨gb156, 2, none⟩ = some (.int .i64 a0_2) ∧ w'.cell? ⟨gb156, 3, none⟩ = some (.string a0_3) ∧ w'.cell? ⟨gb156, 4, none⟩ = some (.slice (some ad165) l0_4.length c0_4) ∧ w'.cell? ⟨gb156, 5, none⟩ = some (.slice A0_5 l0_5.length c0_5) ∧ w'.cell? (ad165.add ((x4_1).toNat * 6)) = some (.int .i64 ((rd_T28 l0_4 x4_1).f0)) ∧ w'.cell? ⟨(ad165.add ((x4_1).toNat * 6)).block, (ad165.add ((x4_1).toNat * 6)).off + 1, none⟩ = some (.int .i64 ((rd_T28 l0_4 x4_1).f1.f0)) ∧ w'.cell? ⟨(ad165.add ((x4_1).toNat * 6)).block, (ad165.add ((x4_1).toNat * 6)).off + 2, none⟩ = some (.int .i64 ((rd_T28 l0_4 x4_1).f1.f1)) ∧ w'.cell? ⟨(ad165.add ((x4_1).toNat * 6)).block, (ad165.add ((x4_1).toNat * 6)).off + 3, none⟩ = some (.string ((rd_T28 l0_4 x4_1).f2)) ∧ w'.cell? ⟨(ad165.add ((x4_1).toNat * 6)).block, (ad165.add ((x4_1).toNat * 6)).off + 4, none⟩ = some (.slice A165_4 ((rd_T28 l0_4 x4_1).f3).length c165_4) ∧ w'.cell? ⟨(ad165.add ((x4_1).toNat * 6)).block, (ad165.add ((x4_1).toNat * 6)).off + 5, none⟩ = some (.slice A165_5 ((rd_T28 l0_4 x4_1).f4).length c165_5)) (ds := [11]) #[false, false, false, false, false, false, false, false, false, false, false, false] (by kernel_rfl) rfl rfl ⟨(blk_cell BK164.out 0).trans rfl, (blk_cell BK164.out 1).trans rfl, (blk_cell BK164.out 2).trans rfl, (blk_cell BK164.out 3).trans rfl, (blk_cell BK164.out 4).trans rfl, (blk_cell BK164.out 5).trans rfl, (blk_cell BK156.out 0).trans rfl, (blk_cell BK156.out 1).trans rfl, (blk_cell BK156.out 2).trans rfl, (blk_cell BK156.out 3).trans rfl, (blk_cell BK156.out 4).trans rfl, (blk_cell BK156.out 5).trans rfl, ((HB.out.cell (World.block_lt_of_cell? w _ hw165_0)).trans hw165_0), ((HB.out.cell (World.block_lt_of_cell? w _ hw165_1)).trans hw165_1), ((HB.out.cell (World.block_lt_of_cell? w _ hw165_2)).trans hw165_2), ((HB.out.cell (World.block_lt_of_cell? w _ hw165_3)).trans hw165_3), ((HB.out.cell (World.block_lt_of_cell? w _ hw165_4)).trans hw165_4), ((HB.out.cell (World.block_lt_of_cell? w _ hw165_5)).trans hw165_5)⟩ (fun hHeld => ?_); refine with_tabW spec_l13Copy.tab5 spec_l13Copy.bits5 (fun HT_ HW_ => ?_)
       generalize wr.drew = w26 at HO_165004 HO_165005 BK156 BK157 BK164 HB HR165_4 HR165_5 hx165_0 hx165_1 hx165_2 hx165_3 hx165_4 hx165_5 hHeld ⊢
       refine pure_ (i := 0) (N := some 23) (v := ?_) (a' := ?_) #[true, false, false, false, false, false, false, false, false, false, false, false] rfl rfl (any_of HT_.out (by kernel_rfl)) (fun _ _ _ h => h) (Or.inl ⟨by rfl, ?_⟩) ?_ ?_
       rotate_left
       ·intro w'
        go_simp
        with_reducible rfl
       rotate_left
       ·simp only [Act.put, List.setIfInBounds_toArray, List.set_cons_zero, List.set_cons_succ, i64_w, i32_w]
        rfl
       refine pure_ (i := 2) (N := some 25) (v := ?_) (a' := ?_) #[true, false, true, false, false, false, false, false, false, false, false, false] rfl rfl (any_of HT_.out (by kernel_rfl)) (fun _ _ _ h => h) (Or.inl ⟨by rfl, ?_⟩) ?_ ?_
       rotate_left
       ·intro w'
        go_simp
        with_reducible rfl
       rotate_left
       ·simp only [Act.put, List.setIfInBounds_toArray, List.set_cons_zero, List.set_cons_succ, i64_w, i32_w]
        rfl
       refine pure_ (i := 4) (N := some 27) (v := ?_) (a' := ?_) #[true, false, true, false, true, false, false, false, false, false, false, false] rfl rfl (any_of HT_.out (by kernel_rfl)) (fun _ _ _ h => h) (Or.inl ⟨by rfl, ?_⟩) ?_ ?_
       rotate_left
       ·intro w'
        go_simp
        with_reducible rfl
       rotate_left
       ·simp only [Act.put, List.setIfInBounds_toArray, List.set_cons_zero, List.set_cons_succ, i64_w, i32_w]
        rfl
       refine take_ (i := 1) (N := some 24) (v := ?_) (a' := ?_) #[true, true, true, false, true, false, false, false, false, false, false, false] rfl rfl qQx10s13_ (fun _ _ _ h => h) (Or.inl ⟨by rfl, ?_⟩) hHeld ?_ ?_
       rotate_left
       ·rintro w' ⟨s0, s1, s2, s3, s4, s5, s6, s7, s8, s9, s10, s11, s12, s13, s14, s15, s16, s17⟩
        go_simp
        with_reducible rfl
       rotate_left
       ·simp only [Act.put, List.setIfInBounds_toArray, List.set_cons_zero, List.set_cons_succ, i64_w, i32_w]
        rfl
       refine take_ (i := 3) (N := some 26) (v := ?_) (a' := ?_) #[true, true, true, true, true, false, false, false, false, false, false, false] rfl rfl qQx10s13_ (fun _ _ _ h => h) (Or.inl ⟨by rfl, ?_⟩) hHeld ?_ ?_
       rotate_left
       ·rintro w' ⟨s0, s1, s2, s3, s4, s5, s6, s7, s8, s9, s10, s11, s12, s13, s14, s15, s16, s17⟩
        go_simp
        with_reducible rfl
       rotate_left
       ·simp only [Act.put, List.setIfInBounds_toArray, List.set_cons_zero, List.set_cons_succ, i64_w, i32_w]
        rfl
       refine pure_ (i := 5) (N := some 28) (v := ?_) (a' := ?_) #[true, true, true, true, true, true, false, false, false, false, false, false] rfl rfl (any_of HT_.out (by kernel_rfl)) (fun _ _ _ h => h) (Or.inl ⟨by rfl, ?_⟩) ?_ ?_
       rotate_left
       ·intro w'
        go_simp
        with_reducible rfl
       rotate_left
       ·simp only [Act.put, List.setIfInBounds_toArray, List.set_cons_zero, List.set_cons_succ, i64_w, i32_w]
        rfl
       refine take_ (i := 6) (N := some 29) (v := ?_) (a' := ?_) #[true, true, true, true, true, true, true, false, false, false, false, false] rfl rfl qQx10s13_ (fun _ _ _ h => h) (Or.inl ⟨by rfl, ?_⟩) hHeld ?_ ?_
       rotate_left
       ·rintro w' ⟨s0, s1, s2, s3, s4, s5, s6, s7, s8, s9, s10, s11, s12, s13, s14, s15, s16, s17⟩
        go_simp
        with_reducible rfl
       rotate_left
       ·simp only [Act.put, List.setIfInBounds_toArray, List.set_cons_zero, List.set_cons_succ, i64_w, i32_w]
        rfl
       refine one_ (i := 7) (N := some 30) #[true, true, true, true, true, true, true, true, false, false, false, false] rfl rfl (one_of HT_.out (by kernel_rfl)) (by decide) (fun K hK => ?_)
       refine goes_ Tryd.func47 (by kernel_rfl) rfl #[.agg #[.int .i64 ((rd_T28 l0_4 x4_1).f0), .int .i64 ((rd_T28 l0_4 x4_1).f1.f0), .int .i64 ((rd_T28 l0_4 x4_1).f1.f1), .string ((rd_T28 l0_4 x4_1).f2), .slice A165_4 ((rd_T28 l0_4 x4_1).f3).length c165_4, .slice A165_5 ((rd_T28 l0_4 x4_1).f4).length c165_5]] (by rfl) rfl rfl (by (try simp only [List.map_toArray, List.map_cons, List.map_nil]); first | done | rfl | (simp only [List.length_drop, List.length_take]; rfl)) ?_
       with_reducible refine (ih k1 (by have := HK1.out; omega) ((rd_T28 l0_4 x4_1).f0) ((rd_T28 l0_4 x4_1).f1.f0) ((rd_T28 l0_4 x4_1).f1.f1) ((rd_T28 l0_4 x4_1).f2) _ _ ((rd_T28 l0_4 x4_1).f3) _ _ ((rd_T28 l0_4 x4_1).f4) t166 t167 t168 t169 t170 t173 _ ?side1 ?side2 ?side3 ?side4 A21.out).mono ?_
       (case side1 => exact (by repeat (first | exact (Kd.C_below HR165_4.out HB.out) | (with_reducible refine Kd.C_alloc ?_ _) | (with_reducible refine Kd.C_drewN ?_ _) | (with_reducible refine Kd.C_drew ?_))))
       (case side2 => exact (by exact HC165_4.out))
       (case side3 => exact (by repeat (first | exact (Kd.C_below HR165_5.out HB.out) | (with_reducible refine Kd.C_alloc ?_ _) | (with_reducible refine Kd.C_drewN ?_ _) | (with_reducible refine Kd.C_drew ?_))))
       (case side4 => exact (by exact HC165_5.out))
       rintro e w27 ⟨v171, v174, rfl, ho0, ho1, hb⟩
       refine ⟨_, rfl, ?_⟩
       have n0_ := Aside0.mk (Kd.R_mono (Kd.R_told (Kd.R_told (Kd.R_old qQx10s14_ hb) (Kd.R_base ho0)) (Kd.R_base ho1)) (fun _ h_ => h_.1))
       have n1_ := Aside0.mk (Kd.R_elder' qQx10s7_ (Kd.R_base ho1) hb)
       have n2_ := Aside0.mk (Kd.R_lower (Kd.R_newB (Kd.R_newB (Kd.R_newB (Kd.R_new' (Kd.R_new' ho0 (Kd.R_lt qQx10s14_)) (Kd.R_lt qQx10s7_)) (g := gb156) (o := .cells #[.int .i64 a0_0, .int .i64 a0_1, .int .i64 a0_2, .string a0_3, .slice (some ad165) l0_4.length c0_4, .slice A0_5 l0_5.length c0_5] 28 (0, 0)) qQx10s1_) (g := gb157) (o := .cells #[.int .i64 0, .int .i64 0, .int .i64 0, .string (⟨#[]⟩ : ByteArray), .slice none 0 0, .slice none 0 0] 28 (0, 0)) qQx10s3_) (g := gb164) (o := .cells #[.int .i64 a0_0, .int .i64 a0_1, .int .i64 a0_2, .string a0_3, u165004, .slice Ao12 y161.length co12] 28 (0, 0)) qQx10s5_) (below_size qQx10s0_))
       have n3_ := Aside0.mk (Kd.R_lower (Kd.R_new' ho1 (Kd.R_lt qQx10s7_)) (below_size qQx10s0_))
       have n4_ := Aside0.mk (blk_below (g := gb156) (o := .cells #[.int .i64 a0_0, .int .i64 a0_1, .int .i64 a0_2, .string a0_3, .slice (some ad165) l0_4.length c0_4, .slice A0_5 l0_5.length c0_5] 28 (0, 0)) qQx10s1_ hb)
       have n5_ := Aside0.mk (blk_below (g := gb157) (o := .cells #[.int .i64 0, .int .i64 0, .int .i64 0, .string (⟨#[]⟩ : ByteArray), .slice none 0 0, .slice none 0 0] 28 (0, 0)) qQx10s3_ hb)
       have n6_ := Aside0.mk (blk_below (g := gb164) (o := .cells #[.int .i64 a0_0, .int .i64 a0_1, .int .i64 a0_2, .string a0_3, u165004, .slice Ao12 y161.length co12] 28 (0, 0)) qQx10s5_ hb)
       have n7_ := Aside0.mk (below_step qQx10s0_ hb)
       clear HO_165004
       clear HO_165005
       clear BK156
       clear BK157
       clear BK164
       clear HB
       have HO_165004 := n0_
       have HO_165005 := n1_
       have HO172 := n2_
       have HO175 := n3_
       have BK156 := n4_
       have BK157 := n5_
       have BK164 := n6_
       have HB := n7_
       clear n0_ n1_ n2_ n3_ n4_ n5_ n6_ n7_
       (try clear hb)
       (try clear hb2)
       (try clear hk)
       (try clear hi)
       (try clear ho0)
       (try clear ho1)
       obtain ⟨Ao29, co29, eo29⟩ := Kd.R_slice HO172.out
       (first | subst eo29 | (injection eo29 with f1_ f2_ f3_; have f4_ := f1_.symm; have f5_ := f3_.symm; clear f1_ f2_ f3_; subst f4_; subst f5_))
       obtain ⟨Ao30, co30, eo30⟩ := Kd.R_slice HO175.out
       (first | subst eo30 | (injection eo30 with f1_ f2_ f3_; have f4_ := f1_.symm; have f5_ := f3_.symm; clear f1_ f2_ f3_; subst f4_; subst f5_))
       refine hK.out _ _ ⟨(blk_cell BK164.out 0).trans rfl, (blk_cell BK164.out 1).trans rfl, (blk_cell BK164.out 2).trans rfl, (blk_cell BK164.out 3).trans rfl, (blk_cell BK164.out 4).trans rfl, (blk_cell BK164.out 5).trans rfl, (blk_cell BK156.out 0).trans rfl, (blk_cell BK156.out 1).trans rfl, (blk_cell BK156.out 2).trans rfl, (blk_cell BK156.out 3).trans rfl, (blk_cell BK156.out 4).trans rfl, (blk_cell BK156.out 5).trans rfl, ((HB.out.cell (World.block_lt_of_cell? w _ hw165_0)).trans hw165_0), ((HB.out.cell (World.block_lt_of_cell? w _ hw165_1)).trans hw165_1), ((HB.out.cell (World.block_lt_of_cell? w _ hw165_2)).trans hw165_2), ((HB.out.cell (World.block_lt_of_cell? w _ hw165_3)).trans hw165_3), ((HB.out.cell (World.block_lt_of_cell? w _ hw165_4)).trans hw165_4), ((HB.out.cell (World.block_lt_of_cell? w _ hw165_5)).trans hw165_5)⟩ (fun hHeld => ?_)
       clear hK K
       refine norm_ (a' := ?_) ?_ ?_
       rotate_left
       ·show Act.put _ (some 30) _ = _
        simp only [Act.put, List.setIfInBounds_toArray, List.set_cons_zero, List.set_cons_succ, i64_w, i32_w]
        rfl
       refine one_ (i := 8) (N := some 31) #[true, true, true, true, true, true, true, true, true, false, false, false] rfl rfl (one_of HT_.out (by kernel_rfl)) (by decide) (fun K hK => ?_)
       refine value_ (w1 := ?_) (v := ?_) (by rfl) rfl ?_ ?_
       rotate_left 2
       ·go_simp
        constructor
        ·rfl
        ·rfl
       refine hK.out _ _ ⟨(blk_cell (blk_alloc BK164.out _) 0).trans rfl, (blk_cell (blk_alloc BK164.out _) 1).trans rfl, (blk_cell (blk_alloc BK164.out _) 2).trans rfl, (blk_cell (blk_alloc BK164.out _) 3).trans rfl, (blk_cell (blk_alloc BK164.out _) 4).trans rfl, (blk_cell (blk_alloc BK164.out _) 5).trans rfl, (blk_cell (blk_alloc BK156.out _) 0).trans rfl, (blk_cell (blk_alloc BK156.out _) 1).trans rfl, (blk_cell (blk_alloc BK156.out _) 2).trans rfl, (blk_cell (blk_alloc BK156.out _) 3).trans rfl, (blk_cell (blk_alloc BK156.out _) 4).trans rfl, (blk_cell (blk_alloc BK156.out _) 5).trans rfl, (World.cell?_alloc_lt _ _ _ (World.block_lt_of_cell? _ _ (((HB.out.cell (World.block_lt_of_cell? w _ hw165_0)).trans hw165_0)))).trans (((HB.out.cell (World.block_lt_of_cell? w _ hw165_0)).trans hw165_0)), (World.cell?_alloc_lt _ _ _ (World.block_lt_of_cell? _ _ (((HB.out.cell (World.block_lt_of_cell? w _ hw165_1)).trans hw165_1)))).trans (((HB.out.cell (World.block_lt_of_cell? w _ hw165_1)).trans hw165_1)), (World.cell?_alloc_lt _ _ _ (World.block_lt_of_cell? _ _ (((HB.out.cell (World.block_lt_of_cell? w _ hw165_2)).trans hw165_2)))).trans (((HB.out.cell (World.block_lt_of_cell? w _ hw165_2)).trans hw165_2)), (World.cell?_alloc_lt _ _ _ (World.block_lt_of_cell? _ _ (((HB.out.cell (World.block_lt_of_cell? w _ hw165_3)).trans hw165_3)))).trans (((HB.out.cell (World.block_lt_of_cell? w _ hw165_3)).trans hw165_3)), (World.cell?_alloc_lt _ _ _ (World.block_lt_of_cell? _ _ (((HB.out.cell (World.block_lt_of_cell? w _ hw165_4)).trans hw165_4)))).trans (((HB.out.cell (World.block_lt_of_cell? w _ hw165_4)).trans hw165_4)), (World.cell?_alloc_lt _ _ _ (World.block_lt_of_cell? _ _ (((HB.out.cell (World.block_lt_of_cell? w _ hw165_5)).trans hw165_5)))).trans (((HB.out.cell (World.block_lt_of_cell? w _ hw165_5)).trans hw165_5))⟩ (fun hHeld => ?_)
       clear hK K
       refine norm_ (a' := ?_) ?_ ?_
       rotate_left
       ·show Act.put _ (some 31) _ = _
        simp only [Act.put, List.setIfInBounds_toArray, List.set_cons_zero, List.set_cons_succ, i64_w, i32_w]
        rfl
       refine one_ (i := 9) (N := some 32) #[true, true, true, true, true, true, true, true, true, true, false, false] rfl rfl (one_of HT_.out (by kernel_rfl)) (by decide) (fun K hK => ?_)
       refine Kd.R_append_step k28 (w0 := w) w.heap.size (by rfl) (.tmp 24) (.tmp 31) 25 28 (.agg #[(.int .i64 0), (.int .i64 0), (.int .i64 0), (.string ⟨#[]⟩), (.slice none 0 0), (.slice none 0 0)]) 88 rfl Tryd.underlying25 info28 rfl (by decide) (by omega) u165004 x165004_1 (⟨t166, (⟨t167, t168⟩ : S24), t169, t170, t173⟩ : S28) [.int .i64 t166, .int .i64 t167, .int .i64 t168, .string t169, .slice Ao29 t170.length co29, .slice Ao30 t173.length co30] (fun k_ => some k_ ≠ (.slice Ao12 y161.length co12 : Value).ownBlock ∧ k_ ≠ gb156 ∧ k_ ≠ gb157 ∧ k_ ≠ gb164) (fun k_ => ((fun k_ => some k_ ≠ (.slice Ao12 y161.length co12 : Value).ownBlock ∧ k_ ≠ gb156 ∧ k_ ≠ gb157 ∧ k_ ≠ gb164)) k_ ∧ some k_ ≠ (u165004 : Value).ownBlock) rfl rfl ?aP (fun _ hk => hk) ?aF ?aO ?aB ?aS ?aL ?_
       (case aP => exact (by exact k28_mkM _ _ _ (⟨t166, (⟨t167, t168⟩ : S24), t169, t170, t173⟩ : S28) (Kd.R_mono (HO172.out) (fun k_ hk => ⟨⟨hk.1.1.1.2, ⟨hk.1.1.2, ⟨hk.1.2, hk.2⟩⟩⟩, hk.1.1.1.1.2⟩)) (Kd.R_mono (Kd.R_types (Kd.R_types (Kd.R_types (Kd.R_apart' (HO175.out) (Kd.R_typed HO_165004.out) (by decide)) BK156.out (by decide)) BK157.out (by decide)) BK164.out (by decide)) (fun k_ hk => ⟨⟨hk.1.1.1.1.2, ⟨hk.1.1.2, ⟨hk.1.2, hk.2⟩⟩⟩, hk.1.1.1.2⟩))))
       (case aB => exact qQx10s0_)
       (case aF => exact (by exact (fun k_ hk => ⟨Kd.fresh' (Kd.R_lt qQx10s7_) k_ hk, Kd.freshB (g := gb156) (o := .cells #[.int .i64 a0_0, .int .i64 a0_1, .int .i64 a0_2, .string a0_3, .slice (some ad165) l0_4.length c0_4, .slice A0_5 l0_5.length c0_5] 28 (0, 0)) qQx10s1_ k_ hk, Kd.freshB (g := gb157) (o := .cells #[.int .i64 0, .int .i64 0, .int .i64 0, .string (⟨#[]⟩ : ByteArray), .slice none 0 0, .slice none 0 0] 28 (0, 0)) qQx10s3_ k_ hk, Kd.freshB (g := gb164) (o := .cells #[.int .i64 a0_0, .int .i64 a0_1, .int .i64 a0_2, .string a0_3, u165004, .slice Ao12 y161.length co12] 28 (0, 0)) qQx10s5_ k_ hk⟩)))
       (case aO => exact (by (with_reducible repeat (first | apply Kd.R_alloc | apply Kd.R_drewN | apply Kd.R_drew)); exact Kd.R_mono HO_165004.out (fun _ hk => ⟨hk.1.1.1, ⟨hk.1.1.2.1, ⟨hk.1.1.2.2.1, hk.1.1.2.2.2⟩⟩⟩)))
       (case aS => exact (by exact (below_size qQx10s0_)))
       (case aL => exact (by have := LMc22.out; omega))
       intro v177 w28 ho hb hg hat
       rw [← Ny176.out] at ho
       have n0_ := Aside0.mk (Kd.R_over' qQx10s7_ (Kd.R_typed qQx10s14_) (by decide) hg)
       have n1_ := Aside0.mk (blk_grown (g := gb156) (o := .cells #[.int .i64 a0_0, .int .i64 a0_1, .int .i64 a0_2, .string a0_3, .slice (some ad165) l0_4.length c0_4, .slice A0_5 l0_5.length c0_5] 28 (0, 0)) qQx10s1_ hg (Kd.R_away HO_165004.out (fun _ hk => hk.1.1.2.1)))
       have n2_ := Aside0.mk (blk_grown (g := gb157) (o := .cells #[.int .i64 0, .int .i64 0, .int .i64 0, .string (⟨#[]⟩ : ByteArray), .slice none 0 0, .slice none 0 0] 28 (0, 0)) qQx10s3_ hg (Kd.R_away HO_165004.out (fun _ hk => hk.1.1.2.2.1)))
       have n3_ := Aside0.mk (blk_grown (g := gb164) (o := .cells #[.int .i64 a0_0, .int .i64 a0_1, .int .i64 a0_2, .string a0_3, u165004, .slice Ao12 y161.length co12] 28 (0, 0)) qQx10s5_ hg (Kd.R_away HO_165004.out (fun _ hk => hk.1.1.2.2.2)))
       have n4_ := Aside0.mk (hb)
       have n5_ := Aside0.mk (ho)
       clear HO_165005
       clear BK156
       clear BK157
       clear BK164
       clear HB
       clear HO_165004
       clear HO172
       clear HO175
       have HO_165005 := n0_
       have BK156 := n1_
       have BK157 := n2_
       have BK164 := n3_
       have HB := n4_
       have HO178 := n5_
       clear n0_ n1_ n2_ n3_ n4_ n5_
       clear ho hb hg hat
       obtain ⟨Ao31, co31, eo31⟩ := Kd.R_slice HO178.out
       (first | subst eo31 | (injection eo31 with f1_ f2_ f3_; have f4_ := f1_.symm; have f5_ := f3_.symm; clear f1_ f2_ f3_; subst f4_; subst f5_))
       refine hK.out _ _ ⟨(blk_cell BK164.out 0).trans rfl, (blk_cell BK164.out 1).trans rfl, (blk_cell BK164.out 2).trans rfl, (blk_cell BK164.out 3).trans rfl, (blk_cell BK164.out 4).trans rfl, (blk_cell BK164.out 5).trans rfl, (blk_cell BK156.out 0).trans rfl, (blk_cell BK156.out 1).trans rfl, (blk_cell BK156.out 2).trans rfl, (blk_cell BK156.out 3).trans rfl, (blk_cell BK156.out 4).trans rfl, (blk_cell BK156.out 5).trans rfl, ((HB.out.cell (World.block_lt_of_cell? w _ hw165_0)).trans hw165_0), ((HB.out.cell (World.block_lt_of_cell? w _ hw165_1)).trans hw165_1), ((HB.out.cell (World.block_lt_of_cell? w _ hw165_2)).trans hw165_2), ((HB.out.cell (World.block_lt_of_cell? w _ hw165_3)).trans hw165_3), ((HB.out.cell (World.block_lt_of_cell? w _ hw165_4)).trans hw165_4), ((HB.out.cell (World.block_lt_of_cell? w _ hw165_5)).trans hw165_5)⟩ (fun hHeld => ?_)
       clear hK K
       refine norm_ (a' := ?_) ?_ ?_
       rotate_left
       ·show Act.put _ (some 32) _ = _
        simp only [Act.put, List.setIfInBounds_toArray, List.set_cons_zero, List.set_cons_succ, i64_w, i32_w]
        rfl
       refine pure_ (i := 10) (N := some 33) (v := ?_) (a' := ?_) #[true, true, true, true, true, true, true, true, true, true, true, false] rfl rfl (any_of HT_.out (by kernel_rfl)) (fun _ _ _ h => h) (Or.inl ⟨by rfl, ?_⟩) ?_ ?_
       rotate_left
       ·intro w'
        go_simp
        with_reducible rfl
       rotate_left
       ·simp only [Act.put, List.setIfInBounds_toArray, List.set_cons_zero, List.set_cons_succ, i64_w, i32_w]
        rfl
       refine last_ (i := 11) (N := none) #[true, true, true, true, true, true, true, true, true, true, true, true] rfl rfl (one_of HT_.out (by kernel_rfl)) (by decide) (fun K hK => ?_)
       have hs32 : w28.cell? ⟨gb164, 4, none⟩ = some (u165004) := (blk_cell BK164.out 4).trans rfl
       have hfs32 := blk_frozen BK164.out 4
       have hns32_0 := NB156_164.out
       have hns32_1 := NB157_164.out
       have hms32_0 := NB164_156.out
       have hms32_1 := NB164_157.out
       refine skip_ (w1 := ?_) (by rfl) rfl ?_ ?_
       rotate_left
       ·go_simp
        rfl
       refine hK.out _ _ ?_
       clear hK K
       refine done_ (done_of HT_.out (by kernel_rfl)) ?_
       try go_wp2
       go_roundg k1
       case measure => have := HK1.out; omega
       case rel => exact ⟨(wrap64 (x4_1 + 1)), (y176), (.slice Ao31 y176.length co31), (by first | rfl | (simp; done) | (simp [*]; done)), H', ⟨by have := HK1.out; omega⟩, ⟨(by (with_reducible repeat (first | apply Kd.R_alloc | apply Kd.R_drewN | apply Kd.R_drew)); exact Kd.R_mono (Kd.R_far (p := ⟨gb164, 4, none⟩) (Kd.R_mono HO178.out (fun k_ hk => (⟨hk, hk.2.2.2⟩ : _ ∧ k_ ≠ gb164))) (fun _ hk => hk.2) (.slice Ao31 y176.length co31)) (fun _ hk => ⟨hk.1.1, ⟨hk.1.2.1, ⟨hk.1.2.2.1, hk.1.2.2.2⟩⟩⟩))⟩, ⟨(by (with_reducible repeat (first | apply Kd.R_alloc | apply Kd.R_drewN | apply Kd.R_drew)); exact Kd.R_mono (Kd.R_far (p := ⟨gb164, 4, none⟩) (Kd.R_types HO_165005.out BK164.out (by decide)) (fun _ hk => hk.2) (.slice Ao31 y176.length co31)) (fun _ hk => trivial))⟩, ⟨(by (with_reducible repeat (first | refine blk_drewN ?_ _ | refine blk_drew ?_ | refine blk_alloc ?_ _)); refine blk_far ?_ NB156_164.out _; (with_reducible repeat (first | refine blk_drewN ?_ _ | refine blk_drew ?_ | refine blk_alloc ?_ _)); exact BK156.out)⟩, ⟨(by (with_reducible repeat (first | refine blk_drewN ?_ _ | refine blk_drew ?_ | refine blk_alloc ?_ _)); refine blk_far ?_ NB157_164.out _; (with_reducible repeat (first | refine blk_drewN ?_ _ | refine blk_drew ?_ | refine blk_alloc ?_ _)); exact BK157.out)⟩, ⟨(by (with_reducible repeat (first | refine blk_drewN ?_ _ | refine blk_drew ?_ | refine blk_alloc ?_ _)); refine blk_put (cs := #[.int .i64 a0_0, .int .i64 a0_1, .int .i64 a0_2, .string a0_3, u165004, .slice Ao12 y161.length co12]) ?_ 4 _ rfl; (with_reducible repeat (first | refine blk_drewN ?_ _ | refine blk_drew ?_ | refine blk_alloc ?_ _)); exact BK164.out)⟩, ⟨qQx10s0_⟩⟩
      ·rw [if_neg c22] at H
       exact absurd H (by simp)
     ·rw [if_neg c20] at H
      exact absurd H (by simp)
    ·rw [if_neg c19] at H
     have c19b0 : decide (x4_1 < (l0_4.length : Int)) = false := decide_eq_false c19
     clear c19
     simp only [Option.some.injEq, Prod.mk.injEq] at H
     obtain ⟨rfl, rfl, rfl, rfl, rfl, rfl⟩ := H
     have hnb33 := NB156_157.out
     have hnc33 := NB157_156.out
     have hnb34 := NB156_164.out
     have hnc34 := NB164_156.out
     have hcz35_0 : wr.cell? ⟨gb156, 0, none⟩ = some (.int .i64 a0_0) := (blk_cell BK156.out 0).trans rfl
     have hcz35_1 : wr.cell? ⟨gb156, 1, none⟩ = some (.int .i64 a0_1) := (blk_cell BK156.out 1).trans rfl
     have hcz35_2 : wr.cell? ⟨gb156, 2, none⟩ = some (.int .i64 a0_2) := (blk_cell BK156.out 2).trans rfl
     have hcz35_3 : wr.cell? ⟨gb156, 3, none⟩ = some (.string a0_3) := (blk_cell BK156.out 3).trans rfl
     have hcz35_4 : wr.cell? ⟨gb156, 4, none⟩ = some (.slice A0_4 l0_4.length c0_4) := (blk_cell BK156.out 4).trans rfl
     have hcz35_5 : wr.cell? ⟨gb156, 5, none⟩ = some (.slice A0_5 l0_5.length c0_5) := (blk_cell BK156.out 5).trans rfl
     have hfz35_0 := blk_frozen BK156.out 0
     have hfz35_1 := blk_frozen BK156.out 1
     have hfz35_2 := blk_frozen BK156.out 2
     have hfz35_3 := blk_frozen BK156.out 3
     have hfz35_4 := blk_frozen BK156.out 4
     have hfz35_5 := blk_frozen BK156.out 5
     have hnb36 := NB164_157.out
     have hnc36 := NB157_164.out
     have hcz37_0 : wr.cell? ⟨gb164, 0, none⟩ = some (.int .i64 a0_0) := (blk_cell BK164.out 0).trans rfl
     have hcz37_1 : wr.cell? ⟨gb164, 1, none⟩ = some (.int .i64 a0_1) := (blk_cell BK164.out 1).trans rfl
     have hcz37_2 : wr.cell? ⟨gb164, 2, none⟩ = some (.int .i64 a0_2) := (blk_cell BK164.out 2).trans rfl
     have hcz37_3 : wr.cell? ⟨gb164, 3, none⟩ = some (.string a0_3) := (blk_cell BK164.out 3).trans rfl
     have hcz37_4 : wr.cell? ⟨gb164, 4, none⟩ = some (u165004) := (blk_cell BK164.out 4).trans rfl
     have hcz37_5 : wr.cell? ⟨gb164, 5, none⟩ = some (.slice Ao12 y161.length co12) := (blk_cell BK164.out 5).trans rfl
     have hfz37_0 := blk_frozen BK164.out 0
     have hfz37_1 := blk_frozen BK164.out 1
     have hfz37_2 := blk_frozen BK164.out 2
     have hfz37_3 := blk_frozen BK164.out 3
     have hfz37_4 := blk_frozen BK164.out 4
     have hfz37_5 := blk_frozen BK164.out 5
     have hcz38_0 : wr.cell? ⟨gb157, 0, none⟩ = some (.int .i64 0) := (blk_cell BK157.out 0).trans rfl
     have hcz38_1 : wr.cell? ⟨gb157, 1, none⟩ = some (.int .i64 0) := (blk_cell BK157.out 1).trans rfl
     have hcz38_2 : wr.cell? ⟨gb157, 2, none⟩ = some (.int .i64 0) := (blk_cell BK157.out 2).trans rfl
     have hcz38_3 : wr.cell? ⟨gb157, 3, none⟩ = some (.string (⟨#[]⟩ : ByteArray)) := (blk_cell BK157.out 3).trans rfl
     have hcz38_4 : wr.cell? ⟨gb157, 4, none⟩ = some (.slice none 0 0) := (blk_cell BK157.out 4).trans rfl
     have hcz38_5 : wr.cell? ⟨gb157, 5, none⟩ = some (.slice none 0 0) := (blk_cell BK157.out 5).trans rfl
     have hfz38_0 := blk_frozen BK157.out 0
     have hfz38_1 := blk_frozen BK157.out 1
     have hfz38_2 := blk_frozen BK157.out 2
     have hfz38_3 := blk_frozen BK157.out 3
     have hfz38_4 := blk_frozen BK157.out 4
     have hfz38_5 := blk_frozen BK157.out 5
     obtain ⟨Ao39, co39, eo39⟩ := Kd.R_slice HO_165004.out
     subst eo39
     go_wp2
     refine bodyPost_ret (results_cell_row rfl _ _ gb157 28 #[.int .i64 a0_0, .int .i64 a0_1, .int .i64 a0_2, .string a0_3, .slice Ao39 x165004_1.length co39, .slice Ao12 y161.length co12] (0, 0) _ rfl (by (with_reducible repeat (first | refine blk_drewN ?_ _ | refine blk_drew ?_ | refine blk_alloc ?_ _)); refine blk_put (cs := #[.int .i64 a0_0, .int .i64 a0_1, .int .i64 a0_2, .string a0_3, .slice Ao39 x165004_1.length co39, .slice none 0 0]) ?_ 5 _ rfl; (with_reducible repeat (first | refine blk_drewN ?_ _ | refine blk_drew ?_ | refine blk_alloc ?_ _)); refine blk_put (cs := #[.int .i64 a0_0, .int .i64 a0_1, .int .i64 a0_2, .string a0_3, .slice none 0 0, .slice none 0 0]) ?_ 4 _ rfl; (with_reducible repeat (first | refine blk_drewN ?_ _ | refine blk_drew ?_ | refine blk_alloc ?_ _)); refine blk_put (cs := #[.int .i64 a0_0, .int .i64 a0_1, .int .i64 a0_2, .string (⟨#[]⟩ : ByteArray), .slice none 0 0, .slice none 0 0]) ?_ 3 _ rfl; (with_reducible repeat (first | refine blk_drewN ?_ _ | refine blk_drew ?_ | refine blk_alloc ?_ _)); refine blk_put (cs := #[.int .i64 a0_0, .int .i64 a0_1, .int .i64 0, .string (⟨#[]⟩ : ByteArray), .slice none 0 0, .slice none 0 0]) ?_ 2 _ rfl; (with_reducible repeat (first | refine blk_drewN ?_ _ | refine blk_drew ?_ | refine blk_alloc ?_ _)); refine blk_put (cs := #[.int .i64 a0_0, .int .i64 0, .int .i64 0, .string (⟨#[]⟩ : ByteArray), .slice none 0 0, .slice none 0 0]) ?_ 1 _ rfl; (with_reducible repeat (first | refine blk_drewN ?_ _ | refine blk_drew ?_ | refine blk_alloc ?_ _)); refine blk_put (cs := #[.int .i64 0, .int .i64 0, .int .i64 0, .string (⟨#[]⟩ : ByteArray), .slice none 0 0, .slice none 0 0]) ?_ 0 _ rfl; (with_reducible repeat (first | refine blk_drewN ?_ _ | refine blk_drew ?_ | refine blk_alloc ?_ _)); exact BK157.out) Tryd.underlying28 rfl (by kernel_rfl)) rfl ?_
     exact ⟨_, _, (by first | rfl | (simp [errW_none, errW_some] <;> rfl) | (simp [*, errW_none, errW_some] <;> rfl)), (by (with_reducible repeat (first | apply Kd.R_alloc | apply Kd.R_drewN | apply Kd.R_drew)); exact Kd.R_mono (Kd.R_far (p := ⟨gb157, 5, none⟩) (Kd.R_far (p := ⟨gb157, 4, none⟩) (Kd.R_far (p := ⟨gb157, 3, none⟩) (Kd.R_far (p := ⟨gb157, 2, none⟩) (Kd.R_far (p := ⟨gb157, 1, none⟩) (Kd.R_far (p := ⟨gb157, 0, none⟩) (Kd.R_mono HO_165004.out (fun k_ hk => (⟨hk, hk.2.2.1⟩ : _ ∧ k_ ≠ gb157))) (fun _ hk => hk.2) (.int .i64 a0_0)) (fun _ hk => hk.2) (.int .i64 a0_1)) (fun _ hk => hk.2) (.int .i64 a0_2)) (fun _ hk => hk.2) (.string a0_3)) (fun _ hk => hk.2) (.slice Ao39 x165004_1.length co39)) (fun _ hk => hk.2) (.slice Ao12 y161.length co12)) (fun _ hk => hk.1.1)), (by (with_reducible repeat (first | apply Kd.R_alloc | apply Kd.R_drewN | apply Kd.R_drew)); exact Kd.R_mono (Kd.R_far (p := ⟨gb157, 5, none⟩) (Kd.R_far (p := ⟨gb157, 4, none⟩) (Kd.R_far (p := ⟨gb157, 3, none⟩) (Kd.R_far (p := ⟨gb157, 2, none⟩) (Kd.R_far (p := ⟨gb157, 1, none⟩) (Kd.R_far (p := ⟨gb157, 0, none⟩) (Kd.R_types HO_165005.out BK157.out (by decide)) (fun _ hk => hk.2) (.int .i64 a0_0)) (fun _ hk => hk.2) (.int .i64 a0_1)) (fun _ hk => hk.2) (.int .i64 a0_2)) (fun _ hk => hk.2) (.string a0_3)) (fun _ hk => hk.2) (.slice Ao39 x165004_1.length co39)) (fun _ hk => hk.2) (.slice Ao12 y161.length co12)) (fun _ hk => trivial)), qQx10s0_⟩
 ·rw [if_neg c2] at H
  exact absurd H (by simp)

end Go.Proofs.YtebcepbamlokcaaDoor.Q
namespace Go.Proofs.YtebcepbamlokcaaDoor.Q
open Go.RowKit Go.Proofs.YtebcepbamlokcaaDoorW.PrintWords Go.Proofs.YtebcepbamlokcaaDoorW.PrintLast
set_option linter.unusedVariables false
set_option linter.unusedSimpArgs false

theorem copy_step (x : S28) (F : Nat) (hl : x.f3.length ≤ 2097152) (h4 : x.f4.length ≤ 2097152) (hk : ∀ y ∈ x.f3, ∀ k, F ≤ k → spec_l13Copy.f k y.f0 y.f1.f0 y.f1.f1 y.f2 y.f3 y.f4 = some (y.f0, y.f1.f0, y.f1.f1, y.f2, y.f3, y.f4)) :
    ∀ k, F + 2097160 ≤ k → spec_l13Copy.f k x.f0 x.f1.f0 x.f1.f1 x.f2 x.f3 x.f4 = some (x.f0, x.f1.f0, x.f1.f1, x.f2, x.f3, x.f4) := by
  have hloop : ∀ (n i : Nat), i + n = x.f3.length → ∀ k, F + n + 1 ≤ k → spec_l13Copy.l0 k (i : Int) x.f0 x.f1.f0 x.f1.f1 x.f2 x.f3 x.f4 x.f0 x.f1.f0 x.f1.f1 x.f2 (x.f3.take i) x.f4 = some (x.f0, x.f1.f0, x.f1.f1, x.f2, x.f3, x.f4) := by
    intro n
    induction n with
    | zero =>
      intro i hi k hk'
      obtain ⟨k, rfl⟩ : ∃ m, k = m + 1 := ⟨k - 1, by omega⟩
      rw [spec_l13Copy.l0, if_neg (by omega), List.take_of_length_le (by omega)]
    | succ n ih =>
      intro i hi k hk'
      obtain ⟨k, rfl⟩ : ∃ m, k = m + 1 := ⟨k - 1, by omega⟩
      have hlt : i < x.f3.length := by omega
      rw [spec_l13Copy.l0, if_pos (by omega), if_pos (by omega), rdT hlt, hk _ (List.getElem_mem hlt) k (by omega)]
      simp only [Option.bind_some]
      rw [if_pos (by rw [List.length_take]; omega), w64s (by omega)]
      refine Eq.trans ?_ (ih (i + 1) (by omega) k (by omega))
      rw [List.take_succ_eq_append_getElem hlt]
      generalize x.f3[i] = y
      obtain ⟨y0, ⟨ym, ye⟩, yt, ys, yn⟩ := y
      rfl
  intro k hk'
  obtain ⟨k, rfl⟩ : ∃ m, k = m + 1 := ⟨k - 1, by omega⟩
  have := hloop x.f3.length 0 (by omega) k (by omega)
  rw [List.take_zero] at this
  rw [spec_l13Copy.f, Option.bind_some, List.nil_append, if_pos (by simp; omega)]
  exact this
theorem copy_is : ∀ (e : Nat) (x : S28), Sml e x → ∀ k, (e + 1) * 2097160 ≤ k → spec_l13Copy.f k x.f0 x.f1.f0 x.f1.f1 x.f2 x.f3 x.f4 = some (x.f0, x.f1.f0, x.f1.f1, x.f2, x.f3, x.f4)
  | 0, x, h => fun k hk => copy_step x 0 h.l3 h.l4 (fun y hy => by rw [h.1] at hy; cases hy) k (by omega)
  | e + 1, x, h => by
    have ih : ∀ y ∈ x.f3, ∀ k, (e + 1) * 2097160 ≤ k → spec_l13Copy.f k y.f0 y.f1.f0 y.f1.f1 y.f2 y.f3 y.f4 = some (y.f0, y.f1.f0, y.f1.f1, y.f2, y.f3, y.f4) := fun y hy => copy_is e y (h.2.2.2 y hy)
    intro k hk
    rw [Nat.succ_mul] at hk
    generalize (e + 1) * 2097160 = F at ih hk
    exact copy_step x F h.l3 h.l4 ih k hk

theorem nw_len (ns : List ByteArray) : ns.length ≤ nw ns := by unfold nw; omega
theorem nw_size {ns : List ByteArray} {s : ByteArray} (h : s ∈ ns) : s.size ≤ nw ns := by
  have := le_sum_map (α := ByteArray) ByteArray.size h; unfold nw; omega
theorem fit45_of : ∀ (d : Nat) (xs : List S45), Bnd d xs → vw d xs ≤ 1048576 → Fit45 d xs
  | 0, xs, h, _ => h
  | d + 1, xs, h, hw => by
    have hw' : xs.length + (xs.map (xw (vw d))).sum ≤ 1048576 := hw
    refine ⟨by omega, fun x hx => ?_⟩
    have h1 := le_sum_map (xw (vw d)) hx
    have h2 := nw_len x.f4
    unfold xw at h1
    have h3 : x.f2.size + vw d x.f3 + nw x.f4 ≤ (xs.map (xw (vw d))).sum := h1
    exact ⟨by omega, fit45_of d x.f3 (h.2 x hx).2.2.2 (by omega)⟩
theorem sml_of : ∀ (d : Nat) (x : S45), Bnd d x.f3 → x.f2.size + vw d x.f3 + nw x.f4 ≤ 1048576 → Sml d (toV (toL d) x)
  | 0, x, h, hw => ⟨rfl, by have := nw_len x.f4; show x.f4.length ≤ _; omega, fun s hs => by have := nw_size (ns := x.f4) hs; omega⟩
  | d + 1, x, h, hw => by
    have hw' : x.f2.size + (x.f3.length + (x.f3.map (xw (vw d))).sum) + nw x.f4 ≤ 1048576 := hw
    refine ⟨?_, by have := nw_len x.f4; show x.f4.length ≤ _; omega, fun s hs => by have := nw_size (ns := x.f4) hs; omega, ?_⟩
    · show (x.f3.map (toV (toL d))).length ≤ _; rw [List.length_map]; omega
    · intro y hy
      obtain ⟨z, hz, rfl⟩ := List.mem_map.1 (show y ∈ x.f3.map (toV (toL d)) from hy)
      have h1 : z.f2.size + vw d z.f3 + nw z.f4 ≤ (x.f3.map (xw (vw d))).sum := le_sum_map (xw (vw d)) hz
      exact sml_of d z (h.2 z hz).2.2.2 (by omega)
theorem sum_le_sum {α : Type} {f g : α → Nat} : ∀ {l : List α}, (∀ x ∈ l, f x ≤ g x) → (l.map f).sum ≤ (l.map g).sum
  | [], _ => Nat.le_refl _
  | x :: r, h => by
    rw [List.map_cons, List.sum_cons, List.map_cons, List.sum_cons]
    have h1 := h x List.mem_cons_self
    have h2 := sum_le_sum (l := r) (fun y hy => h y (List.mem_cons_of_mem _ hy))
    omega
theorem sum_lin {α : Type} (f : α → Nat) (a b : Nat) : ∀ (l : List α), (l.map (fun x => a + b * f x)).sum = a * l.length + b * (l.map f).sum
  | [] => rfl
  | x :: r => by
    rw [List.map_cons, List.sum_cons, sum_lin f a b r, List.map_cons, List.sum_cons, List.length_cons, Nat.mul_succ, Nat.mul_add]; omega
theorem cnt_of : ∀ (d : Nat) (xs : List S45), cnt d (toL d xs) ≤ 4 * vw d xs
  | 0, xs => Nat.zero_le _
  | d + 1, xs => by
    show ((xs.map (toV (toL d))).map (cntI (cnt d))).sum ≤ 4 * (xs.length + (xs.map (xw (vw d))).sum)
    rw [List.map_map]
    have h : ∀ x ∈ xs, (cntI (cnt d) ∘ toV (toL d)) x ≤ 4 + 4 * xw (vw d) x := fun x _ => by
      show 4 + cnt d (toL d x.f3) + x.f4.length ≤ 4 + 4 * (x.f2.size + vw d x.f3 + nw x.f4)
      have := cnt_of d x.f3
      have := nw_len x.f4
      omega
    refine Nat.le_trans (sum_le_sum h) ?_
    rw [sum_lin]; omega
theorem szT_of : ∀ (d : Nat) (x : S45), szT d (toV (toL d) x) ≤ 1 + vw d x.f3
  | 0, x => Nat.le_add_right _ _
  | d + 1, x => by
    show 1 + ((x.f3.map (toV (toL d))).map (szT d)).sum ≤ 1 + (x.f3.length + (x.f3.map (xw (vw d))).sum)
    rw [List.map_map]
    have h : ∀ z ∈ x.f3, (szT d ∘ toV (toL d)) z ≤ 1 + 1 * xw (vw d) z := fun z _ => by
      have := szT_of d z
      show szT d (toV (toL d) z) ≤ 1 + 1 * (z.f2.size + vw d z.f3 + nw z.f4)
      omega
    have := sum_le_sum h
    rw [sum_lin] at this; omega
theorem Fit.mono : ∀ (e d : Nat) {xs : List S28}, e ≤ d → Fit e xs → Fit d xs
  | 0, 0, xs, _, h => h
  | 0, d + 1, xs, _, h => by rw [show xs = [] from h]; exact ⟨Nat.zero_le _, fun x hx => by cases hx⟩
  | e + 1, 0, _, hd, _ => absurd hd (by omega)
  | e + 1, d + 1, xs, hd, h => ⟨h.1, fun x hx => ⟨(h.2 x hx).1, Fit.mono e d (by omega) (h.2 x hx).2⟩⟩
theorem cnt_mono : ∀ (e d : Nat) {xs : List S28}, e ≤ d → Fit e xs → cnt d xs = cnt e xs
  | 0, 0, xs, _, h => rfl
  | 0, d + 1, xs, _, h => by rw [show xs = [] from h]; rfl
  | e + 1, 0, _, hd, _ => absurd hd (by omega)
  | e + 1, d + 1, xs, hd, h => by
    show (xs.map (cntI (cnt d))).sum = (xs.map (cntI (cnt e))).sum
    refine congrArg List.sum (List.map_congr_left fun x hx => ?_)
    show 4 + cnt d x.f3 + x.f4.length = 4 + cnt e x.f3 + x.f4.length
    rw [cnt_mono e d (by omega) (h.2 x hx).2]

def Gd (d : Nat) (y : S28) : Prop := ∃ e, e ≤ d ∧ Sml e y ∧ allS e y = true ∧ cnt e y.f3 + y.f4.length ≤ 1073741824
theorem allS_node {e : Nat} {y : S28} (h : allS e y = true) : nodeB y = true := by
  cases e with
  | zero => exact h
  | succ e => exact (Bool.and_eq_true _ _ ▸ h).1
theorem Gd.kid {d : Nat} {x y : S28} (h : Gd d x) (hy : y ∈ x.f3) : Gd d y := by
  obtain ⟨e, he, hs, ha, hc⟩ := h
  cases e with
  | zero => rw [hs.1] at hy; cases hy
  | succ e =>
    have ha2 : (nodeB x && x.f3.all (allS e)) = true := ha
    rw [Bool.and_eq_true, List.all_eq_true] at ha2
    have hc2 : (x.f3.map (cntI (cnt e))).sum + x.f4.length ≤ 1073741824 := hc
    have h1 : 4 + cnt e y.f3 + y.f4.length ≤ (x.f3.map (cntI (cnt e))).sum := le_sum_map (cntI (cnt e)) hy
    exact ⟨e, by omega, hs.2.2.2 y hy, ha2.2 y hy, by omega⟩
theorem Gd.fit {d : Nat} {x : S28} (h : Gd d x) : FitV d x := by
  obtain ⟨e, he, hs, ha, hc⟩ := h
  exact ⟨Fit.mono e d he hs.fit, hs.l4, by rw [cnt_mono e d he hs.fit]; exact hc⟩
theorem node_56 {x : S28} (h : nodeB x = true) : (x.f0 = 6 → x.f4.length = x.f3.length) ∧ (x.f0 ≠ 5 → x.f0 ≠ 6 → x.f3.length = 0) := by
  unfold nodeB at h
  have hz : iz x = true → x.f3.length = 0 := fun h => by have := beq_iff_eq.1 h; omega
  constructor
  · intro h6
    rw [if_neg (by rw [h6]; decide), if_neg (by rw [h6]; decide), if_neg (by rw [h6]; decide), if_neg (by rw [h6]; decide), if_pos h6] at h
    simp only [Bool.and_eq_true, decide_eq_true_iff] at h
    omega
  · intro h5 h6
    split at h
    · simp only [Bool.and_eq_true] at h; exact hz h.1.2
    · split at h
      · simp only [Bool.and_eq_true] at h; exact hz h.1.2
      · split at h
        · simp only [Bool.and_eq_true] at h; exact hz h.1.2
        · first | (cases h; done) | (rw [if_neg h5, if_neg h6] at h; cases h)
theorem Gd.lt {d : Nat} {x : S28} (h : Gd d x) (s : ByteArray) : plP x s < (x.f3.length : Int) := by
  obtain ⟨e, he, hs, ha, hc⟩ := h
  exact plP_lt x s (node_56 (allS_node ha)).1
theorem good_Gd (d : Nat) (path : List ByteArray) : Good (Gd d) d plP path := ⟨fun x h y hy => h.kid hy, fun x h => ⟨h.fit.f3, h.fit.f4⟩, fun x h s _ => h.lt s⟩
theorem at_good (d : Nat) : ∀ (path : List ByteArray) (x y : S28), Gd d x → At plP x path = some y → Gd d y
  | [], x, y, h, he => by injection he with he; rw [← he]; exact h
  | s :: r, x, y, h, he => by
    unfold At at he
    by_cases hp : plP x s < 0
    · rw [if_pos hp] at he; cases he
    · rw [if_neg hp] at he
      have hl := h.lt s
      have hm : (plP x s).toNat < x.f3.length := by omega
      have hr : rd_T28 x.f3 (plP x s) = x.f3[(plP x s).toNat] := by
        have := rdT hm
        rw [Int.toNat_of_nonneg (by omega)] at this
        exact this
      exact at_good d r _ y (h.kid (by rw [hr]; exact List.getElem_mem hm)) he
theorem fit_zero (d : Nat) : FitV d z28 := by
  cases d with
  | zero => exact ⟨rfl, Nat.zero_le _, Nat.zero_le _⟩
  | succ d => exact ⟨⟨Nat.zero_le _, fun x hx => by cases hx⟩, Nat.zero_le _, Nat.zero_le _⟩

end Go.Proofs.YtebcepbamlokcaaDoor.Q
namespace Go.Proofs.YtebcepbamlokcaaDoor.Q
open Go.Joins Go.ChangeShapes Go.WideShapes Go.RowKit Go.Deep Go.Proofs.YtebcepbamlokcaaDoorW.PrintWords Go.Proofs.YtebcepbamlokcaaDoorW.PrintLast
set_option linter.unusedVariables false
set_option linter.unusedSimpArgs false

abbrev RB : Nat := 140737488351232
theorem wAll_mem {H : Type} {P : Program} {e : TypeId} : ∀ {l : List (DataW H)} {d : DataW H} {n : Nat}, d ∈ l → n ∈ d.weights P e → n ∈ DataW.weightsAll P e l
  | x :: r, d, n, h, hn => by
    unfold DataW.weightsAll
    rcases List.mem_cons.1 h with rfl | h
    · exact List.mem_append_left _ hn
    · exact List.mem_append_right _ (wAll_mem h hn)
theorem w_slice {H : Type} {P : Program} {t e : TypeId} {el sp : List (DataW H)} (ht : P.underlying t = some (.slice e)) (h : ∀ n ∈ (DataW.slice el sp).weights P t, n ≤ RB) :
    (el.length + sp.length) * P.bytesOf e ≤ RB ∧ (∀ d ∈ el, ∀ n ∈ d.weights P e, n ≤ RB) := by
  have hw : (DataW.slice el sp).weights P t = (el.length + sp.length) * P.bytesOf e :: (DataW.weightsAll P e el ++ DataW.weightsAll P e sp) := by
    simp [DataW.weights, ht]
  rw [hw] at h
  exact ⟨h _ List.mem_cons_self, fun d hd n hn => h n (List.mem_cons_of_mem _ (List.mem_append_left _ (wAll_mem hd hn)))⟩
theorem w_str {H : Type} {P : Program} {t : TypeId} {b : List UInt8} (h : ∀ n ∈ (DataW.lit (.string b) : DataW H).weights P t, n ≤ RB) : b.length ≤ RB := by
  have hw : (DataW.lit (.string b) : DataW H).weights P t = [b.length] := by simp [DataW.weights]
  exact h _ (by rw [hw]; exact List.mem_cons_self)
theorem size_data (s : ByteArray) : s.data.toList.length = s.size := by
  have : s.size = s.data.toList.length := by simp
  exact this.symm

section
variable {H : Type} {enc : TypeId × Value → H} {W : World} {held : Bool}
theorem open_names {fuel : Nat} {cs : List Value} {x : DataW H × List MemPlace} (h : DataW.trod enc Tryd.prog W 0 (fun _ => true) held fuel 26 cs = some x) (hw : ∀ n ∈ x.1.weights Tryd.prog 26, n ≤ RB) :
    ∃ (A : Option Addr) (c : Nat) (ns : List ByteArray), cs = [.slice A ns.length c] ∧ ns.length ≤ c ∧ Kd.C Kd.string W A ns.length ns ∧ ns.length ≤ RB ∧ ∀ s ∈ ns, s.size ≤ RB := by
  rcases open_strings Tryd.underlying26 Tryd.underlying9 (by kernel_rfl) h with ⟨hcs, _⟩ | ⟨a, len, cap, ss, hcs, _, hl, hm, hz, hx, hcell, hsz⟩
  · exact ⟨none, 0, [], hcs, Nat.le_refl _, Kd.C_nil' _ _ _, Nat.zero_le _, fun s hs => by cases hs⟩
  · have hz' : ss.length = cap := by simpa using hz
    have hlen : (ss.take len).length = len := by rw [List.length_take]; omega
    rw [hx] at hw
    obtain ⟨h1, h2⟩ := w_slice Tryd.underlying26 hw
    have hb : Tryd.prog.bytesOf 9 = 16 := by kernel_rfl
    rw [hb] at h1
    have hl1 : (strs (H := H) (ss.take len)).length = len := by unfold strs; rw [List.length_map, hlen]
    refine ⟨some a, cap, ss.take len, by rw [hlen]; exact hcs, by rw [hlen]; exact hl, ?_, by rw [hlen]; show len ≤ 140737488351232; have h1' : ((strs (H := H) (ss.take len)).length + (strs (H := H) (ss.drop len)).length) * 16 ≤ 140737488351232 := h1; omega, ?_⟩
    · have hmx : len ≤ 9223372036854775807 := by have : maxLen ≤ 9223372036854775807 := by decide
                                                 omega
      refine ⟨rfl, by rw [hlen]; exact hmx, fun _ => ⟨a, rfl, fun j p hj => ⟨[.string p], rfl, rfl, fun i u hu => ?_⟩⟩⟩
      have hi : i = 0 := by
        rcases i with _ | i
        · rfl
        · simp at hu
      subst hi
      have hjl : j < len := by have := (List.getElem?_eq_some_iff.1 hj).1; omega
      have hc := hcell j (by omega)
      have hp : ss.getD j ByteArray.empty = p := by
        rw [List.getElem?_take_of_lt hjl] at hj
        rw [List.getD_eq_getElem?_getD, hj]; rfl
      rw [hp] at hc
      have hu' : u = .string p := by simpa using hu.symm
      rw [hu']
      show W.cell? (a.add (j * 1 + 0)) = _
      rw [Nat.mul_one, Nat.add_zero]; exact hc
    · intro s hs
      have := w_str (h2 (.lit (.string s.data.toList)) (List.mem_map.2 ⟨s, hs, rfl⟩))
      rwa [size_data] at this

def OpenV (H : Type) (enc : TypeId × Value → H) (W : World) (held : Bool) (fuel : Nat) : Prop := ∀ (cs : List Value) (x : DataW H × List MemPlace), DataW.trod enc Tryd.prog W 0 (fun _ => true) held fuel 45 cs = some x → (∀ n ∈ x.1.weights Tryd.prog 45, n ≤ RB) →
  ∃ (a : S45) (A4 : Option Addr) (c4 : Nat) (A5 : Option Addr) (c5 : Nat), cs = [.int .i64 a.f0, .int .i64 a.f1.f0, .int .i64 a.f1.f1, .string a.f2, .slice A4 a.f3.length c4, .slice A5 a.f4.length c5] ∧ a.f3.length ≤ c4 ∧ Kd.C k45 W A4 a.f3.length a.f3 ∧ a.f4.length ≤ c5 ∧ Kd.C Kd.string W A5 a.f4.length a.f4 ∧
    a.f2.size ≤ RB ∧ a.f4.length ≤ RB ∧ (∀ s ∈ a.f4, s.size ≤ RB) ∧ Bnd fuel a.f3
def OpenR (H : Type) (enc : TypeId × Value → H) (W : World) (held : Bool) (fuel : Nat) : Prop := ∀ (cs : List Value) (x : DataW H × List MemPlace), DataW.trod enc Tryd.prog W 0 (fun _ => true) held fuel 43 cs = some x → (∀ n ∈ x.1.weights Tryd.prog 43, n ≤ RB) →
  ∃ (A : Option Addr) (c : Nat) (xs : List S45), cs = [.slice A xs.length c] ∧ xs.length ≤ c ∧ Kd.C k45 W A xs.length xs ∧ Bnd fuel xs
theorem Bnd.succ : ∀ (d : Nat) {xs : List S45}, Bnd d xs → Bnd (d + 1) xs
  | 0, xs, h => by rw [show xs = [] from h]; exact ⟨Nat.zero_le _, fun x hx => by cases hx⟩
  | d + 1, xs, h => ⟨h.1, fun x hx => ⟨(h.2 x hx).1, (h.2 x hx).2.1, (h.2 x hx).2.2.1, Bnd.succ d (h.2 x hx).2.2.2⟩⟩
theorem Bnd.nil (d : Nat) : Bnd d [] := by
  cases d with
  | zero => rfl
  | succ d => exact ⟨Nat.zero_le _, fun x hx => by cases hx⟩
instance : Inhabited S45 := ⟨z45⟩
theorem openR_succ {n : Nat} (ih : OpenV H enc W held n) : OpenR H enc W held (n + 1) := by
  intro cs x h hw
  rcases DataW.trod_slice Tryd.underlying43 h with ⟨hcs, _⟩ | ⟨a, len, cap, elems, rest, m, hn, hcs, hx, _, hl, hm, hlen, hel, hsp, _⟩
  · exact ⟨none, 0, [], hcs, Nat.le_refl _, Kd.C_nil' _ _ _, Bnd.nil _⟩
  · obtain rfl : m = n := by omega
    rw [hx] at hw
    obtain ⟨h1, h2⟩ := w_slice Tryd.underlying43 hw
    have hb : Tryd.prog.bytesOf 45 = 88 := by kernel_rfl
    have hc6 : Tryd.prog.cellsOf 45 = 6 := by kernel_rfl
    rw [hb, List.length_map, List.length_map, hlen] at h1
    rw [hc6] at hel
    have hit : ∀ i, i < len → ∃ (s : S45), (∃ cs', W.cells? 0 (a.add (i * 6)) 6 = some cs' ∧ k45.K W s cs') ∧ s.f2.size ≤ RB ∧ s.f4.length ≤ RB ∧ (∀ t ∈ s.f4, t.size ≤ RB) ∧ Bnd m s.f3 := fun i hi => by
      have he := hel i hi
      have hi' : i < elems.length := by omega
      rw [List.getElem?_eq_getElem hi'] at he
      obtain ⟨cs', hc1, hc2⟩ := Option.bind_eq_some_iff.1 he
      obtain ⟨s, A4, c4, A5, c5, hcs', l4, g4, l5, g5, b1, b2, b3, b4⟩ := ih cs' _ hc2 (h2 _ (List.mem_map.2 ⟨_, List.getElem_mem hi', rfl⟩))
      refine ⟨s, ⟨cs', hc1, ?_⟩, b1, b2, b3, b4⟩
      rw [hcs']
      exact k45_mk W s l4 g4 l5 g5
    obtain ⟨f, hf⟩ := choose_lt hit
    have hxl : ((List.range len).map f).length = len := by rw [List.length_map, List.length_range]
    have hmx : len ≤ 9223372036854775807 := by have : maxLen ≤ 9223372036854775807 := by decide
                                               omega
    refine ⟨some a, cap, (List.range len).map f, by rw [hxl]; exact hcs, by rw [hxl]; exact hl, ⟨rfl, by rw [hxl]; exact hmx, fun _ => ⟨a, rfl, fun j p hj => ?_⟩⟩, ⟨by rw [hxl]; show len ≤ 140737488351232; have h1' : (len + rest.length) * 88 ≤ 140737488351232 := h1; omega, fun x hx => ?_⟩⟩
    · have hjl : j < len := by have := (List.getElem?_eq_some_iff.1 hj).1; omega
      have hp : f j = p := by
        rw [List.getElem?_map, List.getElem?_range hjl] at hj
        exact Option.some.inj hj
      obtain ⟨⟨cs', hc1, hc2⟩, _⟩ := hf j hjl
      rw [hp] at hc2
      obtain ⟨_, hcl, hat⟩ := World.cells?_some hc1
      refine ⟨cs', hcl.trans (show 6 = k45.sz from rfl), hc2, fun i u hu => ?_⟩
      have hi6 : i < 6 := by have := (List.getElem?_eq_some_iff.1 hu).1; omega
      have := hat i hi6
      rw [hu, Go.Deep.add_add] at this
      exact this
    · obtain ⟨i, hi, rfl⟩ := List.mem_map.1 hx
      exact (hf i (List.mem_range.1 hi)).2
theorem list6 {α : Type} : ∀ {cs : List α}, cs.length = 6 → ∃ a b c d e f, cs = [a, b, c, d, e, f]
  | [a, b, c, d, e, f], _ => ⟨a, b, c, d, e, f, rfl⟩
theorem list5 {α : Type} : ∀ {cs : List α}, cs.length = 5 → ∃ a b c d e, cs = [a, b, c, d, e]
  | [a, b, c, d, e], _ => ⟨a, b, c, d, e, rfl⟩
theorem openV_succ {n : Nat} (ih : OpenR H enc W held n) : OpenV H enc W held (n + 1) := by
  intro cs x h hw
  obtain ⟨xs, m, hn, hx, hlen, hxl, hf⟩ := DataW.trod_struct Tryd.underlying45 h
  obtain rfl : m = n := by omega
  have hc6 : Tryd.prog.cellsOf 45 = 6 := by kernel_rfl
  have hc1 : Tryd.prog.cellsOf 3 = 1 := by kernel_rfl
  have hc2 : Tryd.prog.cellsOf 42 = 2 := by kernel_rfl
  have hc3 : Tryd.prog.cellsOf 9 = 1 := by kernel_rfl
  have hc4 : Tryd.prog.cellsOf 43 = 1 := by kernel_rfl
  have hc5 : Tryd.prog.cellsOf 26 = 1 := by kernel_rfl
  rw [hc6] at hlen
  obtain ⟨v0, v1, v2, v3, v4, v5, rfl⟩ := list6 hlen
  obtain ⟨y0, y1, y2, y3, y4, rfl⟩ := list5 hxl
  have g0 : DataW.trod enc Tryd.prog W 0 (fun _ => true) held m 3 (([v0, v1, v2, v3, v4, v5].drop 0).take (Tryd.prog.cellsOf 3)) = some y0 := hf 0 _ rfl
  rw [hc1] at g0
  replace g0 : DataW.trod enc Tryd.prog W 0 (fun _ => true) held m 3 [v0] = some y0 := g0
  have g1 : DataW.trod enc Tryd.prog W 0 (fun _ => true) held m 42 (([v0, v1, v2, v3, v4, v5].drop 1).take (Tryd.prog.cellsOf 42)) = some y1 := hf 1 _ rfl
  rw [hc2] at g1
  replace g1 : DataW.trod enc Tryd.prog W 0 (fun _ => true) held m 42 [v1, v2] = some y1 := g1
  have g2 : DataW.trod enc Tryd.prog W 0 (fun _ => true) held m 9 (([v0, v1, v2, v3, v4, v5].drop 3).take (Tryd.prog.cellsOf 9)) = some y2 := hf 2 _ rfl
  rw [hc3] at g2
  replace g2 : DataW.trod enc Tryd.prog W 0 (fun _ => true) held m 9 [v3] = some y2 := g2
  have g3 : DataW.trod enc Tryd.prog W 0 (fun _ => true) held m 43 (([v0, v1, v2, v3, v4, v5].drop 4).take (Tryd.prog.cellsOf 43)) = some y3 := hf 3 _ rfl
  rw [hc4] at g3
  replace g3 : DataW.trod enc Tryd.prog W 0 (fun _ => true) held m 43 [v4] = some y3 := g3
  have g4 : DataW.trod enc Tryd.prog W 0 (fun _ => true) held m 26 (([v0, v1, v2, v3, v4, v5].drop 5).take (Tryd.prog.cellsOf 26)) = some y4 := hf 4 _ rfl
  rw [hc5] at g4
  replace g4 : DataW.trod enc Tryd.prog W 0 (fun _ => true) held m 26 [v5] = some y4 := g4
  rw [hx] at hw
  have hwt : (DataW.agg (List.map (fun x => x.1) [y0, y1, y2, y3, y4])).weights Tryd.prog 45 = y0.1.weights Tryd.prog 3 ++ (y1.1.weights Tryd.prog 42 ++ (y2.1.weights Tryd.prog 9 ++ (y3.1.weights Tryd.prog 43 ++ (y4.1.weights Tryd.prog 26 ++ [])))) := by
    simp [DataW.weights, Tryd.underlying45, DataW.weightsEach]
  have hw' : ∀ k ∈ y0.1.weights Tryd.prog 3 ++ (y1.1.weights Tryd.prog 42 ++ (y2.1.weights Tryd.prog 9 ++ (y3.1.weights Tryd.prog 43 ++ (y4.1.weights Tryd.prog 26 ++ [])))), k ≤ RB := fun k hk => hw k (by rw [hwt]; exact hk)
  obtain ⟨n0, e0, _, _⟩ := DataW.trod_int Tryd.underlying3 g0
  obtain ⟨u0, u1, k, _, _, t0, t1⟩ := trod_struct2 Tryd.underlying42 g1
  replace t0 : DataW.trod enc Tryd.prog W 0 (fun _ => true) held k 3 (([v1, v2].drop 0).take (Tryd.prog.cellsOf 3)) = some u0 := t0
  replace t1 : DataW.trod enc Tryd.prog W 0 (fun _ => true) held k 3 (([v1, v2].drop 1).take (Tryd.prog.cellsOf 3)) = some u1 := t1
  rw [hc1] at t0 t1
  replace t0 : DataW.trod enc Tryd.prog W 0 (fun _ => true) held k 3 [v1] = some u0 := t0
  replace t1 : DataW.trod enc Tryd.prog W 0 (fun _ => true) held k 3 [v2] = some u1 := t1
  obtain ⟨n1, e1, _, _⟩ := DataW.trod_int Tryd.underlying3 t0
  obtain ⟨n2, e2, _, _⟩ := DataW.trod_int Tryd.underlying3 t1
  obtain ⟨s, e3, hs, _⟩ := DataW.trod_string Tryd.underlying9 g2
  obtain ⟨A4, c4, xs4, e4, l4, k4, b4⟩ := ih _ _ g3 (fun k hk => hw' k (List.mem_append_right _ (List.mem_append_right _ (List.mem_append_right _ (List.mem_append_left _ hk)))))
  obtain ⟨A5, c5, ns, e5, l5, k5, b5, b6⟩ := open_names g4 (fun k hk => hw' k (List.mem_append_right _ (List.mem_append_right _ (List.mem_append_right _ (List.mem_append_right _ (List.mem_append_left _ hk))))))
  have hsz := w_str (P := Tryd.prog) (t := 9) (b := s.data.toList) (H := H) (fun k hk => hw' k (List.mem_append_right _ (List.mem_append_right _ (List.mem_append_left _ (by rw [hs]; exact hk)))))
  rw [size_data] at hsz
  injection e0 with e0; injection e1 with e1; injection e2 with e2; injection e3 with e3; injection e4 with e4; injection e5 with e5
  subst e0 e1 e2 e3 e4 e5
  exact ⟨⟨n0, ⟨n1, n2⟩, s, xs4, ns⟩, A4, c4, A5, c5, rfl, l4, k4, l5, k5, hsz, b5, b6, Bnd.succ m b4⟩
theorem open_both (H : Type) (enc : TypeId × Value → H) (W : World) (held : Bool) : ∀ n, OpenV H enc W held n ∧ OpenR H enc W held n
  | 0 => ⟨fun cs x h => by simp [DataW.trod] at h, fun cs x h => by simp [DataW.trod] at h⟩
  | n + 1 => ⟨openV_succ (open_both H enc W held n).2, openR_succ (open_both H enc W held n).1⟩
end
end Go.Proofs.YtebcepbamlokcaaDoor.Q
namespace Go.Proofs.YtebcepbamlokcaaDoor.Q
open Go.RowKit Go.Proofs.YtebcepbamlokcaaDoorW.PrintWords Go.Proofs.YtebcepbamlokcaaDoorW.PrintLast
set_option linter.unusedVariables false
set_option linter.unusedSimpArgs false

theorem rd_or (xs : List S28) (i : Int) : (i.toNat < xs.length ∧ rd_T28 xs i ∈ xs ∧ xs[i.toNat]? = some (rd_T28 xs i)) ∨ (xs.length ≤ i.toNat ∧ rd_T28 xs i = z28) := by
  unfold rd_T28
  rw [List.getD_eq_getElem?_getD]
  rcases Nat.lt_or_ge i.toNat xs.length with h | h
  · rw [List.getElem?_eq_getElem h]; exact .inl ⟨h, List.getElem_mem h, rfl⟩
  · rw [List.getElem?_eq_none h]; exact .inr ⟨h, rfl⟩
theorem mem_set_or {α : Type} {y z : α} : ∀ {l : List α} {i : Nat}, z ∈ l.set i y → z ∈ l ∨ z = y ∧ i < l.length
  | [], _, h => .inl h
  | a :: r, 0, h => by
    rw [List.set_cons_zero] at h
    rcases List.mem_cons.1 h with rfl | h
    · exact .inr ⟨rfl, Nat.succ_pos _⟩
    · exact .inl (List.mem_cons_of_mem _ h)
  | a :: r, i + 1, h => by
    rw [List.set_cons_succ] at h
    rcases List.mem_cons.1 h with rfl | h
    · exact .inl List.mem_cons_self
    · exact (mem_set_or h).imp (List.mem_cons_of_mem _) (fun h => ⟨h.1, Nat.succ_lt_succ h.2⟩)
theorem sum_set {α : Type} (f : α → Nat) {y : α} : ∀ {l : List α} {i : Nat} {a : α}, l[i]? = some a → ((l.set i y).map f).sum + f a = (l.map f).sum + f y
  | [], _, _, h => by simp at h
  | b :: r, 0, a, h => by
    obtain rfl : b = a := by simpa using h
    rw [List.set_cons_zero, List.map_cons, List.sum_cons, List.map_cons, List.sum_cons]; omega
  | b :: r, i + 1, a, h => by
    have := sum_set f (y := y) (l := r) (i := i) (a := a) (by simpa using h)
    rw [List.set_cons_succ, List.map_cons, List.sum_cons, List.map_cons, List.sum_cons]; omega
theorem set_out {α : Type} {l : List α} {i : Nat} (y : α) (h : l.length ≤ i) : l.set i y = l := by
  refine List.ext_getElem? fun q => ?_
  by_cases hq : q = i
  · subst hq
    rw [List.getElem?_eq_none h, List.getElem?_eq_none (by rw [List.length_set]; exact h)]
  · rw [List.getElem?_set_ne (fun e => hq e.symm)]

theorem Sml.succ : ∀ (e : Nat) {x : S28}, Sml e x → Sml (e + 1) x
  | 0, x, h => ⟨by rw [h.1]; exact Nat.zero_le _, h.2.1, h.2.2, fun y hy => by rw [h.1] at hy; cases hy⟩
  | e + 1, x, h => ⟨h.1, h.2.1, h.2.2.1, fun y hy => Sml.succ e (h.2.2.2 y hy)⟩
theorem Sml.mono {e : Nat} {x : S28} (h : Sml e x) : ∀ {d : Nat}, e ≤ d → Sml d x
  | 0, he => by obtain rfl : e = 0 := by omega
                exact h
  | d + 1, he => by
    rcases Nat.lt_or_ge e (d + 1) with h1 | h1
    · exact Sml.succ d (Sml.mono h (by omega))
    · obtain rfl : e = d + 1 := by omega
      exact h
theorem sml_z (d : Nat) : Sml d z28 := by
  cases d with
  | zero => exact ⟨rfl, Nat.zero_le _, fun s hs => by cases hs⟩
  | succ d => exact ⟨Nat.zero_le _, Nat.zero_le _, fun s hs => (by cases hs), fun y hy => by cases hy⟩
theorem Bnd.mono {e : Nat} {xs : List S45} (h : Bnd e xs) : ∀ {d : Nat}, e ≤ d → Bnd d xs
  | 0, he => by obtain rfl : e = 0 := by omega
                exact h
  | d + 1, he => by
    rcases Nat.lt_or_ge e (d + 1) with h1 | h1
    · exact Bnd.succ d (Bnd.mono h (by omega))
    · obtain rfl : e = d + 1 := by omega
      exact h

theorem toL_succ : ∀ (d : Nat) (xs : List S45), Bnd d xs → toL (d + 1) xs = toL d xs
  | 0, xs, h => by rw [show xs = [] from h]; rfl
  | d + 1, xs, h => by
    show xs.map (toV (toL (d + 1))) = xs.map (toV (toL d))
    refine List.map_congr_left fun x hx => ?_
    unfold toV
    rw [toL_succ d x.f3 (h.2 x hx).2.2.2]
theorem toL_add (d : Nat) (xs : List S45) (h : Bnd d xs) : ∀ n, toL (d + n) xs = toL d xs
  | 0 => rfl
  | n + 1 => (toL_succ (d + n) xs (Bnd.mono h (Nat.le_add_right d n))).trans (toL_add d xs h n)
theorem toV_toL (d n : Nat) (a : S45) (h : Bnd d a.f3) : toV (toL (d + n)) a = toV (toL d) a := by unfold toV; rw [toL_add d a.f3 h n]

theorem with_sml (P : S28 → ByteArray → Int) (d : Nat) (x : S28) (hx : Sml d x) : ∀ (path : List ByteArray) (v : S28), Sml d v → Sml (d + path.length) (withT P v path x)
  | [], v, _ => hx
  | s :: r, v, hv => by
    have hv' := Sml.succ d hv
    refine ⟨by show (v.f3.set _ _).length ≤ _; rw [List.length_set]; exact hv.l3, hv.l4, hv.ns, fun y hy => ?_⟩
    rcases mem_set_or (show y ∈ v.f3.set _ _ from hy) with hy | ⟨rfl, hi⟩
    · exact (hv'.2.2.2 y hy).mono (Nat.le_add_right _ _)
    · rcases rd_or v.f3 (P v s) with h | h
      · have hk : Sml d (rd_T28 v.f3 (P v s)) := hv'.2.2.2 _ h.2.1
        exact with_sml P d x hx r _ hk
      · omega
theorem cnt_succ : ∀ (d : Nat) (xs : List S28), cnt d xs ≤ cnt (d + 1) xs
  | 0, xs => Nat.zero_le _
  | d + 1, xs => sum_le_sum (fun x _ => by show 4 + cnt d x.f3 + x.f4.length ≤ 4 + cnt (d + 1) x.f3 + x.f4.length; have := cnt_succ d x.f3; omega)
theorem with_cnt (P : S28 → ByteArray → Int) (x : S28) : ∀ (path : List ByteArray) (D : Nat) (v : S28), cnt D (withT P v path x).f3 + (withT P v path x).f4.length ≤ cnt D v.f3 + v.f4.length + (cnt D x.f3 + x.f4.length)
  | [], D, v => Nat.le_add_left _ _
  | s :: r, 0, v => by show 0 + v.f4.length ≤ _; omega
  | s :: r, D + 1, v => by
    show ((v.f3.set (P v s).toNat (withT P (rd_T28 v.f3 (P v s)) r x)).map (cntI (cnt D))).sum + v.f4.length ≤ (v.f3.map (cntI (cnt D))).sum + v.f4.length + (cnt (D + 1) x.f3 + x.f4.length)
    rcases rd_or v.f3 (P v s) with h | h
    · have h1 := sum_set (cntI (cnt D)) (y := withT P (rd_T28 v.f3 (P v s)) r x) h.2.2
      have h2 := with_cnt P x r D (rd_T28 v.f3 (P v s))
      have h3 := cnt_succ D x.f3
      unfold cntI at h1 ⊢
      omega
    · rw [set_out _ h.1]; omega
theorem szT_succ : ∀ (d : Nat) (x : S28), szT d x ≤ szT (d + 1) x
  | 0, x => Nat.le_add_right _ _
  | d + 1, x => by
    show 1 + (x.f3.map (szT d)).sum ≤ 1 + (x.f3.map (szT (d + 1))).sum
    have := sum_le_sum (f := szT d) (g := szT (d + 1)) (l := x.f3) (fun y _ => szT_succ d y)
    omega
theorem with_sz (P : S28 → ByteArray → Int) (x : S28) : ∀ (path : List ByteArray) (D : Nat) (v : S28), szT D (withT P v path x) ≤ szT D v + szT D x
  | [], D, v => Nat.le_add_left _ _
  | s :: r, 0, v => by show 1 ≤ 1 + 1; omega
  | s :: r, D + 1, v => by
    show 1 + ((v.f3.set (P v s).toNat (withT P (rd_T28 v.f3 (P v s)) r x)).map (szT D)).sum ≤ 1 + (v.f3.map (szT D)).sum + szT (D + 1) x
    rcases rd_or v.f3 (P v s) with h | h
    · have h1 := sum_set (szT D) (y := withT P (rd_T28 v.f3 (P v s)) r x) h.2.2
      have h2 := with_sz P x r D (rd_T28 v.f3 (P v s))
      have h3 := szT_succ D x
      omega
    · rw [set_out _ h.1]; omega
theorem vw_succ : ∀ (d : Nat) (xs : List S45), vw d xs ≤ vw (d + 1) xs
  | 0, xs => Nat.zero_le _
  | d + 1, xs => by
    show xs.length + (xs.map (xw (vw d))).sum ≤ xs.length + (xs.map (xw (vw (d + 1)))).sum
    have := sum_le_sum (f := xw (vw d)) (g := xw (vw (d + 1))) (l := xs) (fun y _ => by unfold xw; have := vw_succ d y.f3; omega)
    omega
theorem vw_add (d : Nat) (xs : List S45) : ∀ n, vw d xs ≤ vw (d + n) xs
  | 0 => Nat.le_refl _
  | n + 1 => Nat.le_trans (vw_add d xs n) (vw_succ _ xs)
end Go.Proofs.YtebcepbamlokcaaDoor.Q
namespace Go.Proofs.YtebcepbamlokcaaDoor.Q
open Go.RowKit Go.Proofs.YtebcepbamlokcaaDoorW.PrintWords Go.Proofs.YtebcepbamlokcaaDoorW.PrintLast
set_option linter.unusedVariables false
set_option linter.unusedSimpArgs false

theorem qGWithIs0_ {P : Prop} (h : P := by first | (go_simp; done) | (go_simp; rfl)) : P := h
theorem at_cons {P : S28 → ByteArray → Int} {v : S28} {s : ByteArray} {r : List ByteArray} (h : (At P v (s :: r)).isSome = true) : 0 ≤ P v s ∧ (At P (rd_T28 v.f3 (P v s)) r).isSome = true := by
 unfold At at h
 by_cases hp : P v s < 0
 ·rw [if_pos hp] at h; cases h
 ·rw [if_neg hp] at h; exact ⟨by omega, h⟩

set_option maxHeartbeats 1000000 in
set_option maxRecDepth 100000 in
theorem with_calls (G : S28 → Prop) (d : Nat) (P : S28 → ByteArray → Int) (pl : List ByteArray) (HG : Good G d P pl) (hst : ∀ x, G x → ∀ s ∈ pl, impl_Value_place.f x.f0 x.f1.f0 x.f1.f1 x.f2 x.f3 x.f4 s = some (P x s)) (x : S28) (hx3 : Fit d x.f3) (hx4 : x.f4.length ≤ 2097152) :
  ∀ (path : List ByteArray) (hsub : ∀ s ∈ path, s ∈ pl) (v : S28) (hv : G v) (hat : (At P v path).isSome = true) (w : World) (A4 : Option Addr) (c4 : Nat) (A5 : Option Addr) (c5 : Nat) (AP : Option Addr) (cP : Nat) (X4 : Option Addr) (x4 : Nat) (X5 : Option Addr) (x5 : Nat)
  (h4 : Kd.C k28 w A4 v.f3.length v.f3) (l4 : v.f3.length ≤ c4) (h5 : Kd.C Kd.string w A5 v.f4.length v.f4) (l5 : v.f4.length ≤ c5) (hp : Kd.C Kd.string w AP path.length path) (lp : path.length ≤ cP) (g4 : Kd.C k28 w X4 x.f3.length x.f3) (m4 : x.f3.length ≤ x4) (g5 : Kd.C Kd.string w X5 x.f4.length x.f4) (m5 : x.f4.length ≤ x5) (hl : LaidG 15 w),
  Calls Tryd.prog 58 #[.agg #[.int .i64 v.f0, .int .i64 v.f1.f0, .int .i64 v.f1.f1, .string v.f2, .slice A4 v.f3.length c4, .slice A5 v.f4.length c5], .slice AP path.length cP, .agg #[.int .i64 x.f0, .int .i64 x.f1.f0, .int .i64 x.f1.f1, .string x.f2, .slice X4 x.f3.length x4, .slice X5 x.f4.length x5]] w fun e' w' => ∃ (B4 : Option Addr) (b4 : Nat) (B5 : Option Addr) (b5 : Nat) (f4 f5 : List Nat),
   e' = .returned (.agg #[.int .i64 (withT P v path x).f0, .int .i64 (withT P v path x).f1.f0, .int .i64 (withT P v path x).f1.f1, .string (withT P v path x).f2, .slice B4 (withT P v path x).f3.length b4, .slice B5 (withT P v path x).f4.length b5]) ∧ (withT P v path x).f3.length ≤ b4 ∧ (withT P v path x).f4.length ≤ b5 ∧ VRow (d + path.length) w' B4 (withT P v path x).f3 f4 ∧ NRow w' B5 (withT P v path x).f4 f5 ∧ (f4 ++ f5).Nodup ∧ (∀ q ∈ f4 ++ f5, w.heap.size ≤ q) ∧ Below w.heap.size w w' := by
 intro path
 induction path with
 | nil =>
  intro hsub v hv hat w A4 c4 A5 c5 AP cP X4 x4 X5 x5 h4 l4 h5 l5 hp lp g4 m4 g5 m5 hl
  have HX4 := Aside0.mk g4; have HX5 := Aside0.mk g5; have HXF := Aside0.mk hx3; have HXN := Aside0.mk hx4
  clear h4 h5 hp g4 g5 hl hsub hat hst HG hv hx3 hx4
  show Calls _ _ #[.agg #[.int .i64 v.f0, .int .i64 v.f1.f0, .int .i64 v.f1.f1, .string v.f2, .slice A4 v.f3.length c4, .slice A5 v.f4.length c5], .slice AP 0 cP, .agg #[.int .i64 x.f0, .int .i64 x.f1.f0, .int .i64 x.f1.f1, .string x.f2, .slice X4 x.f3.length x4, .slice X5 x.f4.length x5]] w _
  go_enter Tryd.func58, Tryd.ntmps58
  go_wp2_with (first
   | (
         (with_reducible refine gate_dst (N := 3) rfl ?_); refine box_event ?hg (N := 3) ?hd (cs := #[.int .i64 v.f0, .int .i64 v.f1.f0, .int .i64 v.f1.f1, .string v.f2, .slice A4 v.f3.length c4, .slice A5 v.f4.length c5]) (t := 28) ?hr ?_; (case hd => rfl); (case hg => rfl); (case hr => exact qGWithIs0_)
         intro g1 hg wk hbox hb; have B1 := Aside0.mk hbox; have L1 := Aside0.mk hb; have g1w : w.heap.size ≤ g1 := Nat.le_of_eq hg.symm; clear hg hbox hb)
   | (
         (with_reducible refine gate_dst (N := 5) rfl ?_); refine box_event ?hg (N := 5) ?hd (cs := #[.int .i64 x.f0, .int .i64 x.f1.f0, .int .i64 x.f1.f1, .string x.f2, .slice X4 x.f3.length x4, .slice X5 x.f4.length x5]) (t := 28) ?hr ?_; (case hd => rfl); (case hg => rfl); (case hr => exact qGWithIs0_)
         intro g2 hg wk hbox hb; have B2 := Aside0.mk hbox; have L2 := Aside0.mk (below_step L1.out hb); have g2w : w.heap.size ≤ g2 := by have := L1.out.size; omega
         replace B1 := Aside0.mk (blk_keep B1.out hb (blk_lt B1.out)); clear hg hbox hb)
   | (
         (with_reducible refine gate_dst (N := 6) rfl ?_); refine box_event ?hg (N := 6) ?hd (cs := #[.int .i64 0, .int .i64 0, .int .i64 0, .string (⟨#[]⟩ : ByteArray), .slice none 0 0, .slice none 0 0]) (t := 28) ?hr ?_; (case hd => rfl); (case hg => rfl); (case hr => exact qGWithIs0_)
         intro g3 hg wk hbox hb; have B3 := Aside0.mk hbox; have L3 := Aside0.mk (below_step L2.out hb); have g3w : w.heap.size ≤ g3 := by have := L2.out.size; omega
         replace B2 := Aside0.mk (blk_keep B2.out hb (blk_lt B2.out)); clear hg hbox hb
         obtain ⟨p0, p1, p2, p3, p4, p5, -⟩ := six_cells B2.out)
   | (
         go_at_call 45
         refine (own_calls d _ x.f0 x.f1.f0 x.f1.f1 x.f2 X4 x4 x.f3 X5 x5 x.f4 (Kd.C_below HX4.out L3.out) m4 (Kd.C_below HX5.out L3.out) m5 HXF.out HXN.out).mono ?_
         rintro e' w5 ⟨O4, O5, f4, f5, rfl, V4, N5, D45, F45, _, hb5⟩
         have L5 := Aside0.mk (below_step L3.out hb5)
         have E3 := Aside0.mk (blk_keep B3.out hb5 (blk_lt B3.out))
         obtain ⟨r0, r1, r2, r3, r4, r5, z0, z1, z2, z3, z4, z5⟩ := six_cells E3.out
         clear hb5 p0 p1 p2 p3 p4 p5))
  have hP := six_put (v0 := .int .i64 x.f0) (v1 := .int .i64 x.f1.f0) (v2 := .int .i64 x.f1.f1) (v3 := .string x.f2) (v4 := .slice O4 x.f3.length x.f3.length) (v5 := .slice O5 x.f4.length x.f4.length) E3.out
  refine bodyPost_ret (results_cell_row rfl _ _ g3 28 #[.int .i64 x.f0, .int .i64 x.f1.f0, .int .i64 x.f1.f1, .string x.f2, .slice O4 x.f3.length x.f3.length, .slice O5 x.f4.length x.f4.length] (0, 0) _ rfl hP Tryd.underlying28 rfl (by kernel_rfl)) rfl ?_
  have hg3 := blk_lt B3.out
  have hS : ∀ q ∈ f4 ++ f5, ((((((w5.setCell ⟨g3, 0, none⟩ (.int .i64 x.f0)).setCell ⟨g3, 1, none⟩ (.int .i64 x.f1.f0)).setCell ⟨g3, 2, none⟩ (.int .i64 x.f1.f1)).setCell ⟨g3, 3, none⟩ (.string x.f2)).setCell ⟨g3, 4, none⟩ (.slice O4 x.f3.length x.f3.length)).setCell ⟨g3, 5, none⟩ (.slice O5 x.f4.length x.f4.length)).heap[q]? = w5.heap[q]? := fun q hq => six_same q (by have := F45 q hq; omega)
  exact ⟨O4, x.f3.length, O5, x.f4.length, f4, f5, rfl, Nat.le_refl _, Nat.le_refl _, VRow.same d V4 (fun q hq => hS q (List.mem_append_left _ hq)), N5.same (fun q hq => hS q (List.mem_append_right _ hq)), D45, fun q hq => Nat.le_trans L3.out.size (F45 q hq), six_below L5.out g3w⟩
 | cons s r ih =>
  intro hsub v hv hat w A4 c4 A5 c5 AP cP X4 x4 X5 x5 h4 l4 h5 l5 hp lp g4 m4 g5 m5 hl
  have H4 := Aside0.mk h4; have H5 := Aside0.mk h5; have HP := Aside0.mk hp; have HL := Aside0.mk hl; have HX4 := Aside0.mk g4; have HX5 := Aside0.mk g5; have HV := Aside0.mk hv
  have hac := at_cons hat
  have hf := HG.fit v hv
  have hlt := HG.lt v hv s (hsub s List.mem_cons_self)
  have hplc := hst v hv s (hsub s List.mem_cons_self)
  have hkid := HG.kid v hv
  obtain ⟨A0, rfl, hsrc⟩ := Kd.at_string HP.out (0 : Int) (by omega) (by simp only [List.length_cons]; omega)
  have hcut := Kd.C_drop (m := 1) HP.out (by simp only [List.length_cons]; omega) lp
  have hWT : withT P v (s :: r) x = ⟨v.f0, v.f1, v.f2, v.f3.set (P v s).toNat (withT P (rd_T28 v.f3 (P v s)) r x), v.f4⟩ := rfl
  have hih := ih (fun t ht => hsub t (List.mem_cons_of_mem _ ht)) (rd_T28 v.f3 (P v s))
  rw [hWT]
  clear hWT hsub hat hst ih h4 h5 hp g4 g5 hl hv
  generalize P v s = u at *
  have hun : u.toNat < v.f3.length := by omega
  have hn : (s :: r).length = r.length + 1 := rfl
  rw [hn] at lp ⊢
  obtain ⟨n, hnr⟩ : ∃ n, n = r.length + 1 := ⟨_, rfl⟩
  rw [← hnr] at lp ⊢
  have hn0 : 0 < n := by omega
  obtain ⟨d, rfl⟩ : ∃ d', d = d' + 1 := by
   cases d with
   | zero => have h0 : v.f3 = [] := hf.1; rw [h0] at hun; simp at hun
   | succ d' => exact ⟨d', rfl⟩
  obtain ⟨ad2, Y4, y4, Y5, y5, rfl, x0, x1, x2, x3, x4', x5', n4, s4, n5, s5⟩ := at_T28 H4.out u hac.1 hlt
  have hym : rd_T28 v.f3 u ∈ v.f3 := by
   unfold rd_T28
   rw [List.getD_eq_getElem?_getD, List.getElem?_eq_getElem hun]
   exact List.getElem_mem hun
  have HIH := Aside0.mk (hih (hkid _ hym) hac.2)
  clear hih hkid
  generalize rd_T28 v.f3 u = y at *
  have HN4 := Aside0.mk n4; have HN5 := Aside0.mk n5; have HS4 := Aside0.mk s4; have HS5 := Aside0.mk s5; have HPR := Aside0.mk hplc; have HCT := Aside0.mk hcut
  have hu0 : (0 ≤ u) = True := eq_true hac.1
  have hu1 : (u < (v.f3.length : Int)) = True := eq_true hlt
  have HU := Aside0.mk hac.1; have HUN := Aside0.mk hun; have HFV := Aside0.mk hf; have HLP := Aside0.mk lp; have HNR := Aside0.mk hnr
  have hz1 : ((n : Int) == 0) = false := by rw [beq_eq_false_iff_ne]; omega
  have hz2 : decide ((n : Int) = 0) = false := decide_eq_false (by omega)
  have hz3 : (n == 0) = false := by rw [beq_eq_false_iff_ne]; omega
  have hz4 : decide (n = 0) = false := decide_eq_false (by omega)
  have hi0 : ((0 : Int) < (n : Int)) = True := eq_true (by omega)
  have hi1 : (0 < n) = True := eq_true hn0
  obtain ⟨i0, hi0_, _, hsz0, _⟩ := info_parts info9
  have hrun0 := cut_from (P := Tryd.prog) 26 9 .i64 Tryd.underlying26 hi0_ 1 hsz0 (some A0) n cP 1 (by omega) (by omega)
  rw [show n - (1 : Int).toNat = r.length by have : (1 : Int).toNat = 1 := rfl; omega] at hrun0
  obtain ⟨AT, hAT⟩ : ∃ AT, AT = (if cP = 1 then some A0 else (some A0).map (·.add (1 * 1))) := ⟨_, rfl⟩
  have hrun : ∀ W : World, (Instr.slice 26 (.slice (some A0) n cP) (some (.int .i64 1)) none none).run Tryd.prog W = .ok (.slice AT r.length (cP - 1)) W := fun W => by rw [hAT]; exact hrun0 W
  have hcut' : Kd.C Kd.string w AT r.length r := by rw [hAT]; exact hcut
  replace HCT := Aside0.mk hcut'
  clear hrun0 hAT hcut'
  clear hac hlt hun hf lp hnr hn hn0 hym n4 n5 s4 s5 hplc hcut
  have g1x : True := trivial
  go_enter Tryd.func58, Tryd.ntmps58
  go_wp2_with (first
   | (
         (with_reducible refine gate_dst (N := 3) rfl ?_); refine box_event ?hg (N := 3) ?hd (cs := #[.int .i64 v.f0, .int .i64 v.f1.f0, .int .i64 v.f1.f1, .string v.f2, .slice (some ad2) v.f3.length c4, .slice A5 v.f4.length c5]) (t := 28) ?hr ?_; (case hd => rfl); (case hg => rfl); (case hr => exact qGWithIs0_)
         intro g1 hg wk hbox hb; have B1 := Aside0.mk hbox; have L1 := Aside0.mk hb; have g1w : w.heap.size ≤ g1 := Nat.le_of_eq hg.symm; clear hg hbox hb)
   | (
         (with_reducible refine gate_dst (N := 5) rfl ?_); refine box_event ?hg (N := 5) ?hd (cs := #[.int .i64 x.f0, .int .i64 x.f1.f0, .int .i64 x.f1.f1, .string x.f2, .slice X4 x.f3.length x4, .slice X5 x.f4.length x5]) (t := 28) ?hr ?_; (case hd => rfl); (case hg => rfl); (case hr => exact qGWithIs0_)
         intro g2 hg wk hbox hb; have B2 := Aside0.mk hbox; have L2 := Aside0.mk (below_step L1.out hb); have g2w : w.heap.size ≤ g2 := by have := L1.out.size; omega
         replace B1 := Aside0.mk (blk_keep B1.out hb (blk_lt B1.out)); clear hg hbox hb)
   | (
         (with_reducible refine gate_dst (N := 6) rfl ?_); refine box_event ?hg (N := 6) ?hd (cs := #[.int .i64 0, .int .i64 0, .int .i64 0, .string (⟨#[]⟩ : ByteArray), .slice none 0 0, .slice none 0 0]) (t := 28) ?hr ?_; (case hd => rfl); (case hg => rfl); (case hr => exact qGWithIs0_)
         intro g3 hg wk hbox hb; have B3 := Aside0.mk hbox; have L3 := Aside0.mk (below_step L2.out hb); have g3w : w.heap.size ≤ g3 := by have := L2.out.size; omega
         replace B2 := Aside0.mk (blk_keep B2.out hb (blk_lt B2.out))
         replace B1 := Aside0.mk (blk_keep B1.out hb (blk_lt B1.out)); clear hg hbox hb
         obtain ⟨p0, p1, p2, p3, p4, p5, -⟩ := six_cells B1.out)
   | (
         go_at_call 45
         refine (own_calls (d + 1) _ v.f0 v.f1.f0 v.f1.f1 v.f2 (some ad2) c4 v.f3 A5 c5 v.f4 (Kd.C_below H4.out L3.out) l4 (Kd.C_below H5.out L3.out) l5 HFV.out.1 HFV.out.2).mono ?_
         rintro e' w5 ⟨O4, O5, f4, f5, rfl, V4, N5, D45, F45, _, hb5⟩
         have L5 := Aside0.mk (below_step L3.out hb5); have VO := Aside0.mk V4; have NO := Aside0.mk N5; have DO := Aside0.mk D45; have FO := Aside0.mk F45
         have HG3 := Aside0.mk (blk_lt B3.out)
         replace B1 := Aside0.mk (blk_keep B1.out hb5 (blk_lt B1.out)); replace B2 := Aside0.mk (blk_keep B2.out hb5 (blk_lt B2.out)); replace B3 := Aside0.mk (blk_keep B3.out hb5 (blk_lt B3.out))
         clear hb5 V4 N5 D45 F45 p0 p1 p2 p3 p4 p5)
   | (
         (with_reducible refine gate_dst (N := 7) rfl ?_); refine box_event ?hg (N := 7) ?hd (cs := #[.int .i64 0, .int .i64 0, .int .i64 0, .string (⟨#[]⟩ : ByteArray), .slice none 0 0, .slice none 0 0]) (t := 28) ?hr ?_; (case hd => rfl); (case hg => rfl); (case hr => exact qGWithIs0_)
         intro g7 hg wk hbox hb; have g7w : w.heap.size ≤ g7 := by have := L5.out.size; omega
         have HNE := Aside0.mk (⟨by have := blk_lt B1.out; omega, (by have := blk_lt B2.out; omega), (by have := blk_lt B3.out; omega)⟩ : g1 ≠ g7 ∧ g2 ≠ g7 ∧ g3 ≠ g7)
         have hne1 := HNE.out.1; have hne2 := HNE.out.1.symm
         have HO7 := Aside0.mk (show ∀ q ∈ f4 ++ f5, q ≠ g7 from fun q hq => by rcases List.mem_append.1 hq with h | h; (have := VRow.lt _ VO.out q h; omega); (have := NRow.lt NO.out q h; omega))
         have L7 := Aside0.mk (below_step L5.out hb); have B7 := Aside0.mk hbox
         replace B1 := Aside0.mk (blk_keep B1.out hb (blk_lt B1.out))
         replace B2 := Aside0.mk (blk_keep B2.out hb (blk_lt B2.out))
         replace B3 := Aside0.mk (blk_keep B3.out hb (blk_lt B3.out))
         replace VO := Aside0.mk (VRow.same (d + 1) VO.out (Same.below (VRow.lt _ VO.out) hb))
         replace NO := Aside0.mk (NRow.same NO.out (Same.below (NRow.lt NO.out) hb))
         clear hg hbox hb
         obtain ⟨r0, r1, r2, r3, r4, r5, zr0, zr1, zr2, zr3, zr4, zr5⟩ := six_cells B7.out))
  have hk := six_kept wk g7 (.int .i64 v.f0) (.int .i64 v.f1.f0) (.int .i64 v.f1.f1) (.string v.f2) (.slice O4 v.f3.length v.f3.length) (.slice O5 v.f4.length v.f4.length)
  have b_ := six_put (v0 := .int .i64 v.f0) (v1 := .int .i64 v.f1.f0) (v2 := .int .i64 v.f1.f1) (v3 := .string v.f2) (v4 := .slice O4 v.f3.length v.f3.length) (v5 := .slice O5 v.f4.length v.f4.length) B7.out
  have l_ := six_below (v0 := .int .i64 v.f0) (v1 := .int .i64 v.f1.f0) (v2 := .int .i64 v.f1.f1) (v3 := .string v.f2) (v4 := .slice O4 v.f3.length v.f3.length) (v5 := .slice O5 v.f4.length v.f4.length) L7.out g7w
  clear r0 r1 r2 r3 r4 r5 zr0 zr1 zr2 zr3 zr4 zr5
  generalize (((((wk.setCell ⟨g7, 0, none⟩ (.int .i64 v.f0)).setCell ⟨g7, 1, none⟩ (.int .i64 v.f1.f0)).setCell ⟨g7, 2, none⟩ (.int .i64 v.f1.f1)).setCell ⟨g7, 3, none⟩ (.string v.f2)).setCell ⟨g7, 4, none⟩ (.slice O4 v.f3.length v.f3.length)).setCell ⟨g7, 5, none⟩ (.slice O5 v.f4.length v.f4.length) = w8 at *
  replace B7 := Aside0.mk b_
  replace L7 := Aside0.mk l_
  replace B1 := Aside0.mk (blk_kept B1.out hk (fun h => HNE.out.1 h)); replace B2 := Aside0.mk (blk_kept B2.out hk (fun h => HNE.out.2.1 h)); replace B3 := Aside0.mk (blk_kept B3.out hk (fun h => HNE.out.2.2 h))
  replace VO := Aside0.mk (VRow.same (d + 1) VO.out (Same.kept (VRow.lt _ VO.out) hk (fun q hq => HO7.out q (List.mem_append_left _ hq))))
  replace NO := Aside0.mk (NRow.same NO.out (Same.kept (NRow.lt NO.out) hk (fun q hq => HO7.out q (List.mem_append_right _ hq))))
  clear hk b_ l_
  obtain ⟨p0, p1, p2, p3, p4, p5, -⟩ := six_cells B1.out
  replace hsrc := (L7.out.cell (World.block_lt_of_cell? w _ hsrc)).trans hsrc
  refine start_ (n := 6) (S := fun w' => w'.cell? ⟨g1, 0, none⟩ = some (.int .i64 v.f0) ∧ w'.cell? ⟨g1, 1, none⟩ = some (.int .i64 v.f1.f0) ∧ w'.cell? ⟨g1, 2, none⟩ = some (.int .i64 v.f1.f1) ∧ w'.cell? ⟨g1, 3, none⟩ = some (.string v.f2) ∧ w'.cell? ⟨g1, 4, none⟩ = some (.slice (some ad2) v.f3.length c4) ∧ w'.cell? ⟨g1, 5, none⟩ = some (.slice A5 v.f4.length c5) ∧ w'.cell? A0 = some (.string s)) (ds := []) #[false, false, false, false, false, false] (by kernel_rfl) rfl rfl (⟨p0, p1, p2, p3, p4, p5, hsrc⟩) (fun hHeld => ?_)
  replace L7 := Aside0.mk (below_drew1 L7.out)
  replace B1 := Aside0.mk (show w8.drew.heap[g1]? = _ from B1.out)
  replace B2 := Aside0.mk (show w8.drew.heap[g2]? = _ from B2.out)
  replace B3 := Aside0.mk (show w8.drew.heap[g3]? = _ from B3.out)
  replace B7 := Aside0.mk (show w8.drew.heap[g7]? = _ from B7.out)
  replace VO := Aside0.mk (VRow.same (w1 := w8.drew) (d + 1) VO.out (fun _ _ => rfl))
  replace NO := Aside0.mk (NRow.same (w1 := w8.drew) NO.out (fun _ _ => rfl))
  generalize w8.drew = w9 at *
  obtain ⟨p0, p1, p2, p3, p4, p5, hsrc⟩ := id hHeld
  refine pure_ (i := 1) (N := some 17) (v := ?_) (a' := ?_) #[false, true, false, false, false, false] rfl rfl (by kernel_rfl) (fun _ _ _ h => h) (Or.inl ⟨by rfl, ?_⟩) ?_ ?_
  rotate_left
  ·intro w'
   go_simp; with_reducible rfl
  rotate_left
  ·simp only [Act.put, List.setIfInBounds_toArray, List.set_cons_zero, List.set_cons_succ, i64_w, i32_w]; rfl
  refine pure_ (i := 2) (N := some 18) (v := ?_) (a' := ?_) #[false, true, true, false, false, false] rfl rfl (by kernel_rfl) (fun _ _ _ h => h) (Or.inl ⟨by rfl, ?_⟩) ?_ ?_
  rotate_left
  ·intro w'
   go_simp; with_reducible rfl
  rotate_left
  ·simp only [Act.put, List.setIfInBounds_toArray, List.set_cons_zero, List.set_cons_succ, i64_w, i32_w]; rfl
  refine take_ (i := 0) (N := some 16) (v := ?_) (a' := ?_) #[true, true, true, false, false, false] rfl rfl (by kernel_rfl) (fun _ _ _ h => h) (Or.inl ⟨by rfl, ?_⟩) hHeld ?_ ?_
  rotate_left
  ·intro w' s0
   obtain ⟨t0, t1, t2, t3, t4, t5, t6⟩ := s0
   go_simp; with_reducible rfl
  rotate_left
  ·simp only [Act.put, List.setIfInBounds_toArray, List.set_cons_zero, List.set_cons_succ, i64_w, i32_w]; rfl
  refine take_ (i := 3) (N := some 19) (v := ?_) (a' := ?_) #[true, true, true, true, false, false] rfl rfl (by kernel_rfl) (fun _ _ _ h => h) (Or.inl ⟨by rfl, ?_⟩) hHeld ?_ ?_
  rotate_left
  ·intro w' s0
   obtain ⟨t0, t1, t2, t3, t4, t5, t6⟩ := s0
   go_simp; with_reducible rfl
  rotate_left
  ·simp only [Act.put, List.setIfInBounds_toArray, List.set_cons_zero, List.set_cons_succ, i64_w, i32_w]; rfl
  refine one_ (i := 4) (N := some 20) #[true, true, true, true, true, false] rfl rfl (by kernel_rfl) (by decide) (fun K hK => ?_)
  refine goes_ Tryd.func44 (by kernel_rfl) rfl #[.agg #[.int .i64 v.f0, .int .i64 v.f1.f0, .int .i64 v.f1.f1, .string v.f2, .slice (some ad2) v.f3.length c4, .slice A5 v.f4.length c5], .string s] (by rfl) rfl rfl (by (try simp only [List.map_toArray, List.map_cons, List.map_nil]); first | done | rfl) ?_
  with_reducible refine (impl_Value_place.calls v.f0 v.f1.f0 v.f1.f1 v.f2 (some ad2) c4 v.f3 A5 c5 v.f4 s u w9 (Kd.C_below H4.out L7.out) l4 (Kd.C_below H5.out L7.out) l5 (LaidG.below (m := 13) (by decide) HL.out L7.out) HPR.out).mono ?_
  rintro e w10 ⟨rfl, hb⟩
  have hH1 := (⟨(hb.cell (World.block_lt_of_cell? _ _ p0)).trans p0, (hb.cell (World.block_lt_of_cell? _ _ p1)).trans p1, (hb.cell (World.block_lt_of_cell? _ _ p2)).trans p2, (hb.cell (World.block_lt_of_cell? _ _ p3)).trans p3, (hb.cell (World.block_lt_of_cell? _ _ p4)).trans p4, (hb.cell (World.block_lt_of_cell? _ _ p5)).trans p5, (hb.cell (World.block_lt_of_cell? _ _ hsrc)).trans hsrc⟩ : w10.cell? ⟨g1, 0, none⟩ = some (.int .i64 v.f0) ∧ w10.cell? ⟨g1, 1, none⟩ = some (.int .i64 v.f1.f0) ∧ w10.cell? ⟨g1, 2, none⟩ = some (.int .i64 v.f1.f1) ∧ w10.cell? ⟨g1, 3, none⟩ = some (.string v.f2) ∧ w10.cell? ⟨g1, 4, none⟩ = some (.slice (some ad2) v.f3.length c4) ∧ w10.cell? ⟨g1, 5, none⟩ = some (.slice A5 v.f4.length c5) ∧ w10.cell? A0 = some (.string s))
  clear p0 p1 p2 p3 p4 p5 hsrc
  replace L7 := Aside0.mk (below_step L7.out hb)
  replace B1 := Aside0.mk (blk_keep B1.out hb (blk_lt B1.out))
  replace B2 := Aside0.mk (blk_keep B2.out hb (blk_lt B2.out))
  replace B3 := Aside0.mk (blk_keep B3.out hb (blk_lt B3.out))
  replace B7 := Aside0.mk (blk_keep B7.out hb (blk_lt B7.out))
  replace VO := Aside0.mk (VRow.same (d + 1) VO.out (Same.below (VRow.lt _ VO.out) hb))
  replace NO := Aside0.mk (NRow.same NO.out (Same.below (NRow.lt NO.out) hb))
  clear hb
  refine ⟨_, rfl, hK.out _ _ (hH1) (fun hHeld => ?_)⟩
  clear hK K
  refine norm_ (a' := ?_) ?_ ?_
  rotate_left
  ·show Act.put _ (some 20) _ = _
   simp only [Act.put, List.setIfInBounds_toArray, List.set_cons_zero, List.set_cons_succ, i64_w, i32_w]; rfl
  refine pure_ (i := 5) (N := some 8) (v := ?_) (a' := ?_) #[true, true, true, true, true, true] rfl rfl (by kernel_rfl) (fun _ _ _ h => h) (Or.inl ⟨by rfl, ?_⟩) ?_ ?_
  rotate_left
  ·intro w'
   go_simp; with_reducible rfl
  rotate_left
  ·simp only [Act.put, List.setIfInBounds_toArray, List.set_cons_zero, List.set_cons_succ, i64_w, i32_w]; rfl
  refine done_ (by kernel_rfl) ?_
  clear hH1 hHeld
  rcases VO.out with ⟨h0, _⟩ | ⟨b, cs, fps, rfl, hfp, hbk, hcl, hfl, hit⟩
  ·have h1 := HUN.out; rw [h0] at h1; simp at h1
  have HBK := Aside0.mk hbk
  have HCL := Aside0.mk hcl
  have HBF := Aside0.mk (show b ∈ f4 by rw [hfp]; exact List.mem_cons_self)
  clear hfp hbk hcl hfl hit
  obtain ⟨-, -, -, -, p4, -⟩ := six_cells B1.out
  obtain ⟨-, -, -, -, o4, -⟩ := six_cells B7.out
  obtain ⟨q0, q1, q2, q3, q4, q5, -⟩ := six_cells B2.out
  replace x0 := (L7.out.cell (World.block_lt_of_cell? w _ x0)).trans x0
  replace x1 := (L7.out.cell (World.block_lt_of_cell? w _ x1)).trans x1
  replace x2 := (L7.out.cell (World.block_lt_of_cell? w _ x2)).trans x2
  replace x3 := (L7.out.cell (World.block_lt_of_cell? w _ x3)).trans x3
  replace x4' := (L7.out.cell (World.block_lt_of_cell? w _ x4')).trans x4'
  replace x5' := (L7.out.cell (World.block_lt_of_cell? w _ x5')).trans x5'
  go_wp2
  refine start_ (n := 14) (S := fun w' => w'.cell? ⟨g7, 4, none⟩ = some (.slice (some ⟨b, 0, none⟩) v.f3.length v.f3.length) ∧ w'.cell? ⟨g1, 4, none⟩ = some (.slice (some ad2) v.f3.length c4) ∧ w'.cell? (ad2.add (u.toNat * 6)) = some (.int .i64 y.f0) ∧ w'.cell? ⟨(ad2.add (u.toNat * 6)).block, (ad2.add (u.toNat * 6)).off + 1, none⟩ = some (.int .i64 y.f1.f0) ∧ w'.cell? ⟨(ad2.add (u.toNat * 6)).block, (ad2.add (u.toNat * 6)).off + 2, none⟩ = some (.int .i64 y.f1.f1) ∧ w'.cell? ⟨(ad2.add (u.toNat * 6)).block, (ad2.add (u.toNat * 6)).off + 3, none⟩ = some (.string y.f2) ∧ w'.cell? ⟨(ad2.add (u.toNat * 6)).block, (ad2.add (u.toNat * 6)).off + 4, none⟩ = some (.slice Y4 y.f3.length y4) ∧ w'.cell? ⟨(ad2.add (u.toNat * 6)).block, (ad2.add (u.toNat * 6)).off + 5, none⟩ = some (.slice Y5 y.f4.length y5) ∧ w'.cell? ⟨g2, 0, none⟩ = some (.int .i64 x.f0) ∧ w'.cell? ⟨g2, 1, none⟩ = some (.int .i64 x.f1.f0) ∧ w'.cell? ⟨g2, 2, none⟩ = some (.int .i64 x.f1.f1) ∧ w'.cell? ⟨g2, 3, none⟩ = some (.string x.f2) ∧ w'.cell? ⟨g2, 4, none⟩ = some (.slice X4 x.f3.length x4) ∧ w'.cell? ⟨g2, 5, none⟩ = some (.slice X5 x.f4.length x5)) (ds := [13]) #[false, false, false, false, false, false, false, false, false, false, false, false, false, false] (by kernel_rfl) rfl rfl (⟨o4, p4, x0, x1, x2, x3, x4', x5', q0, q1, q2, q3, q4, q5⟩) (fun hHeld => ?_)
  replace L7 := Aside0.mk (below_drew1 L7.out)
  replace B1 := Aside0.mk (show w10.drew.heap[g1]? = _ from B1.out)
  replace B2 := Aside0.mk (show w10.drew.heap[g2]? = _ from B2.out)
  replace B3 := Aside0.mk (show w10.drew.heap[g3]? = _ from B3.out)
  replace B7 := Aside0.mk (show w10.drew.heap[g7]? = _ from B7.out)
  replace HBK := Aside0.mk (show w10.drew.heap[b]? = _ from HBK.out)
  replace VO := Aside0.mk (VRow.same (w1 := w10.drew) (d + 1) VO.out (fun _ _ => rfl))
  replace NO := Aside0.mk (NRow.same (w1 := w10.drew) NO.out (fun _ _ => rfl))
  generalize w10.drew = w11 at *
  obtain ⟨o4, p4, x0, x1, x2, x3, x4', x5', q0, q1, q2, q3, q4, q5⟩ := id hHeld
  refine pure_ (i := 0) (N := some 21) (v := ?_) (a' := ?_) #[true, false, false, false, false, false, false, false, false, false, false, false, false, false] rfl rfl (by kernel_rfl) (fun _ _ _ h => h) (Or.inl ⟨by rfl, ?_⟩) ?_ ?_
  rotate_left
  ·intro w'
   go_simp; with_reducible rfl
  rotate_left
  ·simp only [Act.put, List.setIfInBounds_toArray, List.set_cons_zero, List.set_cons_succ, i64_w, i32_w]; rfl
  refine pure_ (i := 2) (N := some 23) (v := ?_) (a' := ?_) #[true, false, true, false, false, false, false, false, false, false, false, false, false, false] rfl rfl (by kernel_rfl) (fun _ _ _ h => h) (Or.inl ⟨by rfl, ?_⟩) ?_ ?_
  rotate_left
  ·intro w'
   go_simp; with_reducible rfl
  rotate_left
  ·simp only [Act.put, List.setIfInBounds_toArray, List.set_cons_zero, List.set_cons_succ, i64_w, i32_w]; rfl
  refine pure_ (i := 3) (N := some 24) (v := ?_) (a' := ?_) #[true, false, true, true, false, false, false, false, false, false, false, false, false, false] rfl rfl (by kernel_rfl) (fun _ _ _ h => h) (Or.inl ⟨by rfl, ?_⟩) ?_ ?_
  rotate_left
  ·intro w'
   go_simp; with_reducible rfl
  rotate_left
  ·simp only [Act.put, List.setIfInBounds_toArray, List.set_cons_zero, List.set_cons_succ, i64_w, i32_w]; rfl
  refine pure_ (i := 5) (N := some 26) (v := ?_) (a' := ?_) #[true, false, true, true, false, true, false, false, false, false, false, false, false, false] rfl rfl (by kernel_rfl) (fun _ _ _ h => h) (Or.inl ⟨by rfl, ?_⟩) ?_ ?_
  rotate_left
  ·intro w'
   go_simp; with_reducible rfl
  rotate_left
  ·simp only [Act.put, List.setIfInBounds_toArray, List.set_cons_zero, List.set_cons_succ, i64_w, i32_w]; rfl
  refine pure_ (i := 8) (N := some 29) (v := ?_) (a' := ?_) #[true, false, true, true, false, true, false, false, true, false, false, false, false, false] rfl rfl (by kernel_rfl) (fun _ _ _ h => h) (Or.inl ⟨by rfl, ?_⟩) ?_ ?_
  rotate_left
  ·intro w'
   go_simp; with_reducible rfl
  rotate_left
  ·simp only [Act.put, List.setIfInBounds_toArray, List.set_cons_zero, List.set_cons_succ, i64_w, i32_w]; rfl
  refine pure_ (i := 9) (N := some 30) (v := ?_) (a' := ?_) #[true, false, true, true, false, true, false, false, true, true, false, false, false, false] rfl rfl (by kernel_rfl) (fun _ _ _ h => h) (Or.inl ⟨by rfl, ?_⟩) ?_ ?_
  rotate_left
  ·intro w'
   go_simp; with_reducible rfl
  rotate_left
  ·simp only [Act.put, List.setIfInBounds_toArray, List.set_cons_zero, List.set_cons_succ, i64_w, i32_w]; rfl
  refine take_ (i := 1) (N := some 22) (v := ?_) (a' := ?_) #[true, true, true, true, false, true, false, false, true, true, false, false, false, false] rfl rfl (by kernel_rfl) (fun _ _ _ h => h) (Or.inl ⟨by rfl, ?_⟩) hHeld ?_ ?_
  rotate_left
  ·intro w' s0
   obtain ⟨t0, t1, t2, t3, t4, t5, t6, t7, t8, t9, t10, t11, t12, t13⟩ := s0
   go_simp; with_reducible rfl
  rotate_left
  ·simp only [Act.put, List.setIfInBounds_toArray, List.set_cons_zero, List.set_cons_succ, i64_w, i32_w]; rfl
  refine take_ (i := 4) (N := some 25) (v := ?_) (a' := ?_) #[true, true, true, true, true, true, false, false, true, true, false, false, false, false] rfl rfl (by kernel_rfl) (fun _ _ _ h => h) (Or.inl ⟨by rfl, ?_⟩) hHeld ?_ ?_
  rotate_left
  ·intro w' s0
   obtain ⟨t0, t1, t2, t3, t4, t5, t6, t7, t8, t9, t10, t11, t12, t13⟩ := s0
   go_simp; with_reducible rfl
  rotate_left
  ·simp only [Act.put, List.setIfInBounds_toArray, List.set_cons_zero, List.set_cons_succ, i64_w, i32_w]; rfl
  refine pure_ (i := 6) (N := some 27) (v := ?_) (a' := ?_) #[true, true, true, true, true, true, true, false, true, true, false, false, false, false] rfl rfl (by kernel_rfl) (fun _ _ _ h => h) (Or.inl ⟨by rfl, ?_⟩) ?_ ?_
  rotate_left
  ·intro w'
   go_simp; with_reducible rfl
  rotate_left
  ·simp only [Act.put, List.setIfInBounds_toArray, List.set_cons_zero, List.set_cons_succ, i64_w, i32_w]; rfl
  refine take_ (i := 7) (N := some 28) (v := ?_) (a' := ?_) #[true, true, true, true, true, true, true, true, true, true, false, false, false, false] rfl rfl (by kernel_rfl) (fun _ _ _ h => h) (Or.inl ⟨by rfl, ?_⟩) hHeld ?_ ?_
  rotate_left
  ·intro w' s0
   obtain ⟨t0, t1, t2, t3, t4, t5, t6, t7, t8, t9, t10, t11, t12, t13⟩ := s0
   go_simp; with_reducible rfl
  rotate_left
  ·simp only [Act.put, List.setIfInBounds_toArray, List.set_cons_zero, List.set_cons_succ, i64_w, i32_w]; rfl
  refine take_ (i := 10) (N := some 31) (v := ?_) (a' := ?_) #[true, true, true, true, true, true, true, true, true, true, true, false, false, false] rfl rfl (by kernel_rfl) (fun _ _ _ h => h) (Or.inl ⟨by rfl, ?_⟩) hHeld ?_ ?_
  rotate_left
  ·intro w' s0
   obtain ⟨t0, t1, t2, t3, t4, t5, t6, t7, t8, t9, t10, t11, t12, t13⟩ := s0
   go_simp; with_reducible rfl
  rotate_left
  ·simp only [Act.put, List.setIfInBounds_toArray, List.set_cons_zero, List.set_cons_succ, i64_w, i32_w]; rfl
  refine one_ (i := 11) (N := some 32) #[true, true, true, true, true, true, true, true, true, true, true, true, false, false] rfl rfl (by kernel_rfl) (by decide) (fun K hK => ?_)
  refine goes_ Tryd.func58 (by kernel_rfl) rfl #[.agg #[.int .i64 y.f0, .int .i64 y.f1.f0, .int .i64 y.f1.f1, .string y.f2, .slice Y4 y.f3.length y4, .slice Y5 y.f4.length y5], .slice AT r.length (cP - 1), .agg #[.int .i64 x.f0, .int .i64 x.f1.f0, .int .i64 x.f1.f1, .string x.f2, .slice X4 x.f3.length x4, .slice X5 x.f4.length x5]] (by rfl) rfl rfl (by (try simp only [List.map_toArray, List.map_cons, List.map_nil]); first | done | rfl) ?_
  have HIH2 := HIH.out w11 Y4 y4 Y5 y5 _ (cP - 1) X4 x4 X5 x5 (Kd.C_below HS4.out L7.out) HN4.out (Kd.C_below HS5.out L7.out) HN5.out (Kd.C_below HCT.out L7.out) (by show r.length ≤ cP - 1; have := HLP.out; have := HNR.out; omega) (Kd.C_below HX4.out L7.out) m4 (Kd.C_below HX5.out L7.out) m5 (LaidG.below (m := 15) (by decide) HL.out L7.out)
  with_reducible refine (HIH2).mono ?_
  rintro e w12 ⟨K4, k4, K5, k5, i4, i5, rfl, mk4, mk5, KV, KN, KD, KF, hb⟩
  have hH1 := (⟨(hb.cell (World.block_lt_of_cell? _ _ o4)).trans o4, (hb.cell (World.block_lt_of_cell? _ _ p4)).trans p4, (hb.cell (World.block_lt_of_cell? _ _ x0)).trans x0, (hb.cell (World.block_lt_of_cell? _ _ x1)).trans x1, (hb.cell (World.block_lt_of_cell? _ _ x2)).trans x2, (hb.cell (World.block_lt_of_cell? _ _ x3)).trans x3, (hb.cell (World.block_lt_of_cell? _ _ x4')).trans x4', (hb.cell (World.block_lt_of_cell? _ _ x5')).trans x5', (hb.cell (World.block_lt_of_cell? _ _ q0)).trans q0, (hb.cell (World.block_lt_of_cell? _ _ q1)).trans q1, (hb.cell (World.block_lt_of_cell? _ _ q2)).trans q2, (hb.cell (World.block_lt_of_cell? _ _ q3)).trans q3, (hb.cell (World.block_lt_of_cell? _ _ q4)).trans q4, (hb.cell (World.block_lt_of_cell? _ _ q5)).trans q5⟩ : w12.cell? ⟨g7, 4, none⟩ = some (.slice (some ⟨b, 0, none⟩) v.f3.length v.f3.length) ∧ w12.cell? ⟨g1, 4, none⟩ = some (.slice (some ad2) v.f3.length c4) ∧ w12.cell? (ad2.add (u.toNat * 6)) = some (.int .i64 y.f0) ∧ w12.cell? ⟨(ad2.add (u.toNat * 6)).block, (ad2.add (u.toNat * 6)).off + 1, none⟩ = some (.int .i64 y.f1.f0) ∧ w12.cell? ⟨(ad2.add (u.toNat * 6)).block, (ad2.add (u.toNat * 6)).off + 2, none⟩ = some (.int .i64 y.f1.f1) ∧ w12.cell? ⟨(ad2.add (u.toNat * 6)).block, (ad2.add (u.toNat * 6)).off + 3, none⟩ = some (.string y.f2) ∧ w12.cell? ⟨(ad2.add (u.toNat * 6)).block, (ad2.add (u.toNat * 6)).off + 4, none⟩ = some (.slice Y4 y.f3.length y4) ∧ w12.cell? ⟨(ad2.add (u.toNat * 6)).block, (ad2.add (u.toNat * 6)).off + 5, none⟩ = some (.slice Y5 y.f4.length y5) ∧ w12.cell? ⟨g2, 0, none⟩ = some (.int .i64 x.f0) ∧ w12.cell? ⟨g2, 1, none⟩ = some (.int .i64 x.f1.f0) ∧ w12.cell? ⟨g2, 2, none⟩ = some (.int .i64 x.f1.f1) ∧ w12.cell? ⟨g2, 3, none⟩ = some (.string x.f2) ∧ w12.cell? ⟨g2, 4, none⟩ = some (.slice X4 x.f3.length x4) ∧ w12.cell? ⟨g2, 5, none⟩ = some (.slice X5 x.f4.length x5))
  clear o4 p4 x0 x1 x2 x3 x4' x5' q0 q1 q2 q3 q4 q5
  replace L7 := Aside0.mk (below_step L7.out hb)
  have HB311 := Aside0.mk (blk_lt B3.out)
  have HVO := Aside0.mk (VRow.lt _ VO.out)
  have HNO := Aside0.mk (NRow.lt NO.out)
  replace B1 := Aside0.mk (blk_keep B1.out hb (blk_lt B1.out))
  replace B2 := Aside0.mk (blk_keep B2.out hb (blk_lt B2.out))
  replace B3 := Aside0.mk (blk_keep B3.out hb (blk_lt B3.out))
  replace B7 := Aside0.mk (blk_keep B7.out hb (blk_lt B7.out))
  replace HBK := Aside0.mk (blk_keep HBK.out hb (blk_lt HBK.out))
  replace VO := Aside0.mk (VRow.same (d + 1) VO.out (Same.below (VRow.lt _ VO.out) hb))
  replace NO := Aside0.mk (NRow.same NO.out (Same.below (NRow.lt NO.out) hb))
  clear hb
  have SMK4 := Aside0.mk mk4
  have SMK5 := Aside0.mk mk5
  have SKV := Aside0.mk KV
  have SKN := Aside0.mk KN
  have SKD := Aside0.mk KD
  have SKF := Aside0.mk KF
  clear mk4 mk5 KV KN KD KF HIH2
  refine ⟨_, rfl, hK.out _ _ (hH1) (fun hHeld => ?_)⟩
  clear hK K
  refine norm_ (a' := ?_) ?_ ?_
  rotate_left
  ·show Act.put _ (some 32) _ = _
   simp only [Act.put, List.setIfInBounds_toArray, List.set_cons_zero, List.set_cons_succ, i64_w, i32_w]; rfl
  refine pure_ (i := 12) (N := some 33) (v := ?_) (a' := ?_) #[true, true, true, true, true, true, true, true, true, true, true, true, true, false] rfl rfl (by kernel_rfl) (fun _ _ _ h => h) (Or.inl ⟨by rfl, ?_⟩) ?_ ?_
  rotate_left
  ·intro w'
   go_simp; with_reducible rfl
  rotate_left
  ·simp only [Act.put, List.setIfInBounds_toArray, List.set_cons_zero, List.set_cons_succ, i64_w, i32_w]; rfl
  obtain ⟨s0_, s1_, s2_, s3_, s4_, s5_, e0, e1, e2, e3, e4, e5, ze0, ze1, ze2, ze3, ze4, ze5⟩ := six_old (o := u.toNat * 6) HBK.out (by have := HCL.out; have := HUN.out; omega)
  refine last_ (i := 13) (N := none) #[true, true, true, true, true, true, true, true, true, true, true, true, true, true] rfl rfl (by kernel_rfl) (by decide) (fun K hK => ?_)
  refine skip_ (w1 := ?_) (by rfl) rfl ?_ ?_
  rotate_left
  ·go_simp
   rfl
  refine hK.out _ _ ?_
  clear hK K
  refine done_ (by kernel_rfl) ?_
  clear hH1 hHeld e0 e1 e2 e3 e4 e5 ze0 ze1 ze2 ze3 ze4 ze5 p4 o4 q0 q1 q2 q3 q4 q5 x0 x1 x2 x3 x4' x5' hrun hsrc
  have hb5 : b ∉ f5 := fun h => (List.nodup_append.1 DO.out).2.2 b HBF.out b h rfl
  have hS := VRow.swap (d := d + 1 + r.length) (VRow.mono VO.out (r.length + 1)) DO.out HUN.out SMK4.out SMK5.out SKV.out SKN.out SKD.out (fun q hq hm => by
   have := SKF.out q hq
   rcases List.mem_append.1 hm with h | h
   ·have := HVO.out q h; omega
   ·have := HNO.out q h; omega) hb5
  have hb3 : g3 < b := Nat.lt_of_lt_of_le HG3.out (FO.out b (List.mem_append_left _ HBF.out))
  have hb7 : b ≠ g7 := HO7.out b (List.mem_append_left _ HBF.out)
  have n_ := NO.out.same (w1 := (((((w12.setCell ⟨b, u.toNat * 6, none⟩ (.int .i64 (withT P y r x).f0)).setCell ⟨b, u.toNat * 6 + 1, none⟩ (.int .i64 (withT P y r x).f1.f0)).setCell ⟨b, u.toNat * 6 + 2, none⟩ (.int .i64 (withT P y r x).f1.f1)).setCell ⟨b, u.toNat * 6 + 3, none⟩ (.string (withT P y r x).f2)).setCell ⟨b, u.toNat * 6 + 4, none⟩ (.slice K4 (withT P y r x).f3.length k4)).setCell ⟨b, u.toNat * 6 + 5, none⟩ (.slice K5 (withT P y r x).f4.length k5)) (fun q hq => six_at_other q (fun e => hb5 (e ▸ hq)))
  have b3_ : ((((((w12.setCell ⟨b, u.toNat * 6, none⟩ (.int .i64 (withT P y r x).f0)).setCell ⟨b, u.toNat * 6 + 1, none⟩ (.int .i64 (withT P y r x).f1.f0)).setCell ⟨b, u.toNat * 6 + 2, none⟩ (.int .i64 (withT P y r x).f1.f1)).setCell ⟨b, u.toNat * 6 + 3, none⟩ (.string (withT P y r x).f2)).setCell ⟨b, u.toNat * 6 + 4, none⟩ (.slice K4 (withT P y r x).f3.length k4)).setCell ⟨b, u.toNat * 6 + 5, none⟩ (.slice K5 (withT P y r x).f4.length k5)).heap[g3]? = _ := (six_at_other g3 (Nat.ne_of_lt hb3)).trans B3.out
  have b7_ : ((((((w12.setCell ⟨b, u.toNat * 6, none⟩ (.int .i64 (withT P y r x).f0)).setCell ⟨b, u.toNat * 6 + 1, none⟩ (.int .i64 (withT P y r x).f1.f0)).setCell ⟨b, u.toNat * 6 + 2, none⟩ (.int .i64 (withT P y r x).f1.f1)).setCell ⟨b, u.toNat * 6 + 3, none⟩ (.string (withT P y r x).f2)).setCell ⟨b, u.toNat * 6 + 4, none⟩ (.slice K4 (withT P y r x).f3.length k4)).setCell ⟨b, u.toNat * 6 + 5, none⟩ (.slice K5 (withT P y r x).f4.length k5)).heap[g7]? = _ := (six_at_other g7 (fun e => hb7 e.symm)).trans B7.out
  have l_ := six_at_below (v0 := .int .i64 (withT P y r x).f0) (v1 := .int .i64 (withT P y r x).f1.f0) (v2 := .int .i64 (withT P y r x).f1.f1) (v3 := .string (withT P y r x).f2) (v4 := .slice K4 (withT P y r x).f3.length k4) (v5 := .slice K5 (withT P y r x).f4.length k5) (o := u.toNat * 6) L7.out (Nat.le_trans g3w (Nat.le_of_lt hb3))
  generalize (((((w12.setCell ⟨b, u.toNat * 6, none⟩ (.int .i64 (withT P y r x).f0)).setCell ⟨b, u.toNat * 6 + 1, none⟩ (.int .i64 (withT P y r x).f1.f0)).setCell ⟨b, u.toNat * 6 + 2, none⟩ (.int .i64 (withT P y r x).f1.f1)).setCell ⟨b, u.toNat * 6 + 3, none⟩ (.string (withT P y r x).f2)).setCell ⟨b, u.toNat * 6 + 4, none⟩ (.slice K4 (withT P y r x).f3.length k4)).setCell ⟨b, u.toNat * 6 + 5, none⟩ (.slice K5 (withT P y r x).f4.length k5) = w13 at *
  replace B7 := Aside0.mk b7_; replace B3 := Aside0.mk b3_; replace NO := Aside0.mk n_; replace L7 := Aside0.mk l_
  have HSW := Aside0.mk hS
  clear n_ b3_ b7_ l_ hS VO HBK B1 B2
  obtain ⟨o0, o1, o2, o3, o4, o5, -⟩ := six_cells B7.out
  obtain ⟨r0, r1, r2, r3, r4, r5, z0, z1, z2, z3, z4, z5⟩ := six_cells B3.out
  have hne3 := HNE.out.2.2; have hne4 := HNE.out.2.2.symm
  go_wp2
  have hP := six_put (v0 := .int .i64 v.f0) (v1 := .int .i64 v.f1.f0) (v2 := .int .i64 v.f1.f1) (v3 := .string v.f2) (v4 := .slice (some ⟨b, 0, none⟩) v.f3.length v.f3.length) (v5 := .slice O5 v.f4.length v.f4.length) B3.out
  refine bodyPost_ret (results_cell_row rfl _ _ g3 28 #[.int .i64 v.f0, .int .i64 v.f1.f0, .int .i64 v.f1.f1, .string v.f2, .slice (some ⟨b, 0, none⟩) v.f3.length v.f3.length, .slice O5 v.f4.length v.f4.length] (0, 0) _ rfl hP Tryd.underlying28 rfl (by kernel_rfl)) rfl ?_
  obtain rfl := HNR.out
  obtain ⟨fp', SV, SN, SM⟩ := HSW.out
  have hq : ∀ q ∈ fp' ++ f5, g3 < q := fun q hq => by
   have h3 := HG3.out
   have h4 := HB311.out
   rcases List.mem_append.1 hq with h | h
   ·rcases SM q h with h | h
    ·have := FO.out q (List.mem_append_left _ h); omega
    ·have := SKF.out q h; omega
   ·have := FO.out q (List.mem_append_right _ h); omega
  exact ⟨some ⟨b, 0, none⟩, v.f3.length, O5, v.f4.length, fp', f5, (by rw [List.length_set]), Nat.le_of_eq List.length_set, Nat.le_refl _, VRow.same _ SV (fun q h => six_same q (Nat.ne_of_gt (hq q (List.mem_append_left _ h)))), NO.out.same (fun q h => six_same q (Nat.ne_of_gt (hq q (List.mem_append_right _ h)))), SN, fun q h => Nat.le_trans g3w (Nat.le_of_lt (hq q h)), six_below L7.out g3w⟩
end Go.Proofs.YtebcepbamlokcaaDoor.Q
namespace Go.Proofs.YtebcepbamlokcaaDoor.Q
open Go.RowKit Go.Proofs.YtebcepbamlokcaaDoorW.PrintWords Go.Proofs.YtebcepbamlokcaaDoorW.PrintLast
set_option linter.unusedVariables false
set_option linter.unusedSimpArgs false


def withRes (P : S28 → ByteArray → Int) (okb okx oky : Bool) (v : S28) (path : List ByteArray) (x : S28) : Option S28 := if (atRes P okb v path).isSome = true ∧ okx = true ∧ oky = true then some (withT P v path x) else none
theorem atRes_some {P : S28 → ByteArray → Int} {okb : Bool} {v : S28} {path : List ByteArray} (h : (atRes P okb v path).isSome = true) : okb = true ∧ (At P v path).isSome = true := by
  cases okb with
  | false => cases h
  | true => exact ⟨rfl, h⟩
theorem VRow.nil_ (d : Nat) (w : World) (A : Option Addr) : VRow d w A [] [] := by cases d; exact ⟨rfl, rfl⟩; exact .inl ⟨rfl, rfl⟩

set_option maxHeartbeats 800000 in
set_option maxRecDepth 100000 in
theorem implWith_calls (G : S28 → Prop) (d : Nat) (P : S28 → ByteArray → Int) (k : Nat) (okb okx oky : Bool) (v x : S28) (path : List ByteArray) (HG0 : okb = true → Good G d P path) (hv0 : okb = true → G v) (hx0 : okx = true → Fit d x.f3 ∧ x.f4.length ≤ 2097152)
    (hok : impl_ValueOk.f k v.f0 v.f1.f0 v.f1.f1 v.f2 v.f3 v.f4 = some okb) (hokx : impl_ValueOk.f k x.f0 x.f1.f0 x.f1.f1 x.f2 x.f3 x.f4 = some okx)
    (hoky : okb = true → okx = true → (At P v path).isSome = true → impl_ValueOk.f k (withT P v path x).f0 (withT P v path x).f1.f0 (withT P v path x).f1.f1 (withT P v path x).f2 (withT P v path x).f3 (withT P v path x).f4 = some oky ∧ Fit (d + path.length) (withT P v path x).f3 ∧ (withT P v path x).f4.length ≤ 2097152)
    (hst0 : okb = true → ∀ x, G x → ∀ s ∈ path, impl_Value_place.f x.f0 x.f1.f0 x.f1.f1 x.f2 x.f3 x.f4 s = some (P x s))
    (w : World) (A4 : Option Addr) (c4 : Nat) (A5 : Option Addr) (c5 : Nat) (AP : Option Addr) (cP : Nat) (X4 : Option Addr) (x4 : Nat) (X5 : Option Addr) (x5 : Nat) (h4 : Kd.C k28 w A4 v.f3.length v.f3) (l4 : v.f3.length ≤ c4) (h5 : Kd.C Kd.string w A5 v.f4.length v.f4) (l5 : v.f4.length ≤ c5) (hp : Kd.C Kd.string w AP path.length path) (lp : path.length ≤ cP) (g4 : Kd.C k28 w X4 x.f3.length x.f3) (m4 : x.f3.length ≤ x4) (g5 : Kd.C Kd.string w X5 x.f4.length x.f4) (m5 : x.f4.length ≤ x5) (hl : LaidG 15 w) :
    Calls Tryd.prog 19 #[.agg #[.int .i64 v.f0, .int .i64 v.f1.f0, .int .i64 v.f1.f1, .string v.f2, .slice A4 v.f3.length c4, .slice A5 v.f4.length c5], .slice AP path.length cP, .agg #[.int .i64 x.f0, .int .i64 x.f1.f0, .int .i64 x.f1.f1, .string x.f2, .slice X4 x.f3.length x4, .slice X5 x.f4.length x5]] w fun e' w' => ∃ (y : S28) (B4 : Option Addr) (b4 : Nat) (B5 : Option Addr) (b5 : Nat) (f4 f5 : List Nat),
      y = orZero (withRes P okb okx oky v path x) ∧ e' = .returned (.tuple #[.agg #[.int .i64 y.f0, .int .i64 y.f1.f0, .int .i64 y.f1.f1, .string y.f2, .slice B4 y.f3.length b4, .slice B5 y.f4.length b5], .bool (withRes P okb okx oky v path x).isSome]) ∧ y.f3.length ≤ b4 ∧ y.f4.length ≤ b5 ∧ VRow (d + path.length) w' B4 y.f3 f4 ∧ NRow w' B5 y.f4 f5 ∧ (f4 ++ f5).Nodup ∧ (∀ q ∈ f4 ++ f5, w.heap.size ≤ q) ∧ Below w.heap.size w w' := by
  have H4 := Aside0.mk h4; have H5 := Aside0.mk h5; have HP := Aside0.mk hp; have HL := Aside0.mk hl; have HOK := Aside0.mk hok; have HOX := Aside0.mk hokx; have HX4 := Aside0.mk g4; have HX5 := Aside0.mk g5
  obtain ⟨ba, hba⟩ : ∃ b, (atRes P okb v path).isSome = b := ⟨_, rfl⟩
  obtain ⟨y, hy⟩ : ∃ y, y = withT P v path x := ⟨_, rfl⟩
  obtain ⟨res, hres⟩ : ∃ r, r = withRes P okb okx oky v path x := ⟨_, rfl⟩
  rw [← hres]
  have HBA := Aside0.mk hba; have HY := Aside0.mk hy
  have hcase : (ba = false ∧ res = none) ∨ (ba = true ∧ okx = false ∧ res = none) ∨ (ba = true ∧ okx = true ∧ oky = false ∧ res = none) ∨ (ba = true ∧ okx = true ∧ oky = true ∧ res = some y) := by
    rw [hres]; unfold withRes; rw [hba, hy]
    cases ba <;> cases okx <;> cases oky <;> simp
  have mk_ := Mk.mk (n := 0)
  have AG0 := Aside0.mk HG0; have AV0 := Aside0.mk hv0; have AX0 := Aside0.mk hx0; have AY0 := Aside0.mk hoky; have AS0 := Aside0.mk hst0
  clear h4 h5 hp hl hok hokx g4 g5 hba hy hres HG0 hv0 hx0 hoky hst0
  rcases hcase with ⟨rfl, rfl⟩ | ⟨rfl, rfl, rfl⟩ | ⟨rfl, rfl, rfl, rfl⟩ | ⟨rfl, rfl, rfl, rfl⟩ <;> (
  go_enter Tryd.func19, Tryd.ntmps19
  go_wp2_with (first
    | ((with_reducible refine gate_dst (N := 3) rfl ?_); refine box_event ?hg (N := 3) ?hd (cs := #[.int .i64 v.f0, .int .i64 v.f1.f0, .int .i64 v.f1.f1, .string v.f2, .slice A4 v.f3.length c4, .slice A5 v.f4.length c5]) (t := 28) ?hr ?_; (case hd => rfl); (case hg => rfl); (case hr => first | (go_simp; done) | (go_simp; rfl))
       intro g1 hg wk hbox hb
       have B1 := Aside0.mk hbox
       have L := Aside0.mk hb
       clear hg hbox hb)
    | ((with_reducible refine gate_dst (N := 5) rfl ?_); refine box_event ?hg (N := 5) ?hd (cs := #[.int .i64 x.f0, .int .i64 x.f1.f0, .int .i64 x.f1.f1, .string x.f2, .slice X4 x.f3.length x4, .slice X5 x.f4.length x5]) (t := 28) ?hr ?_; (case hd => rfl); (case hg => rfl); (case hr => first | (go_simp; done) | (go_simp; rfl))
       intro g2 hg wk hbox hb
       have B2 := Aside0.mk hbox
       replace B1 := Aside0.mk (blk_keep B1.out hb (blk_lt B1.out))
       replace L := Aside0.mk (below_step L.out hb)
       clear hg hbox hb)
    | ((with_reducible refine gate_dst (N := 6) rfl ?_); refine box_event ?hg (N := 6) ?hd (cs := #[.int .i64 0, .int .i64 0, .int .i64 0, .string (⟨#[]⟩ : ByteArray), .slice none 0 0, .slice none 0 0]) (t := 28) ?hr ?_; (case hd => rfl); (case hg => rfl); (case hr => first | (go_simp; done) | (go_simp; rfl))
       intro g3 hg wk hbox hb
       have g3w : w.heap.size ≤ g3 := by have := L.out.size; omega
       have B3 := Aside0.mk hbox
       replace B1 := Aside0.mk (blk_keep B1.out hb (blk_lt B1.out))
       replace B2 := Aside0.mk (blk_keep B2.out hb (blk_lt B2.out))
       replace L := Aside0.mk (below_step L.out hb)
       clear hg hbox hb
       obtain ⟨p0, p1, p2, p3, p4, p5, -⟩ := six_cells B1.out)
    | (go_at_call 11
       have _st : Mk 0 := mk_
       refine (implAt_calls G d P k okb v path AG0.out AV0.out HOK.out AS0.out _ A4 c4 A5 c5 AP cP (Kd.C_below H4.out L.out) l4 (Kd.C_below H5.out L.out) l5 (Kd.C_below HP.out L.out) lp (LaidG.below (m := 15) (by decide) HL.out L.out)).mono ?_
       rintro e' w5 ⟨xo, O4, o4, O5, o5, f4, f5, -, rfl, -, -, -, -, -, -, hb⟩
       rw [HBA.out]
       replace B1 := Aside0.mk (blk_keep B1.out hb (blk_lt B1.out))
       replace B2 := Aside0.mk (blk_keep B2.out hb (blk_lt B2.out))
       replace B3 := Aside0.mk (blk_keep B3.out hb (blk_lt B3.out))
       replace L := Aside0.mk (below_step L.out hb)
       clear p0 p1 p2 p3 p4 p5
       clear hb
       replace mk_ := Mk.mk (n := 1))
    | ((with_reducible refine gate_dst (N := 8) rfl ?_); refine box_event ?hg (N := 8) ?hd (cs := #[.int .i64 0, .int .i64 0, .int .i64 0, .string (⟨#[]⟩ : ByteArray), .slice none 0 0, .slice none 0 0]) (t := 28) ?hr ?_; (case hd => rfl); (case hg => rfl); (case hr => first | (go_simp; done) | (go_simp; rfl))
       intro g8 hg wk hbox hb
       have g8w : w.heap.size ≤ g8 := by have := L.out.size; omega
       have B8 := Aside0.mk hbox
       have ne1 : g1 ≠ g8 := by have := blk_lt B1.out; omega
       have ne2 : g2 ≠ g8 := by have := blk_lt B2.out; omega
       have ne3 : g3 ≠ g8 := by have := blk_lt B3.out; omega
       replace B1 := Aside0.mk (blk_keep B1.out hb (blk_lt B1.out))
       replace B2 := Aside0.mk (blk_keep B2.out hb (blk_lt B2.out))
       replace B3 := Aside0.mk (blk_keep B3.out hb (blk_lt B3.out))
       replace L := Aside0.mk (below_step L.out hb)
       clear hg hbox hb
       have ne2s := ne2.symm
       obtain ⟨q0, q1, q2, q3, q4, q5, -⟩ := six_cells B2.out
       obtain ⟨r0, r1, r2, r3, r4, r5, zr0, zr1, zr2, zr3, zr4, zr5⟩ := six_cells B8.out)
    | ((with_reducible refine gate_dst (N := 24) rfl ?_)
       have _st : Mk 1 := mk_
       have hk := six_kept wk g8 (.int .i64 xo.f0) (.int .i64 xo.f1.f0) (.int .i64 xo.f1.f1) (.string xo.f2) (.slice O4 xo.f3.length o4) (.slice O5 xo.f4.length o5)
       have b_ := six_put (v0 := .int .i64 xo.f0) (v1 := .int .i64 xo.f1.f0) (v2 := .int .i64 xo.f1.f1) (v3 := .string xo.f2) (v4 := .slice O4 xo.f3.length o4) (v5 := .slice O5 xo.f4.length o5) B8.out
       have l_ := six_below (v0 := .int .i64 xo.f0) (v1 := .int .i64 xo.f1.f0) (v2 := .int .i64 xo.f1.f1) (v3 := .string xo.f2) (v4 := .slice O4 xo.f3.length o4) (v5 := .slice O5 xo.f4.length o5) L.out g8w
       clear r0 r1 r2 r3 r4 r5 zr0 zr1 zr2 zr3 zr4 zr5
       generalize (((((wk.setCell ⟨g8, 0, none⟩ (.int .i64 xo.f0)).setCell ⟨g8, 1, none⟩ (.int .i64 xo.f1.f0)).setCell ⟨g8, 2, none⟩ (.int .i64 xo.f1.f1)).setCell ⟨g8, 3, none⟩ (.string xo.f2)).setCell ⟨g8, 4, none⟩ (.slice O4 xo.f3.length o4)).setCell ⟨g8, 5, none⟩ (.slice O5 xo.f4.length o5) = w8 at *
       replace B1 := Aside0.mk (blk_kept B1.out hk (fun h => ne1 h))
       replace B2 := Aside0.mk (blk_kept B2.out hk (fun h => ne2 h))
       replace B3 := Aside0.mk (blk_kept B3.out hk (fun h => ne3 h))
       replace B8 := Aside0.mk b_
       replace L := Aside0.mk l_
       clear hk b_ l_
       clear q0 q1 q2 q3 q4 q5
       obtain ⟨r0, r1, r2, r3, r4, r5, zr0, zr1, zr2, zr3, zr4, zr5⟩ := six_cells B3.out
       replace mk_ := Mk.mk (n := 2))
    | (go_at_call 21
       have _st : Mk 1 := mk_
       have hk := six_kept wk g8 (.int .i64 xo.f0) (.int .i64 xo.f1.f0) (.int .i64 xo.f1.f1) (.string xo.f2) (.slice O4 xo.f3.length o4) (.slice O5 xo.f4.length o5)
       have b_ := six_put (v0 := .int .i64 xo.f0) (v1 := .int .i64 xo.f1.f0) (v2 := .int .i64 xo.f1.f1) (v3 := .string xo.f2) (v4 := .slice O4 xo.f3.length o4) (v5 := .slice O5 xo.f4.length o5) B8.out
       have l_ := six_below (v0 := .int .i64 xo.f0) (v1 := .int .i64 xo.f1.f0) (v2 := .int .i64 xo.f1.f1) (v3 := .string xo.f2) (v4 := .slice O4 xo.f3.length o4) (v5 := .slice O5 xo.f4.length o5) L.out g8w
       clear r0 r1 r2 r3 r4 r5 zr0 zr1 zr2 zr3 zr4 zr5
       generalize (((((wk.setCell ⟨g8, 0, none⟩ (.int .i64 xo.f0)).setCell ⟨g8, 1, none⟩ (.int .i64 xo.f1.f0)).setCell ⟨g8, 2, none⟩ (.int .i64 xo.f1.f1)).setCell ⟨g8, 3, none⟩ (.string xo.f2)).setCell ⟨g8, 4, none⟩ (.slice O4 xo.f3.length o4)).setCell ⟨g8, 5, none⟩ (.slice O5 xo.f4.length o5) = w8 at *
       replace B1 := Aside0.mk (blk_kept B1.out hk (fun h => ne1 h))
       replace B2 := Aside0.mk (blk_kept B2.out hk (fun h => ne2 h))
       replace B3 := Aside0.mk (blk_kept B3.out hk (fun h => ne3 h))
       replace B8 := Aside0.mk b_
       replace L := Aside0.mk l_
       clear hk b_ l_
       refine (impl_ValueOk.calls k x.f0 x.f1.f0 x.f1.f1 x.f2 X4 x4 x.f3 X5 x5 x.f4 _ _ (Kd.C_below HX4.out L.out) m4 (Kd.C_below HX5.out L.out) m5 (LaidG.below (m := 2) (by decide) HL.out L.out) HOX.out).mono ?_
       rintro e' w9 ⟨rfl, hb⟩
       replace B1 := Aside0.mk (blk_keep B1.out hb (blk_lt B1.out))
       replace B2 := Aside0.mk (blk_keep B2.out hb (blk_lt B2.out))
       replace B3 := Aside0.mk (blk_keep B3.out hb (blk_lt B3.out))
       replace L := Aside0.mk (below_step L.out hb)
       clear q0 q1 q2 q3 q4 q5
       clear hb
       obtain ⟨p0, p1, p2, p3, p4, p5, -⟩ := six_cells B1.out
       obtain ⟨q0, q1, q2, q3, q4, q5, -⟩ := six_cells B2.out
       obtain ⟨r0, r1, r2, r3, r4, r5, zr0, zr1, zr2, zr3, zr4, zr5⟩ := six_cells B3.out
       replace mk_ := Mk.mk (n := 2))
    | (go_at_call 58
       have _st : Mk 2 := mk_
       obtain ⟨hok1, hat1⟩ := atRes_some HBA.out
       have hw := with_calls G d P path (AG0.out hok1) (AS0.out hok1) x (AX0.out (by first | rfl | trivial)).1 (AX0.out (by first | rfl | trivial)).2 path (fun s hs => hs) v (AV0.out hok1) hat1 _ A4 c4 A5 c5 AP cP X4 x4 X5 x5 (Kd.C_below H4.out L.out) l4 (Kd.C_below H5.out L.out) l5 (Kd.C_below HP.out L.out) lp (Kd.C_below HX4.out L.out) m4 (Kd.C_below HX5.out L.out) m5 (LaidG.below (m := 15) (by decide) HL.out L.out)
       have hy := AY0.out hok1 (by first | rfl | trivial) hat1
       rw [← HY.out] at hw hy
       refine hw.mono ?_
       rintro e' w10 ⟨K4, k4, K5, k5, j4, j5, rfl, n4, n5, KV, KN, KD, KF, hb⟩
       have VO := Aside0.mk KV
       have NO := Aside0.mk KN
       have HKD := Aside0.mk KD
       have HN4 := Aside0.mk n4
       have HN5 := Aside0.mk n5
       have HYF := Aside0.mk hy
       have HKF := Aside0.mk (show ∀ q ∈ j4 ++ j5, w.heap.size ≤ q ∧ g3 < q from fun q hq => by have := KF q hq; have := L.out.size; have := blk_lt B3.out; omega)
       replace B1 := Aside0.mk (blk_keep B1.out hb (blk_lt B1.out))
       replace B2 := Aside0.mk (blk_keep B2.out hb (blk_lt B2.out))
       replace B3 := Aside0.mk (blk_keep B3.out hb (blk_lt B3.out))
       replace L := Aside0.mk (below_step L.out hb)
       clear p0 p1 p2 p3 p4 p5
       clear q0 q1 q2 q3 q4 q5
       clear r0 r1 r2 r3 r4 r5 zr0 zr1 zr2 zr3 zr4 zr5
       clear hb KV KN KD KF hy hw n4 n5
       replace mk_ := Mk.mk (n := 3))
    | ((with_reducible refine gate_dst (N := 10) rfl ?_); refine box_event ?hg (N := 10) ?hd (cs := #[.int .i64 0, .int .i64 0, .int .i64 0, .string (⟨#[]⟩ : ByteArray), .slice none 0 0, .slice none 0 0]) (t := 28) ?hr ?_; (case hd => rfl); (case hg => rfl); (case hr => first | (go_simp; done) | (go_simp; rfl))
       intro g10 hg wk hbox hb
       have g10w : w.heap.size ≤ g10 := by have := L.out.size; omega
       have B10 := Aside0.mk hbox
       have ne4 : g3 ≠ g10 := by have := blk_lt B3.out; omega
       have hrow : ∀ q ∈ j4 ++ j5, q ≠ g10 := fun q hq => by rcases List.mem_append.1 hq with h | h; (have := VRow.lt _ VO.out q h; omega); (have := NRow.lt NO.out q h; omega)
       replace B3 := Aside0.mk (blk_keep B3.out hb (blk_lt B3.out))
       replace VO := Aside0.mk (VRow.same _ VO.out (Same.below (VRow.lt _ VO.out) hb))
       replace NO := Aside0.mk (NRow.same NO.out (Same.below (NRow.lt NO.out) hb))
       replace L := Aside0.mk (below_step L.out hb)
       clear hg hbox hb B1 B2
       obtain ⟨r0, r1, r2, r3, r4, r5, zr0, zr1, zr2, zr3, zr4, zr5⟩ := six_cells B10.out)
    | (go_at_call 21
       have _st : Mk 3 := mk_
       have hk := six_kept wk g10 (.int .i64 y.f0) (.int .i64 y.f1.f0) (.int .i64 y.f1.f1) (.string y.f2) (.slice K4 y.f3.length k4) (.slice K5 y.f4.length k5)
       have b_ := six_put (v0 := .int .i64 y.f0) (v1 := .int .i64 y.f1.f0) (v2 := .int .i64 y.f1.f1) (v3 := .string y.f2) (v4 := .slice K4 y.f3.length k4) (v5 := .slice K5 y.f4.length k5) B10.out
       have l_ := six_below (v0 := .int .i64 y.f0) (v1 := .int .i64 y.f1.f0) (v2 := .int .i64 y.f1.f1) (v3 := .string y.f2) (v4 := .slice K4 y.f3.length k4) (v5 := .slice K5 y.f4.length k5) L.out g10w
       clear r0 r1 r2 r3 r4 r5 zr0 zr1 zr2 zr3 zr4 zr5
       generalize (((((wk.setCell ⟨g10, 0, none⟩ (.int .i64 y.f0)).setCell ⟨g10, 1, none⟩ (.int .i64 y.f1.f0)).setCell ⟨g10, 2, none⟩ (.int .i64 y.f1.f1)).setCell ⟨g10, 3, none⟩ (.string y.f2)).setCell ⟨g10, 4, none⟩ (.slice K4 y.f3.length k4)).setCell ⟨g10, 5, none⟩ (.slice K5 y.f4.length k5) = w11 at *
       replace B3 := Aside0.mk (blk_kept B3.out hk (fun h => ne4 h))
       replace VO := Aside0.mk (VRow.same _ VO.out (Same.kept (VRow.lt _ VO.out) hk (fun q hq => hrow q (List.mem_append_left _ hq))))
       replace NO := Aside0.mk (NRow.same NO.out (Same.kept (NRow.lt NO.out) hk (fun q hq => hrow q (List.mem_append_right _ hq))))
       replace B10 := Aside0.mk b_
       replace L := Aside0.mk l_
       clear hk b_ l_
       refine (impl_ValueOk.calls k y.f0 y.f1.f0 y.f1.f1 y.f2 K4 k4 y.f3 K5 k5 y.f4 _ _ (VRow.reads _ VO.out (Fit.long _ HYF.out.2.1)) HN4.out (NO.out.reads (Nat.le_trans HYF.out.2.2 (by decide))) HN5.out (LaidG.below (m := 2) (by decide) HL.out L.out) HYF.out.1).mono ?_
       rintro e' w12 ⟨rfl, hb⟩
       replace B3 := Aside0.mk (blk_keep B3.out hb (blk_lt B3.out))
       replace B10 := Aside0.mk (blk_keep B10.out hb (blk_lt B10.out))
       replace VO := Aside0.mk (VRow.same _ VO.out (Same.below (VRow.lt _ VO.out) hb))
       replace NO := Aside0.mk (NRow.same NO.out (Same.below (NRow.lt NO.out) hb))
       replace L := Aside0.mk (below_step L.out hb)
       clear hb
       obtain ⟨q0, q1, q2, q3, q4, q5, -⟩ := six_cells B10.out
       obtain ⟨r0, r1, r2, r3, r4, r5, zr0, zr1, zr2, zr3, zr4, zr5⟩ := six_cells B3.out
       replace mk_ := Mk.mk (n := 4))))
  iterate 3 (
    have hP := six_put (v0 := .int .i64 0) (v1 := .int .i64 0) (v2 := .int .i64 0) (v3 := .string ⟨#[]⟩) (v4 := .slice none 0 0) (v5 := .slice none 0 0) B3.out
    refine bodyPost_ret (results_ct rfl _ _ g3 28 #[.int .i64 0, .int .i64 0, .int .i64 0, .string ⟨#[]⟩, .slice none 0 0, .slice none 0 0] (0, 0) _ rfl hP Tryd.underlying28 rfl (by kernel_rfl)) rfl ?_
    exact ⟨z28, none, 0, none, 0, [], [], rfl, rfl, Nat.le_refl _, Nat.le_refl _, VRow.nil_ _ _ _, .inl ⟨rfl, rfl⟩, List.nodup_nil, by simp, six_below L.out g3w⟩)
  have hP := six_put (v0 := .int .i64 y.f0) (v1 := .int .i64 y.f1.f0) (v2 := .int .i64 y.f1.f1) (v3 := .string y.f2) (v4 := .slice K4 y.f3.length k4) (v5 := .slice K5 y.f4.length k5) B3.out
  refine bodyPost_ret (results_ct rfl _ _ g3 28 #[.int .i64 y.f0, .int .i64 y.f1.f0, .int .i64 y.f1.f1, .string y.f2, .slice K4 y.f3.length k4, .slice K5 y.f4.length k5] (0, 0) _ rfl hP Tryd.underlying28 rfl (by kernel_rfl)) rfl ?_
  exact ⟨y, K4, k4, K5, k5, j4, j5, rfl, rfl, HN4.out, HN5.out, VRow.same _ VO.out (fun q hq => six_same q (by have := (HKF.out q (List.mem_append_left _ hq)).2; omega)), NO.out.same (fun q hq => six_same q (by have := (HKF.out q (List.mem_append_right _ hq)).2; omega)), HKD.out, fun q hq => (HKF.out q hq).1, six_below L.out g3w⟩
end Go.Proofs.YtebcepbamlokcaaDoor.Q
namespace Go.Proofs.YtebcepbamlokcaaDoor.Q
open Go.RowKit Go.Proofs.YtebcepbamlokcaaDoorW.PrintWords Go.Proofs.YtebcepbamlokcaaDoorW.PrintLast
set_option linter.unusedVariables false
set_option linter.unusedSimpArgs false

theorem qGWithSs0_ {P : Prop} (h : P := by first | (go_simp; done) | (go_simp; rfl)) : P := h
def withOp (P : S28 → ByteArray → Int) (v : S28) (path : List ByteArray) (x : S28) : Option S28 := if (At P v path).isSome = true then some (withT P v path x) else none
theorem withOp_cons {P : S28 → ByteArray → Int} {v x : S28} {s : ByteArray} {r : List ByteArray} (h : 0 ≤ P v s) : withOp P v (s :: r) x = (withOp P (rd_T28 v.f3 (P v s)) r x).map (fun y => (⟨v.f0, v.f1, v.f2, v.f3.set (P v s).toNat y, v.f4⟩ : S28)) := by
 have ha : At P v (s :: r) = At P (rd_T28 v.f3 (P v s)) r := by
  show (if P v s < 0 then none else _) = _
  rw [if_neg (by omega)]
 unfold withOp
 rw [ha]
 by_cases hb : (At P (rd_T28 v.f3 (P v s)) r).isSome = true
 ·rw [if_pos hb, if_pos hb]; rfl
 ·rw [if_neg hb, if_neg hb]; rfl
theorem withOp_neg {P : S28 → ByteArray → Int} {v x : S28} {s : ByteArray} {r : List ByteArray} (h : P v s < 0) : withOp P v (s :: r) x = none := by
 unfold withOp
 rw [if_neg]
 show ¬ (if P v s < 0 then none else _ : Option S28).isSome = true
 rw [if_pos h]; simp

set_option maxHeartbeats 1000000 in
set_option maxRecDepth 100000 in
theorem l13With_calls (G : S28 → Prop) (d : Nat) (P : S28 → ByteArray → Int) (k : Nat) (pl : List ByteArray) (HG : Good G d P pl) (hst : ∀ x, G x → ∀ s ∈ pl, spec_l13Step.f k x.f0 x.f1.f0 x.f1.f1 x.f2 x.f3 x.f4 s = some (P x s))
  (hcp : ∀ x, G x → spec_l13Copy.f k x.f0 x.f1.f0 x.f1.f1 x.f2 x.f3 x.f4 = some (x.f0, x.f1.f0, x.f1.f1, x.f2, x.f3, x.f4)) (x : S28) (hx : spec_l13Copy.f k x.f0 x.f1.f0 x.f1.f1 x.f2 x.f3 x.f4 = some (x.f0, x.f1.f0, x.f1.f1, x.f2, x.f3, x.f4)) :
  ∀ (path : List ByteArray) (hsub : ∀ s ∈ path, s ∈ pl) (v : S28) (hv : G v) (w : World) (A4 : Option Addr) (c4 : Nat) (A5 : Option Addr) (c5 : Nat) (AP : Option Addr) (cP : Nat) (X4 : Option Addr) (x4 : Nat) (X5 : Option Addr) (x5 : Nat)
  (h4 : Kd.C k28 w A4 v.f3.length v.f3) (l4 : v.f3.length ≤ c4) (h5 : Kd.C Kd.string w A5 v.f4.length v.f4) (l5 : v.f4.length ≤ c5) (hp : Kd.C Kd.string w AP path.length path) (lp : path.length ≤ cP) (g4 : Kd.C k28 w X4 x.f3.length x.f3) (m4 : x.f3.length ≤ x4) (g5 : Kd.C Kd.string w X5 x.f4.length x.f4) (m5 : x.f4.length ≤ x5),
  Calls Tryd.prog 59 #[.agg #[.int .i64 v.f0, .int .i64 v.f1.f0, .int .i64 v.f1.f1, .string v.f2, .slice A4 v.f3.length c4, .slice A5 v.f4.length c5], .slice AP path.length cP, .agg #[.int .i64 x.f0, .int .i64 x.f1.f0, .int .i64 x.f1.f1, .string x.f2, .slice X4 x.f3.length x4, .slice X5 x.f4.length x5]] w fun e' w' => ∃ (v4 v5 : Value),
   e' = .returned (.tuple #[.agg #[.int .i64 (orZero (withOp P v path x)).f0, .int .i64 (orZero (withOp P v path x)).f1.f0, .int .i64 (orZero (withOp P v path x)).f1.f1, .string (orZero (withOp P v path x)).f2, v4, v5], .bool (withOp P v path x).isSome]) ∧ Kd.R k28 28 w' w.heap.size (fun _ => True) v4 (orZero (withOp P v path x)).f3 ∧ Kd.R Kd.string 9 w' w.heap.size (fun _ => True) v5 (orZero (withOp P v path x)).f4 ∧ Below w.heap.size w w' := by
 intro path
 induction path with
 | nil =>
  intro hsub v hv w A4 c4 A5 c5 AP cP X4 x4 X5 x5 h4 l4 h5 l5 hp lp g4 m4 g5 m5
  have HX4 := Aside0.mk g4; have HX5 := Aside0.mk g5; have HC := Aside0.mk hx
  clear h4 h5 hp g4 g5 hsub hst hcp HG hv hx
  show Calls _ _ #[.agg #[.int .i64 v.f0, .int .i64 v.f1.f0, .int .i64 v.f1.f1, .string v.f2, .slice A4 v.f3.length c4, .slice A5 v.f4.length c5], .slice AP 0 cP, .agg #[.int .i64 x.f0, .int .i64 x.f1.f0, .int .i64 x.f1.f1, .string x.f2, .slice X4 x.f3.length x4, .slice X5 x.f4.length x5]] w _
  go_enter Tryd.func59, Tryd.ntmps59
  go_wp2_with (first
   | (
         (with_reducible refine gate_dst (N := 3) rfl ?_); refine box_event ?hg (N := 3) ?hd (cs := #[.int .i64 v.f0, .int .i64 v.f1.f0, .int .i64 v.f1.f1, .string v.f2, .slice A4 v.f3.length c4, .slice A5 v.f4.length c5]) (t := 28) ?hr ?_; (case hd => rfl); (case hg => rfl); (case hr => exact qGWithSs0_)
         intro g1 hg wk hbox hb
         have B1 := Aside0.mk hbox
         have L := Aside0.mk hb
         clear hg hbox hb)
   | (
         (with_reducible refine gate_dst (N := 5) rfl ?_); refine box_event ?hg (N := 5) ?hd (cs := #[.int .i64 x.f0, .int .i64 x.f1.f0, .int .i64 x.f1.f1, .string x.f2, .slice X4 x.f3.length x4, .slice X5 x.f4.length x5]) (t := 28) ?hr ?_; (case hd => rfl); (case hg => rfl); (case hr => exact qGWithSs0_)
         intro g2 hg wk hbox hb
         have B2 := Aside0.mk hbox
         replace B1 := Aside0.mk (blk_keep B1.out hb (blk_lt B1.out))
         replace L := Aside0.mk (below_step L.out hb)
         clear hg hbox hb)
   | (
         (with_reducible refine gate_dst (N := 6) rfl ?_); refine box_event ?hg (N := 6) ?hd (cs := #[.int .i64 0, .int .i64 0, .int .i64 0, .string (⟨#[]⟩ : ByteArray), .slice none 0 0, .slice none 0 0]) (t := 28) ?hr ?_; (case hd => rfl); (case hg => rfl); (case hr => exact qGWithSs0_)
         intro g3 hg wk hbox hb
         have g3w : w.heap.size ≤ g3 := by have := L.out.size; omega
         have B3 := Aside0.mk hbox
         replace B1 := Aside0.mk (blk_keep B1.out hb (blk_lt B1.out))
         replace B2 := Aside0.mk (blk_keep B2.out hb (blk_lt B2.out))
         replace L := Aside0.mk (below_step L.out hb)
         clear hg hbox hb
         obtain ⟨q0, q1, q2, q3, q4, q5, -⟩ := six_cells B2.out)
   | (
         go_at_call 47
         refine (spec_l13Copy.calls k x.f0 x.f1.f0 x.f1.f1 x.f2 X4 x4 x.f3 X5 x5 x.f4 _ _ _ _ _ _ _ (Kd.C_below HX4.out L.out) m4 (Kd.C_below HX5.out L.out) m5 HC.out).mono ?_
         rintro e' w5 ⟨u4, u5, rfl, R4, R5, hb⟩
         have HS := Aside0.mk L.out.size
         have hg3 := blk_lt B3.out
         replace B3 := Aside0.mk (blk_keep B3.out hb (blk_lt B3.out))
         replace L := Aside0.mk (below_step L.out hb)
         have Q4 := Aside0.mk R4
         have Q5 := Aside0.mk R5
         obtain ⟨O4, o4, rfl⟩ := Kd.R_slice R4
         obtain ⟨O5, o5, rfl⟩ := Kd.R_slice R5
         obtain ⟨r0, r1, r2, r3, r4, r5, zr0, zr1, zr2, zr3, zr4, zr5⟩ := six_cells B3.out
         clear q0 q1 q2 q3 q4 q5
         clear hb R4 R5))
  have hP := six_put (v0 := .int .i64 x.f0) (v1 := .int .i64 x.f1.f0) (v2 := .int .i64 x.f1.f1) (v3 := .string x.f2) (v4 := .slice O4 x.f3.length o4) (v5 := .slice O5 x.f4.length o5) B3.out
  refine bodyPost_ret (results_ct rfl _ _ g3 28 #[.int .i64 x.f0, .int .i64 x.f1.f0, .int .i64 x.f1.f1, .string x.f2, .slice O4 x.f3.length o4, .slice O5 x.f4.length o5] (0, 0) _ rfl hP Tryd.underlying28 rfl (by kernel_rfl)) rfl ?_
  exact ⟨_, _, rfl, Kd.R_lower (R_six Q4.out hg3) HS.out, Kd.R_lower (R_six Q5.out hg3) HS.out, six_below L.out g3w⟩
 | cons s r ih =>
  intro hsub v hv w A4 c4 A5 c5 AP cP X4 x4 X5 x5 h4 l4 h5 l5 hp lp g4 m4 g5 m5
  have H4 := Aside0.mk h4; have H5 := Aside0.mk h5; have HP := Aside0.mk hp; have HX4 := Aside0.mk g4; have HX5 := Aside0.mk g5
  have hlt := HG.lt v hv s (hsub s List.mem_cons_self)
  have hstp := hst v hv s (hsub s List.mem_cons_self)
  have hkid := HG.kid v hv
  have HCV := Aside0.mk (hcp v hv)
  obtain ⟨A0, rfl, hsrc⟩ := Kd.at_string HP.out (0 : Int) (by omega) (by simp only [List.length_cons]; omega)
  have hcut := Kd.C_drop (m := 1) HP.out (by simp only [List.length_cons]; omega) lp
  have hih := ih (fun t ht => hsub t (List.mem_cons_of_mem _ ht)) (rd_T28 v.f3 (P v s))
  obtain ⟨res, hres⟩ : ∃ q, q = withOp P v (s :: r) x := ⟨_, rfl⟩
  have hres1 : P v s < 0 → res = none := fun h => hres.trans (withOp_neg h)
  have hres2 : 0 ≤ P v s → res = (withOp P (rd_T28 v.f3 (P v s)) r x).map (fun y => (⟨v.f0, v.f1, v.f2, v.f3.set (P v s).toNat y, v.f4⟩ : S28)) := fun h => hres.trans (withOp_cons h)
  rw [← hres]
  clear hres hsub hst ih h4 h5 hp g4 g5 hv hcp HG hx
  generalize P v s = u at *
  have hn : (s :: r).length = r.length + 1 := rfl
  rw [hn] at lp ⊢
  obtain ⟨n, hnr⟩ : ∃ n, n = r.length + 1 := ⟨_, rfl⟩
  rw [← hnr] at lp ⊢
  have hn0 : 0 < n := by omega
  have HSTP := Aside0.mk hstp; have HLT := Aside0.mk hlt; have HIH0 := Aside0.mk hih; have HKID := Aside0.mk hkid; have HR1 := Aside0.mk hres1; have HR2 := Aside0.mk hres2; have HLP := Aside0.mk lp; have HNR := Aside0.mk hnr
  have hz1 : ((n : Int) == 0) = false := by rw [beq_eq_false_iff_ne]; omega
  have hz2 : decide ((n : Int) = 0) = false := decide_eq_false (by omega)
  have hz3 : (n == 0) = false := by rw [beq_eq_false_iff_ne]; omega
  have hz4 : decide (n = 0) = false := decide_eq_false (by omega)
  have hi0 : ((0 : Int) < (n : Int)) = True := eq_true (by omega)
  have hi1 : (0 < n) = True := eq_true hn0
  obtain ⟨i0, hi0_, _, hsz0, _⟩ := info_parts info9
  have hrun0 := cut_from (P := Tryd.prog) 26 9 .i64 Tryd.underlying26 hi0_ 1 hsz0 (some A0) n cP 1 (by omega) (by omega)
  rw [show n - (1 : Int).toNat = r.length by have : (1 : Int).toNat = 1 := rfl; omega] at hrun0
  obtain ⟨AT, hAT⟩ : ∃ AT, AT = (if cP = 1 then some A0 else (some A0).map (·.add (1 * 1))) := ⟨_, rfl⟩
  have hrun : ∀ W : World, (Instr.slice 26 (.slice (some A0) n cP) (some (.int .i64 1)) none none).run Tryd.prog W = .ok (.slice AT r.length (cP - 1)) W := fun W => by rw [hAT]; exact hrun0 W
  have hcut' : Kd.C Kd.string w AT r.length r := by rw [hAT]; exact hcut
  have HCT := Aside0.mk hcut'
  clear hrun0 hAT hcut' hcut hlt hstp hkid hih hres1 hres2 lp hnr hn hn0
  go_enter Tryd.func59, Tryd.ntmps59
  go_wp2_with (first
   | (
         (with_reducible refine gate_dst (N := 3) rfl ?_); refine box_event ?hg (N := 3) ?hd (cs := #[.int .i64 v.f0, .int .i64 v.f1.f0, .int .i64 v.f1.f1, .string v.f2, .slice A4 v.f3.length c4, .slice A5 v.f4.length c5]) (t := 28) ?hr ?_; (case hd => rfl); (case hg => rfl); (case hr => exact qGWithSs0_)
         intro g1 hg wk hbox hb
         have B1 := Aside0.mk hbox
         have L := Aside0.mk hb
         clear hg hbox hb)
   | (
         (with_reducible refine gate_dst (N := 5) rfl ?_); refine box_event ?hg (N := 5) ?hd (cs := #[.int .i64 x.f0, .int .i64 x.f1.f0, .int .i64 x.f1.f1, .string x.f2, .slice X4 x.f3.length x4, .slice X5 x.f4.length x5]) (t := 28) ?hr ?_; (case hd => rfl); (case hg => rfl); (case hr => exact qGWithSs0_)
         intro g2 hg wk hbox hb
         have B2 := Aside0.mk hbox
         replace B1 := Aside0.mk (blk_keep B1.out hb (blk_lt B1.out))
         replace L := Aside0.mk (below_step L.out hb)
         clear hg hbox hb)
   | (
         (with_reducible refine gate_dst (N := 6) rfl ?_); refine box_event ?hg (N := 6) ?hd (cs := #[.int .i64 0, .int .i64 0, .int .i64 0, .string (⟨#[]⟩ : ByteArray), .slice none 0 0, .slice none 0 0]) (t := 28) ?hr ?_; (case hd => rfl); (case hg => rfl); (case hr => exact qGWithSs0_)
         intro g3 hg wk hbox hb
         have g3w : w.heap.size ≤ g3 := by have := L.out.size; omega
         have B3 := Aside0.mk hbox
         replace B1 := Aside0.mk (blk_keep B1.out hb (blk_lt B1.out))
         replace B2 := Aside0.mk (blk_keep B2.out hb (blk_lt B2.out))
         replace L := Aside0.mk (below_step L.out hb)
         clear hg hbox hb
         obtain ⟨p0, p1, p2, p3, p4, p5, -⟩ := six_cells B1.out))
  replace hsrc := (L.out.cell (World.block_lt_of_cell? w _ hsrc)).trans hsrc
  refine start_ (n := 6) (S := fun w' => w'.cell? ⟨g1, 0, none⟩ = some (.int .i64 v.f0) ∧ w'.cell? ⟨g1, 1, none⟩ = some (.int .i64 v.f1.f0) ∧ w'.cell? ⟨g1, 2, none⟩ = some (.int .i64 v.f1.f1) ∧ w'.cell? ⟨g1, 3, none⟩ = some (.string v.f2) ∧ w'.cell? ⟨g1, 4, none⟩ = some (.slice A4 v.f3.length c4) ∧ w'.cell? ⟨g1, 5, none⟩ = some (.slice A5 v.f4.length c5) ∧ w'.cell? A0 = some (.string s)) (ds := []) #[false, false, false, false, false, false] (by kernel_rfl) rfl rfl (⟨p0, p1, p2, p3, p4, p5, hsrc⟩) (fun hHeld => ?_)
  replace L := Aside0.mk (below_drew1 L.out)
  replace B1 := Aside0.mk (show wk.drew.heap[g1]? = _ from B1.out)
  replace B2 := Aside0.mk (show wk.drew.heap[g2]? = _ from B2.out)
  replace B3 := Aside0.mk (show wk.drew.heap[g3]? = _ from B3.out)
  generalize wk.drew = w9 at *
  obtain ⟨p0, p1, p2, p3, p4, p5, hsrc⟩ := id hHeld
  refine pure_ (i := 1) (N := some 18) (v := ?_) (a' := ?_) #[false, true, false, false, false, false] rfl rfl (by kernel_rfl) (fun _ _ _ h => h) (Or.inl ⟨by rfl, ?_⟩) ?_ ?_
  rotate_left
  ·intro w'
   go_simp; with_reducible rfl
  rotate_left
  ·simp only [Act.put, List.setIfInBounds_toArray, List.set_cons_zero, List.set_cons_succ, i64_w, i32_w]; rfl
  refine pure_ (i := 2) (N := some 19) (v := ?_) (a' := ?_) #[false, true, true, false, false, false] rfl rfl (by kernel_rfl) (fun _ _ _ h => h) (Or.inl ⟨by rfl, ?_⟩) ?_ ?_
  rotate_left
  ·intro w'
   go_simp; with_reducible rfl
  rotate_left
  ·simp only [Act.put, List.setIfInBounds_toArray, List.set_cons_zero, List.set_cons_succ, i64_w, i32_w]; rfl
  refine take_ (i := 0) (N := some 17) (v := ?_) (a' := ?_) #[true, true, true, false, false, false] rfl rfl (by kernel_rfl) (fun _ _ _ h => h) (Or.inl ⟨by rfl, ?_⟩) hHeld ?_ ?_
  rotate_left
  ·intro w' s0
   obtain ⟨t0, t1, t2, t3, t4, t5, t6⟩ := s0
   go_simp; with_reducible rfl
  rotate_left
  ·simp only [Act.put, List.setIfInBounds_toArray, List.set_cons_zero, List.set_cons_succ, i64_w, i32_w]; rfl
  refine take_ (i := 3) (N := some 20) (v := ?_) (a' := ?_) #[true, true, true, true, false, false] rfl rfl (by kernel_rfl) (fun _ _ _ h => h) (Or.inl ⟨by rfl, ?_⟩) hHeld ?_ ?_
  rotate_left
  ·intro w' s0
   obtain ⟨t0, t1, t2, t3, t4, t5, t6⟩ := s0
   go_simp; with_reducible rfl
  rotate_left
  ·simp only [Act.put, List.setIfInBounds_toArray, List.set_cons_zero, List.set_cons_succ, i64_w, i32_w]; rfl
  refine one_ (i := 4) (N := some 21) #[true, true, true, true, true, false] rfl rfl (by kernel_rfl) (by decide) (fun K hK => ?_)
  refine goes_ Tryd.func46 (by kernel_rfl) rfl #[.agg #[.int .i64 v.f0, .int .i64 v.f1.f0, .int .i64 v.f1.f1, .string v.f2, .slice A4 v.f3.length c4, .slice A5 v.f4.length c5], .string s] (by rfl) rfl rfl (by (try simp only [List.map_toArray, List.map_cons, List.map_nil]); first | done | rfl) ?_
  with_reducible refine (spec_l13Step.calls k v.f0 v.f1.f0 v.f1.f1 v.f2 A4 c4 v.f3 A5 c5 v.f4 s u w9 (Kd.C_below H4.out L.out) l4 (Kd.C_below H5.out L.out) l5 HSTP.out).mono ?_
  rintro e w10 ⟨rfl, hb⟩
  have hH1 := (⟨(hb.cell (World.block_lt_of_cell? _ _ p0)).trans p0, (hb.cell (World.block_lt_of_cell? _ _ p1)).trans p1, (hb.cell (World.block_lt_of_cell? _ _ p2)).trans p2, (hb.cell (World.block_lt_of_cell? _ _ p3)).trans p3, (hb.cell (World.block_lt_of_cell? _ _ p4)).trans p4, (hb.cell (World.block_lt_of_cell? _ _ p5)).trans p5, (hb.cell (World.block_lt_of_cell? _ _ hsrc)).trans hsrc⟩ : w10.cell? ⟨g1, 0, none⟩ = some (.int .i64 v.f0) ∧ w10.cell? ⟨g1, 1, none⟩ = some (.int .i64 v.f1.f0) ∧ w10.cell? ⟨g1, 2, none⟩ = some (.int .i64 v.f1.f1) ∧ w10.cell? ⟨g1, 3, none⟩ = some (.string v.f2) ∧ w10.cell? ⟨g1, 4, none⟩ = some (.slice A4 v.f3.length c4) ∧ w10.cell? ⟨g1, 5, none⟩ = some (.slice A5 v.f4.length c5) ∧ w10.cell? A0 = some (.string s))
  clear p0 p1 p2 p3 p4 p5
  replace B1 := Aside0.mk (blk_keep B1.out hb (blk_lt B1.out))
  replace B2 := Aside0.mk (blk_keep B2.out hb (blk_lt B2.out))
  replace B3 := Aside0.mk (blk_keep B3.out hb (blk_lt B3.out))
  replace L := Aside0.mk (below_step L.out hb)
  clear hb hsrc
  refine ⟨_, rfl, hK.out _ _ (hH1) (fun hHeld => ?_)⟩
  clear hK K
  refine norm_ (a' := ?_) ?_ ?_
  rotate_left
  ·show Act.put _ (some 21) _ = _
   simp only [Act.put, List.setIfInBounds_toArray, List.set_cons_zero, List.set_cons_succ, i64_w, i32_w]; rfl
  refine pure_ (i := 5) (N := some 8) (v := ?_) (a' := ?_) #[true, true, true, true, true, true] rfl rfl (by kernel_rfl) (fun _ _ _ h => h) (Or.inl ⟨by rfl, ?_⟩) ?_ ?_
  rotate_left
  ·intro w'
   go_simp; with_reducible rfl
  rotate_left
  ·simp only [Act.put, List.setIfInBounds_toArray, List.set_cons_zero, List.set_cons_succ, i64_w, i32_w]; rfl
  refine done_ (by kernel_rfl) ?_
  clear hH1 hHeld
  by_cases hu : u < 0
  ·have hdu : decide (u < 0) = true := decide_eq_true hu
   have hn := HR1.out hu
   clear hu
   subst hn
   obtain ⟨r0, r1, r2, r3, r4, r5, zr0, zr1, zr2, zr3, zr4, zr5⟩ := six_cells B3.out
   go_wp2
   have hP := six_put (v0 := .int .i64 0) (v1 := .int .i64 0) (v2 := .int .i64 0) (v3 := .string ⟨#[]⟩) (v4 := .slice none 0 0) (v5 := .slice none 0 0) B3.out
   refine bodyPost_ret (results_ct rfl _ _ g3 28 #[.int .i64 0, .int .i64 0, .int .i64 0, .string ⟨#[]⟩, .slice none 0 0, .slice none 0 0] (0, 0) _ rfl hP Tryd.underlying28 rfl (by kernel_rfl)) rfl ?_
   exact ⟨_, _, rfl, Kd.R_nil _ _ _ _ _, Kd.R_nil _ _ _ _ _, six_below L.out g3w⟩
  ·have hdu : decide (u < 0) = false := decide_eq_false hu
   have hu0 : (0 ≤ u) = True := eq_true (by omega)
   have hu1 : (u < (v.f3.length : Int)) = True := eq_true HLT.out
   have hun : u.toNat < v.f3.length := by have := HLT.out; omega
   have HUN := Aside0.mk hun
   have hr2 := HR2.out (by omega)
   obtain ⟨ad2, Y4, y4, Y5, y5, rfl, x0, x1, x2, x3, x4', x5', n4, s4, n5, s5⟩ := at_T28 H4.out u (by omega) HLT.out
   have hym : rd_T28 v.f3 u ∈ v.f3 := by
    unfold rd_T28
    rw [List.getD_eq_getElem?_getD, List.getElem?_eq_getElem hun]
    exact List.getElem_mem hun
   have HIH := Aside0.mk (HIH0.out (HKID.out _ hym))
   clear HIH0 HKID
   generalize rd_T28 v.f3 u = y at *
   have HN4 := Aside0.mk n4; have HN5 := Aside0.mk n5; have HS4 := Aside0.mk s4; have HS5 := Aside0.mk s5
   obtain ⟨op, hop⟩ : ∃ o, o = withOp P y r x := ⟨_, rfl⟩
   rw [← hop] at hr2
   obtain ⟨yo, hyo⟩ : ∃ o, o = orZero op := ⟨_, rfl⟩
   have HYO := Aside0.mk hyo
   obtain ⟨bo, hbo⟩ : ∃ b, b = op.isSome := ⟨_, rfl⟩
   have HBO := Aside0.mk hbo
   have HOP := Aside0.mk hop; have HRS := Aside0.mk hr2
   clear hop hyo hbo hr2 hu hun hym n4 n5 s4 s5 HR1 HR2
   replace x0 := (L.out.cell (World.block_lt_of_cell? w _ x0)).trans x0
   replace x1 := (L.out.cell (World.block_lt_of_cell? w _ x1)).trans x1
   replace x2 := (L.out.cell (World.block_lt_of_cell? w _ x2)).trans x2
   replace x3 := (L.out.cell (World.block_lt_of_cell? w _ x3)).trans x3
   replace x4' := (L.out.cell (World.block_lt_of_cell? w _ x4')).trans x4'
   replace x5' := (L.out.cell (World.block_lt_of_cell? w _ x5')).trans x5'
   obtain ⟨-, -, -, -, p4, -⟩ := six_cells B1.out
   obtain ⟨q0, q1, q2, q3, q4, q5, -⟩ := six_cells B2.out
   go_wp2
   have hSt : ∀ W_ W' : World, Below W_.heap.size W_ W' → (W_.cell? ⟨g1, 4, none⟩ = some (.slice (some ad2) v.f3.length c4) ∧ W_.cell? (ad2.add (u.toNat * 6)) = some (.int .i64 y.f0) ∧ W_.cell? ⟨(ad2.add (u.toNat * 6)).block, (ad2.add (u.toNat * 6)).off + 1, none⟩ = some (.int .i64 y.f1.f0) ∧ W_.cell? ⟨(ad2.add (u.toNat * 6)).block, (ad2.add (u.toNat * 6)).off + 2, none⟩ = some (.int .i64 y.f1.f1) ∧ W_.cell? ⟨(ad2.add (u.toNat * 6)).block, (ad2.add (u.toNat * 6)).off + 3, none⟩ = some (.string y.f2) ∧ W_.cell? ⟨(ad2.add (u.toNat * 6)).block, (ad2.add (u.toNat * 6)).off + 4, none⟩ = some (.slice Y4 y.f3.length y4) ∧ W_.cell? ⟨(ad2.add (u.toNat * 6)).block, (ad2.add (u.toNat * 6)).off + 5, none⟩ = some (.slice Y5 y.f4.length y5) ∧ W_.cell? ⟨g2, 0, none⟩ = some (.int .i64 x.f0) ∧ W_.cell? ⟨g2, 1, none⟩ = some (.int .i64 x.f1.f0) ∧ W_.cell? ⟨g2, 2, none⟩ = some (.int .i64 x.f1.f1) ∧ W_.cell? ⟨g2, 3, none⟩ = some (.string x.f2) ∧ W_.cell? ⟨g2, 4, none⟩ = some (.slice X4 x.f3.length x4) ∧ W_.cell? ⟨g2, 5, none⟩ = some (.slice X5 x.f4.length x5)) → (W'.cell? ⟨g1, 4, none⟩ = some (.slice (some ad2) v.f3.length c4) ∧ W'.cell? (ad2.add (u.toNat * 6)) = some (.int .i64 y.f0) ∧ W'.cell? ⟨(ad2.add (u.toNat * 6)).block, (ad2.add (u.toNat * 6)).off + 1, none⟩ = some (.int .i64 y.f1.f0) ∧ W'.cell? ⟨(ad2.add (u.toNat * 6)).block, (ad2.add (u.toNat * 6)).off + 2, none⟩ = some (.int .i64 y.f1.f1) ∧ W'.cell? ⟨(ad2.add (u.toNat * 6)).block, (ad2.add (u.toNat * 6)).off + 3, none⟩ = some (.string y.f2) ∧ W'.cell? ⟨(ad2.add (u.toNat * 6)).block, (ad2.add (u.toNat * 6)).off + 4, none⟩ = some (.slice Y4 y.f3.length y4) ∧ W'.cell? ⟨(ad2.add (u.toNat * 6)).block, (ad2.add (u.toNat * 6)).off + 5, none⟩ = some (.slice Y5 y.f4.length y5) ∧ W'.cell? ⟨g2, 0, none⟩ = some (.int .i64 x.f0) ∧ W'.cell? ⟨g2, 1, none⟩ = some (.int .i64 x.f1.f0) ∧ W'.cell? ⟨g2, 2, none⟩ = some (.int .i64 x.f1.f1) ∧ W'.cell? ⟨g2, 3, none⟩ = some (.string x.f2) ∧ W'.cell? ⟨g2, 4, none⟩ = some (.slice X4 x.f3.length x4) ∧ W'.cell? ⟨g2, 5, none⟩ = some (.slice X5 x.f4.length x5)) := fun W_ W' hb ⟨t0, t1, t2, t3, t4, t5, t6, t7, t8, t9, t10, t11, t12⟩ => ⟨(hb.cell (World.block_lt_of_cell? _ _ t0)).trans t0, (hb.cell (World.block_lt_of_cell? _ _ t1)).trans t1, (hb.cell (World.block_lt_of_cell? _ _ t2)).trans t2, (hb.cell (World.block_lt_of_cell? _ _ t3)).trans t3, (hb.cell (World.block_lt_of_cell? _ _ t4)).trans t4, (hb.cell (World.block_lt_of_cell? _ _ t5)).trans t5, (hb.cell (World.block_lt_of_cell? _ _ t6)).trans t6, (hb.cell (World.block_lt_of_cell? _ _ t7)).trans t7, (hb.cell (World.block_lt_of_cell? _ _ t8)).trans t8, (hb.cell (World.block_lt_of_cell? _ _ t9)).trans t9, (hb.cell (World.block_lt_of_cell? _ _ t10)).trans t10, (hb.cell (World.block_lt_of_cell? _ _ t11)).trans t11, (hb.cell (World.block_lt_of_cell? _ _ t12)).trans t12⟩
   refine start_ (n := 15) (S := fun w' => w'.cell? ⟨g1, 4, none⟩ = some (.slice (some ad2) v.f3.length c4) ∧ w'.cell? (ad2.add (u.toNat * 6)) = some (.int .i64 y.f0) ∧ w'.cell? ⟨(ad2.add (u.toNat * 6)).block, (ad2.add (u.toNat * 6)).off + 1, none⟩ = some (.int .i64 y.f1.f0) ∧ w'.cell? ⟨(ad2.add (u.toNat * 6)).block, (ad2.add (u.toNat * 6)).off + 2, none⟩ = some (.int .i64 y.f1.f1) ∧ w'.cell? ⟨(ad2.add (u.toNat * 6)).block, (ad2.add (u.toNat * 6)).off + 3, none⟩ = some (.string y.f2) ∧ w'.cell? ⟨(ad2.add (u.toNat * 6)).block, (ad2.add (u.toNat * 6)).off + 4, none⟩ = some (.slice Y4 y.f3.length y4) ∧ w'.cell? ⟨(ad2.add (u.toNat * 6)).block, (ad2.add (u.toNat * 6)).off + 5, none⟩ = some (.slice Y5 y.f4.length y5) ∧ w'.cell? ⟨g2, 0, none⟩ = some (.int .i64 x.f0) ∧ w'.cell? ⟨g2, 1, none⟩ = some (.int .i64 x.f1.f0) ∧ w'.cell? ⟨g2, 2, none⟩ = some (.int .i64 x.f1.f1) ∧ w'.cell? ⟨g2, 3, none⟩ = some (.string x.f2) ∧ w'.cell? ⟨g2, 4, none⟩ = some (.slice X4 x.f3.length x4) ∧ w'.cell? ⟨g2, 5, none⟩ = some (.slice X5 x.f4.length x5)) (ds := [13]) #[false, false, false, false, false, false, false, false, false, false, false, false, false, false, false] (by kernel_rfl) rfl rfl (⟨p4, x0, x1, x2, x3, x4', x5', q0, q1, q2, q3, q4, q5⟩) (fun hHeld => ?_)
   replace L := Aside0.mk (below_drew1 L.out)
   replace B1 := Aside0.mk (show w10.drew.heap[g1]? = _ from B1.out)
   replace B2 := Aside0.mk (show w10.drew.heap[g2]? = _ from B2.out)
   replace B3 := Aside0.mk (show w10.drew.heap[g3]? = _ from B3.out)
   obtain ⟨W0, hW0⟩ : ∃ q, q = w10.drew := ⟨_, rfl⟩
   rw [← hW0] at L B1 B2 B3
   have L0 : Aside0 (Below W0.heap.size W0 w10.drew) := ⟨by rw [hW0]; exact Below.refl _ _⟩
   clear hW0 p4 x0 x1 x2 x3 x4' x5' q0 q1 q2 q3 q4 q5
   generalize w10.drew = wa at *
   refine pure_ (i := 0) (N := some 26) (v := ?_) (a' := ?_) #[true, false, false, false, false, false, false, false, false, false, false, false, false, false, false] rfl rfl (by kernel_rfl) (fun _ _ _ h => h) (Or.inl ⟨by rfl, ?_⟩) ?_ ?_
   rotate_left
   ·intro w'
    go_simp; with_reducible rfl
   rotate_left
   ·simp only [Act.put, List.setIfInBounds_toArray, List.set_cons_zero, List.set_cons_succ, i64_w, i32_w]; rfl
   refine pure_ (i := 2) (N := some 28) (v := ?_) (a' := ?_) #[true, false, true, false, false, false, false, false, false, false, false, false, false, false, false] rfl rfl (by kernel_rfl) (fun _ _ _ h => h) (Or.inl ⟨by rfl, ?_⟩) ?_ ?_
   rotate_left
   ·intro w'
    go_simp; with_reducible rfl
   rotate_left
   ·simp only [Act.put, List.setIfInBounds_toArray, List.set_cons_zero, List.set_cons_succ, i64_w, i32_w]; rfl
   refine pure_ (i := 5) (N := some 31) (v := ?_) (a' := ?_) #[true, false, true, false, false, true, false, false, false, false, false, false, false, false, false] rfl rfl (by kernel_rfl) (fun _ _ _ h => h) (Or.inl ⟨by rfl, ?_⟩) ?_ ?_
   rotate_left
   ·intro w'
    go_simp; with_reducible rfl
   rotate_left
   ·simp only [Act.put, List.setIfInBounds_toArray, List.set_cons_zero, List.set_cons_succ, i64_w, i32_w]; rfl
   refine pure_ (i := 6) (N := some 32) (v := ?_) (a' := ?_) #[true, false, true, false, false, true, true, false, false, false, false, false, false, false, false] rfl rfl (by kernel_rfl) (fun _ _ _ h => h) (Or.inl ⟨by rfl, ?_⟩) ?_ ?_
   rotate_left
   ·intro w'
    go_simp; with_reducible rfl
   rotate_left
   ·simp only [Act.put, List.setIfInBounds_toArray, List.set_cons_zero, List.set_cons_succ, i64_w, i32_w]; rfl
   refine take_ (i := 1) (N := some 27) (v := ?_) (a' := ?_) #[true, true, true, false, false, true, true, false, false, false, false, false, false, false, false] rfl rfl (by kernel_rfl) (fun _ _ _ h => h) (Or.inl ⟨by rfl, ?_⟩) hHeld ?_ ?_
   rotate_left
   ·intro w' s0
    obtain ⟨t0, t1, t2, t3, t4, t5, t6, t7, t8, t9, t10, t11, t12⟩ := s0
    go_simp; with_reducible rfl
   rotate_left
   ·simp only [Act.put, List.setIfInBounds_toArray, List.set_cons_zero, List.set_cons_succ, i64_w, i32_w]; rfl
   refine pure_ (i := 3) (N := some 29) (v := ?_) (a' := ?_) #[true, true, true, true, false, true, true, false, false, false, false, false, false, false, false] rfl rfl (by kernel_rfl) (fun _ _ _ h => h) (Or.inl ⟨by rfl, ?_⟩) ?_ ?_
   rotate_left
   ·intro w'
    go_simp; with_reducible rfl
   rotate_left
   ·simp only [Act.put, List.setIfInBounds_toArray, List.set_cons_zero, List.set_cons_succ, i64_w, i32_w]; rfl
   refine take_ (i := 4) (N := some 30) (v := ?_) (a' := ?_) #[true, true, true, true, true, true, true, false, false, false, false, false, false, false, false] rfl rfl (by kernel_rfl) (fun _ _ _ h => h) (Or.inl ⟨by rfl, ?_⟩) hHeld ?_ ?_
   rotate_left
   ·intro w' s0
    obtain ⟨t0, t1, t2, t3, t4, t5, t6, t7, t8, t9, t10, t11, t12⟩ := s0
    go_simp; with_reducible rfl
   rotate_left
   ·simp only [Act.put, List.setIfInBounds_toArray, List.set_cons_zero, List.set_cons_succ, i64_w, i32_w]; rfl
   refine take_ (i := 7) (N := some 33) (v := ?_) (a' := ?_) #[true, true, true, true, true, true, true, true, false, false, false, false, false, false, false] rfl rfl (by kernel_rfl) (fun _ _ _ h => h) (Or.inl ⟨by rfl, ?_⟩) hHeld ?_ ?_
   rotate_left
   ·intro w' s0
    obtain ⟨t0, t1, t2, t3, t4, t5, t6, t7, t8, t9, t10, t11, t12⟩ := s0
    go_simp; with_reducible rfl
   rotate_left
   ·simp only [Act.put, List.setIfInBounds_toArray, List.set_cons_zero, List.set_cons_succ, i64_w, i32_w]; rfl
   refine join_ (σ := Value × Value × Nat) 2 #[true, true, true, true, true, true, true, true, true, true, true, true, true, false, false] (fun s => [(34, .tuple #[.agg #[.int .i64 yo.f0, .int .i64 yo.f1.f0, .int .i64 yo.f1.f1, .string yo.f2, s.1, s.2.1], .bool bo]), (25, .tuple #[.agg #[.int .i64 yo.f0, .int .i64 yo.f1.f0, .int .i64 yo.f1.f1, .string yo.f2, s.1, s.2.1], .bool bo]), (35, .agg #[.int .i64 yo.f0, .int .i64 yo.f1.f0, .int .i64 yo.f1.f1, .string yo.f2, s.1, s.2.1]), (36, .bool bo), (9, .pointer (some ⟨s.2.2, 0, none⟩))]) (fun s w' => Kd.R k28 28 w' W0.heap.size (fun q => q ≠ s.2.2) s.1 yo.f3 ∧ Kd.R Kd.string 9 w' W0.heap.size (fun q => q ≠ s.2.2) s.2.1 yo.f4 ∧ w'.heap[s.2.2]? = some (.cells #[.int .i64 0, .int .i64 0, .int .i64 0, .string (⟨#[]⟩ : ByteArray), .slice none 0 0, .slice none 0 0] 28 (0, 0)) ∧ W0.heap.size ≤ s.2.2 ∧ Below W0.heap.size W0 w') ?_ ?_
   rotate_left
   ·intro hCont
    repeat' (first
     | ((with_reducible refine gateL_ #[true, true, true, true, true, true, true, true, false, false, false, false, false, false, false] ?_); refine two_ (i := 8) (j := 12) (Ni := some 34) (Nj := some 9) #[true, true, true, true, true, true, true, true, true, false, false, false, false, false, false] #[true, true, true, true, true, true, true, true, false, false, false, false, true, false, false] rfl rfl rfl rfl (by kernel_rfl) (by decide) (by decide) (fun K hK => ?_) (fun K hK => ?_))
     | ((with_reducible refine gateL_ #[true, true, true, true, true, true, true, true, false, false, false, false, true, false, false] ?_); refine one_ (i := 8) (N := some 34) #[true, true, true, true, true, true, true, true, true, false, false, false, true, false, false] rfl rfl (by kernel_rfl) (by decide) (fun K hK => ?_))
     | ((with_reducible refine gateL_ #[true, true, true, true, true, true, true, true, true, true, true, true, false, false, false] ?_); refine one_ (i := 12) (N := some 9) #[true, true, true, true, true, true, true, true, true, true, true, true, true, false, false] rfl rfl (by kernel_rfl) (by decide) (fun K hK => ?_))
     | (
             (with_reducible refine gateL_ #[true, true, true, true, true, true, true, true, true, false, false, false, false, false, false] ?_); refine pure_ (i := 9) (N := some 25) (v := ?_) (a' := ?_) #[true, true, true, true, true, true, true, true, true, true, false, false, false, false, false] rfl rfl (by kernel_rfl) (fun _ _ _ h => h) (Or.inl ⟨by rfl, ?_⟩) ?_ ?_
             rotate_left
             · intro w'
               go_simp; with_reducible rfl
             rotate_left
             · simp only [Act.put, List.setIfInBounds_toArray, List.set_cons_zero, List.set_cons_succ, i64_w, i32_w]; rfl)
     | (
             (with_reducible refine gateL_ #[true, true, true, true, true, true, true, true, true, true, false, false, false, false, false] ?_); refine pure_ (i := 10) (N := some 35) (v := ?_) (a' := ?_) #[true, true, true, true, true, true, true, true, true, true, true, false, false, false, false] rfl rfl (by kernel_rfl) (fun _ _ _ h => h) (Or.inl ⟨by rfl, ?_⟩) ?_ ?_
             rotate_left
             · intro w'
               go_simp; with_reducible rfl
             rotate_left
             · simp only [Act.put, List.setIfInBounds_toArray, List.set_cons_zero, List.set_cons_succ, i64_w, i32_w]; rfl)
     | (
             (with_reducible refine gateL_ #[true, true, true, true, true, true, true, true, true, false, false, false, true, false, false] ?_); refine pure_ (i := 9) (N := some 25) (v := ?_) (a' := ?_) #[true, true, true, true, true, true, true, true, true, true, false, false, true, false, false] rfl rfl (by kernel_rfl) (fun _ _ _ h => h) (Or.inl ⟨by rfl, ?_⟩) ?_ ?_
             rotate_left
             · intro w'
               go_simp; with_reducible rfl
             rotate_left
             · simp only [Act.put, List.setIfInBounds_toArray, List.set_cons_zero, List.set_cons_succ, i64_w, i32_w]; rfl)
     | (
             (with_reducible refine gateL_ #[true, true, true, true, true, true, true, true, true, true, true, false, false, false, false] ?_); refine pure_ (i := 11) (N := some 36) (v := ?_) (a' := ?_) #[true, true, true, true, true, true, true, true, true, true, true, true, false, false, false] rfl rfl (by kernel_rfl) (fun _ _ _ h => h) (Or.inl ⟨by rfl, ?_⟩) ?_ ?_
             rotate_left
             · intro w'
               go_simp; with_reducible rfl
             rotate_left
             · simp only [Act.put, List.setIfInBounds_toArray, List.set_cons_zero, List.set_cons_succ, i64_w, i32_w]; rfl)
     | (
             (with_reducible refine gateL_ #[true, true, true, true, true, true, true, true, true, true, false, false, true, false, false] ?_); refine pure_ (i := 10) (N := some 35) (v := ?_) (a' := ?_) #[true, true, true, true, true, true, true, true, true, true, true, false, true, false, false] rfl rfl (by kernel_rfl) (fun _ _ _ h => h) (Or.inl ⟨by rfl, ?_⟩) ?_ ?_
             rotate_left
             · intro w'
               go_simp; with_reducible rfl
             rotate_left
             · simp only [Act.put, List.setIfInBounds_toArray, List.set_cons_zero, List.set_cons_succ, i64_w, i32_w]; rfl)
     | (
             (with_reducible refine gateL_ #[true, true, true, true, true, true, true, true, true, true, true, false, true, false, false] ?_); refine pure_ (i := 11) (N := some 36) (v := ?_) (a' := ?_) #[true, true, true, true, true, true, true, true, true, true, true, true, true, false, false] rfl rfl (by kernel_rfl) (fun _ _ _ h => h) (Or.inl ⟨by rfl, ?_⟩) ?_ ?_
             rotate_left
             · intro w'
               go_simp; with_reducible rfl
             rotate_left
             · simp only [Act.put, List.setIfInBounds_toArray, List.set_cons_zero, List.set_cons_succ, i64_w, i32_w]; rfl)
     | ((with_reducible refine gateL_ #[true, true, true, true, true, true, true, true, true, true, true, true, true, false, false] ?_); exact norm_ (by simp only [putAll, Act.put, List.setIfInBounds_toArray, List.set_cons_zero, List.set_cons_succ]) (hCont (u4, u5, g_) _ ⟨Q4.out, Q5.out, BG.out, GW.out, L0.out⟩))
     | (
             (with_reducible refine gateI_ (some 34) ?_)
             refine goes_ Tryd.func59 (by kernel_rfl) rfl #[.agg #[.int .i64 y.f0, .int .i64 y.f1.f0, .int .i64 y.f1.f1, .string y.f2, .slice Y4 y.f3.length y4, .slice Y5 y.f4.length y5], .slice AT r.length (cP - 1), .agg #[.int .i64 x.f0, .int .i64 x.f1.f0, .int .i64 x.f1.f1, .string x.f2, .slice X4 x.f3.length x4, .slice X5 x.f4.length x5]] (by rfl) rfl rfl (by (try simp only [List.map_toArray, List.map_cons, List.map_nil]); first | done | rfl) ?_
             with_reducible refine (HIH.out wa Y4 y4 Y5 y5 AT (cP - 1) X4 x4 X5 x5 (Kd.C_below HS4.out (below_step L.out L0.out)) HN4.out (Kd.C_below HS5.out (below_step L.out L0.out)) HN5.out (Kd.C_below HCT.out (below_step L.out L0.out)) (by show r.length ≤ cP - 1; have := HLP.out; have := HNR.out; omega) (Kd.C_below HX4.out (below_step L.out L0.out)) m4 (Kd.C_below HX5.out (below_step L.out L0.out)) m5).mono ?_
             rintro e' wa ⟨u4, u5, rfl, R4, R5, hb⟩
             refine ⟨_, rfl, hK.out _ _ (hSt _ _ hb hHeld) (fun hHeld => ?_)⟩
             clear hK K
             refine norm_ (a' := ?_) ?_ ?_
             rotate_left
             · show Act.put _ (some 34) _ = _
               simp only [Act.put, List.setIfInBounds_toArray, List.set_cons_zero, List.set_cons_succ, i64_w, i32_w]; rfl
             rw [← HOP.out] at R4 R5 ⊢
             rw [← HYO.out] at R4 R5 ⊢
             rw [← HBO.out]
             first | (have Q4 := Aside0.mk (Kd.R_lower (Kd.R_mono (Kd.R_bound R4) (ok' := fun q => q ≠ g_) (fun q hq => by have := hq.2.1; have := blk_lt BG.out; omega)) L0.out.size); have Q5 := Aside0.mk (Kd.R_lower (Kd.R_mono (Kd.R_bound R5) (ok' := fun q => q ≠ g_) (fun q hq => by have := hq.2.1; have := blk_lt BG.out; omega)) L0.out.size)) | (have Q4 := Aside0.mk (Kd.R_lower R4 L0.out.size); have Q5 := Aside0.mk (Kd.R_lower R5 L0.out.size))
             replace L0 := Aside0.mk (below_step L0.out hb)
             clear R4 R5
             (try replace BG := Aside0.mk (blk_keep BG.out hb (blk_lt BG.out)))
             clear hb)
     | (
             (with_reducible refine gateI_ (some 9) ?_)
             refine value_ (w1 := ?_) (v := ?_) (by rfl) rfl ?_ ?_
             rotate_left 2
             · go_simp
               constructor
               · rfl
               · rfl
             refine hK.out _ _ (hSt _ _ (below_alloc (Below.refl _ _) _) hHeld) (fun hHeld => ?_)
             clear hK K
             refine norm_ (a' := ?_) ?_ ?_
             rotate_left
             · show Act.put _ (some 9) _ = _
               simp only [Act.put, List.setIfInBounds_toArray, List.set_cons_zero, List.set_cons_succ, i64_w, i32_w]; rfl
             have BG := heap_alloc_new wa (.cells #[.int .i64 0, .int .i64 0, .int .i64 0, .string (⟨#[]⟩ : ByteArray), .slice none 0 0, .slice none 0 0] 28)
             have hb := below_alloc (Below.refl wa.heap.size wa) (.cells #[.int .i64 0, .int .i64 0, .int .i64 0, .string (⟨#[]⟩ : ByteArray), .slice none 0 0, .slice none 0 0] 28)
             obtain ⟨g_, hg⟩ : ∃ g, g = wa.heap.size := ⟨_, rfl⟩
             rw [← hg] at BG ⊢
             have hgl : g_ < (wa.alloc (.cells #[.int .i64 0, .int .i64 0, .int .i64 0, .string (⟨#[]⟩ : ByteArray), .slice none 0 0, .slice none 0 0] 28)).heap.size := blk_lt BG
             generalize wa.alloc (.cells #[.int .i64 0, .int .i64 0, .int .i64 0, .string (⟨#[]⟩ : ByteArray), .slice none 0 0, .slice none 0 0] 28) = wa at *
             replace BG := Aside0.mk BG
             (try replace Q4 := Aside0.mk (Kd.R_below (Kd.R_mono (Kd.R_bound Q4.out) (ok' := fun q => q ≠ g_) (fun q hq => by have := hq.2.2.1; omega)) hb))
             (try replace Q5 := Aside0.mk (Kd.R_below (Kd.R_mono (Kd.R_bound Q5.out) (ok' := fun q => q ≠ g_) (fun q hq => by have := hq.2.2.1; omega)) hb))
             have GW := Aside0.mk (show W0.heap.size ≤ g_ by have := L0.out.size; omega)
             replace L0 := Aside0.mk (below_step L0.out hb)
             clear hb))
   rintro ⟨u4, u5, g9⟩ w12 ⟨Q4_, Q5_, B9_, G9_, hb⟩
   replace Q4_ : Kd.R k28 28 w12 W0.heap.size (fun q => q ≠ g9) u4 yo.f3 := Q4_
   replace Q5_ : Kd.R Kd.string 9 w12 W0.heap.size (fun q => q ≠ g9) u5 yo.f4 := Q5_
   replace B9_ : w12.heap[g9]? = some (.cells #[.int .i64 0, .int .i64 0, .int .i64 0, .string (⟨#[]⟩ : ByteArray), .slice none 0 0, .slice none 0 0] 28 (0, 0)) := B9_
   replace G9_ : W0.heap.size ≤ g9 := G9_
   have Q4 := Aside0.mk Q4_
   have Q5 := Aside0.mk Q5_
   have B9 := Aside0.mk B9_
   have HG9 := Aside0.mk G9_
   obtain ⟨O4, o4, rfl⟩ := Kd.R_slice Q4_
   obtain ⟨O5, o5, rfl⟩ := Kd.R_slice Q5_
   have HW0 := Aside0.mk L.out.size
   have HG3 := Aside0.mk (blk_lt B3.out)
   have ne9 : g3 ≠ g9 := by have := blk_lt B3.out; omega
   have ne91 : g1 ≠ g9 := by have := blk_lt B1.out; omega
   replace B1 := Aside0.mk (blk_keep B1.out hb (blk_lt B1.out))
   replace B2 := Aside0.mk (blk_keep B2.out hb (blk_lt B2.out))
   replace B3 := Aside0.mk (blk_keep B3.out hb (blk_lt B3.out))
   replace L := Aside0.mk (below_step L.out hb)
   clear Q4_ Q5_ B9_ G9_ hb
   clear hSt
   refine norm_ (a' := ?_) ?_ ?_
   rotate_left
   ·simp only [putAll, Act.put, List.setIfInBounds_toArray, List.set_cons_zero, List.set_cons_succ]
    rfl
   obtain ⟨e0, e1, e2, e3, e4, e5, ze0, ze1, ze2, ze3, ze4, ze5⟩ := six_cells B9.out
   refine last_ (i := 13) (N := none) #[true, true, true, true, true, true, true, true, true, true, true, true, true, true, false] rfl rfl (by kernel_rfl) (by decide) (fun K hK => ?_)
   refine skip_ (w1 := ?_) (by rfl) rfl ?_ ?_
   rotate_left
   ·go_simp
    rfl
   refine hK.out _ _ ?_
   clear hK K
   refine pure_ (i := 14) (N := some 10) (v := ?_) (a' := ?_) #[true, true, true, true, true, true, true, true, true, true, true, true, true, true, true] rfl rfl (by kernel_rfl) (fun _ _ _ h => h) (Or.inl ⟨by rfl, ?_⟩) ?_ ?_
   rotate_left
   ·intro w'
    go_simp; with_reducible rfl
   rotate_left
   ·simp only [Act.put, List.setIfInBounds_toArray, List.set_cons_zero, List.set_cons_succ, i64_w, i32_w]; rfl
   refine done_ (by kernel_rfl) ?_
   have q4 := Kd.R_step Q4.out (w1 := (((((w12.setCell ⟨g9, 0, none⟩ (.int .i64 yo.f0)).setCell ⟨g9, 1, none⟩ (.int .i64 yo.f1.f0)).setCell ⟨g9, 2, none⟩ (.int .i64 yo.f1.f1)).setCell ⟨g9, 3, none⟩ (.string yo.f2)).setCell ⟨g9, 4, none⟩ (.slice O4 yo.f3.length o4)).setCell ⟨g9, 5, none⟩ (.slice O5 yo.f4.length o5)) (fun q hq _ => six_same q hq)
   have q5 := Kd.R_step Q5.out (w1 := (((((w12.setCell ⟨g9, 0, none⟩ (.int .i64 yo.f0)).setCell ⟨g9, 1, none⟩ (.int .i64 yo.f1.f0)).setCell ⟨g9, 2, none⟩ (.int .i64 yo.f1.f1)).setCell ⟨g9, 3, none⟩ (.string yo.f2)).setCell ⟨g9, 4, none⟩ (.slice O4 yo.f3.length o4)).setCell ⟨g9, 5, none⟩ (.slice O5 yo.f4.length o5)) (fun q hq _ => six_same q hq)
   have b9 := six_put (v0 := .int .i64 yo.f0) (v1 := .int .i64 yo.f1.f0) (v2 := .int .i64 yo.f1.f1) (v3 := .string yo.f2) (v4 := .slice O4 yo.f3.length o4) (v5 := .slice O5 yo.f4.length o5) B9.out
   have l9 := six_below (v0 := .int .i64 yo.f0) (v1 := .int .i64 yo.f1.f0) (v2 := .int .i64 yo.f1.f1) (v3 := .string yo.f2) (v4 := .slice O4 yo.f3.length o4) (v5 := .slice O5 yo.f4.length o5) L.out (Nat.le_trans HW0.out HG9.out)
   have b3 : ((((((w12.setCell ⟨g9, 0, none⟩ (.int .i64 yo.f0)).setCell ⟨g9, 1, none⟩ (.int .i64 yo.f1.f0)).setCell ⟨g9, 2, none⟩ (.int .i64 yo.f1.f1)).setCell ⟨g9, 3, none⟩ (.string yo.f2)).setCell ⟨g9, 4, none⟩ (.slice O4 yo.f3.length o4)).setCell ⟨g9, 5, none⟩ (.slice O5 yo.f4.length o5)).heap[g3]? = _ := (six_same g3 ne9).trans B3.out
   have b1 : ((((((w12.setCell ⟨g9, 0, none⟩ (.int .i64 yo.f0)).setCell ⟨g9, 1, none⟩ (.int .i64 yo.f1.f0)).setCell ⟨g9, 2, none⟩ (.int .i64 yo.f1.f1)).setCell ⟨g9, 3, none⟩ (.string yo.f2)).setCell ⟨g9, 4, none⟩ (.slice O4 yo.f3.length o4)).setCell ⟨g9, 5, none⟩ (.slice O5 yo.f4.length o5)).heap[g1]? = _ := (six_same g1 ne91).trans B1.out
   clear e0 e1 e2 e3 e4 e5 ze0 ze1 ze2 ze3 ze4 ze5 hHeld hrun B2
   generalize (((((w12.setCell ⟨g9, 0, none⟩ (.int .i64 yo.f0)).setCell ⟨g9, 1, none⟩ (.int .i64 yo.f1.f0)).setCell ⟨g9, 2, none⟩ (.int .i64 yo.f1.f1)).setCell ⟨g9, 3, none⟩ (.string yo.f2)).setCell ⟨g9, 4, none⟩ (.slice O4 yo.f3.length o4)).setCell ⟨g9, 5, none⟩ (.slice O5 yo.f4.length o5) = w13 at *
   replace Q4 := Aside0.mk q4; replace Q5 := Aside0.mk q5; replace B9 := Aside0.mk b9; replace L := Aside0.mk l9; replace B3 := Aside0.mk b3; replace B1 := Aside0.mk b1
   clear q4 q5 b9 l9 b3 b1
   cases bo with
   | false =>
    have hn : res = none := by
     rw [HRS.out]
     cases op with
     | none => rfl
     | some z => cases HBO.out
    subst hn
    obtain ⟨r0, r1, r2, r3, r4, r5, zr0, zr1, zr2, zr3, zr4, zr5⟩ := six_cells B3.out
    go_wp2
    have hP := six_put (v0 := .int .i64 0) (v1 := .int .i64 0) (v2 := .int .i64 0) (v3 := .string ⟨#[]⟩) (v4 := .slice none 0 0) (v5 := .slice none 0 0) B3.out
    refine bodyPost_ret (results_ct rfl _ _ g3 28 #[.int .i64 0, .int .i64 0, .int .i64 0, .string ⟨#[]⟩, .slice none 0 0, .slice none 0 0] (0, 0) _ rfl hP Tryd.underlying28 rfl (by kernel_rfl)) rfl ?_
    exact ⟨_, _, rfl, Kd.R_nil _ _ _ _ _, Kd.R_nil _ _ _ _ _, six_below L.out g3w⟩
   | true =>
    have hn : res = some ⟨v.f0, v.f1, v.f2, v.f3.set u.toNat yo, v.f4⟩ := by
     rw [HRS.out]
     have hy := HYO.out
     cases op with
     | none => cases HBO.out
     | some z => rw [show yo = z from hy]; rfl
    subst hn
    clear HRS HYO HBO HOP HIH
    obtain ⟨M, hM⟩ : ∃ M, M = w13.heap.size := ⟨_, rfl⟩
    have HM := Aside0.mk hM
    replace Q4 := Aside0.mk (Kd.R_mono (Kd.R_bound Q4.out) (ok' := fun q => q < M) (fun q hq => by have := hq.2.2.1; omega))
    replace Q5 := Aside0.mk (Kd.R_mono (Kd.R_bound Q5.out) (ok' := fun q => q < M) (fun q hq => by have := hq.2.2.1; omega))
    have HW0M := Aside0.mk (show W0.heap.size ≤ M by have := HG9.out; have := blk_lt B9.out; omega)
    clear hM
    obtain ⟨p0, p1, p2, p3, p4, p5, -⟩ := six_cells B1.out
    go_wp2_with (first
     | (
             go_at_call 47
             refine (spec_l13Copy.calls k v.f0 v.f1.f0 v.f1.f1 v.f2 (some ad2) c4 v.f3 A5 c5 v.f4 _ _ _ _ _ _ _ (Kd.C_below H4.out L.out) l4 (Kd.C_below H5.out L.out) l5 HCV.out).mono ?_
             rintro e' w14 ⟨z4, z5, rfl, R4, R5, hb⟩
             obtain ⟨b, d4, cs, rfl, hbM, hbk, hcs⟩ := R_form6 R4 HUN.out
             obtain ⟨D5, d5, rfl⟩ := Kd.R_slice R5
             have HBK := Aside0.mk hbk
             have HCS := Aside0.mk hcs
             have HMB := Aside0.mk (show M ≤ b by have := HM.out; omega)
             have HMS := Aside0.mk hb.size
             have P4 := Aside0.mk (Kd.R_lower R4 (Nat.le_of_eq HM.out))
             have P5 := Aside0.mk (Kd.R_lower R5 (Nat.le_of_eq HM.out))
             replace B3 := Aside0.mk (blk_keep B3.out hb (blk_lt B3.out))
             replace B9 := Aside0.mk (blk_keep B9.out hb (blk_lt B9.out))
             replace Q4 := Aside0.mk (Kd.R_below Q4.out hb)
             replace Q5 := Aside0.mk (Kd.R_below Q5.out hb)
             replace L := Aside0.mk (below_step L.out hb)
             clear p0 p1 p2 p3 p4 p5
             clear hb R4 R5 hbk hcs hbM B1)
     | (
             (with_reducible refine gate_dst (N := 11) rfl ?_); refine box_event ?hg (N := 11) ?hd (cs := #[.int .i64 0, .int .i64 0, .int .i64 0, .string (⟨#[]⟩ : ByteArray), .slice none 0 0, .slice none 0 0]) (t := 28) ?hr ?_; (case hd => rfl); (case hg => rfl); (case hr => exact qGWithSs0_)
             intro g11 hg wk hbox hb
             have T4 := Aside0.mk (Kd.R_below (Kd.R_mono (Kd.R_bound P4.out) (ok' := fun q => q < g11) (fun q hq => by have := hq.2.2.1; omega)) hb)
             have T5 := Aside0.mk (Kd.R_below (Kd.R_mono (Kd.R_bound P5.out) (ok' := fun q => q < g11) (fun q hq => by have := hq.2.2.1; omega)) hb)
             have HM11 := Aside0.mk (show M ≤ g11 by have := HM.out; have := HMS.out; omega)
             have neb11 : b ≠ g11 := by have := blk_lt HBK.out; omega
             have ne11b := neb11.symm
             have ne911 : g9 ≠ g11 := by have := blk_lt B9.out; omega
             have ne311 : g3 ≠ g11 := by have := blk_lt B3.out; omega
             have ne3b : g3 ≠ b := by have := HG3.out; have := HW0M.out; have := HMB.out; omega
             have neb3 := ne3b.symm
             have B11 := Aside0.mk hbox
             replace B3 := Aside0.mk (blk_keep B3.out hb (blk_lt B3.out))
             replace B9 := Aside0.mk (blk_keep B9.out hb (blk_lt B9.out))
             replace HBK := Aside0.mk (blk_keep HBK.out hb (blk_lt HBK.out))
             replace Q4 := Aside0.mk (Kd.R_below Q4.out hb)
             replace Q5 := Aside0.mk (Kd.R_below Q5.out hb)
             replace L := Aside0.mk (below_step L.out hb)
             clear hg hbox hb P4 P5
             obtain ⟨r0, r1, r2, r3, r4, r5, zr0, zr1, zr2, zr3, zr4, zr5⟩ := six_cells B11.out
             obtain ⟨e0, e1, e2, e3, e4, e5, -⟩ := six_cells B9.out
             obtain ⟨s0, s1, s2, s3, s4, s5, zs0, zs1, zs2, zs3, zs4, zs5⟩ := six_cells B3.out
             obtain ⟨f0, f1, f2, f3, f4, f5, m0, m1, m2, m3, m4_, m5_, zm0, zm1, zm2, zm3, zm4, zm5⟩ := six_old (o := u.toNat * 6) HBK.out HCS.out))
    have hB3 : ((((((((((((wk.setCell ⟨g11, 0, none⟩ (.int .i64 v.f0)).setCell ⟨g11, 1, none⟩ (.int .i64 v.f1.f0)).setCell ⟨g11, 2, none⟩ (.int .i64 v.f1.f1)).setCell ⟨g11, 3, none⟩ (.string v.f2)).setCell ⟨g11, 4, none⟩ (.slice (some ⟨b, 0, none⟩) v.f3.length d4)).setCell ⟨g11, 5, none⟩ (.slice D5 v.f4.length d5)).setCell ⟨b, u.toNat * 6, none⟩ (.int .i64 yo.f0)).setCell ⟨b, u.toNat * 6 + 1, none⟩ (.int .i64 yo.f1.f0)).setCell ⟨b, u.toNat * 6 + 2, none⟩ (.int .i64 yo.f1.f1)).setCell ⟨b, u.toNat * 6 + 3, none⟩ (.string yo.f2)).setCell ⟨b, u.toNat * 6 + 4, none⟩ (.slice O4 yo.f3.length o4)).setCell ⟨b, u.toNat * 6 + 5, none⟩ (.slice O5 yo.f4.length o5)).heap[g3]? = _ := (six_at_other g3 ne3b).trans ((six_same g3 ne311).trans B3.out)
    have hP := six_put (v0 := .int .i64 v.f0) (v1 := .int .i64 v.f1.f0) (v2 := .int .i64 v.f1.f1) (v3 := .string v.f2) (v4 := .slice (some ⟨b, 0, none⟩) v.f3.length d4) (v5 := .slice D5 v.f4.length d5) hB3
    refine bodyPost_ret (results_ct rfl _ _ g3 28 #[.int .i64 v.f0, .int .i64 v.f1.f0, .int .i64 v.f1.f1, .string v.f2, .slice (some ⟨b, 0, none⟩) v.f3.length d4, .slice D5 v.f4.length d5] (0, 0) _ rfl hP Tryd.underlying28 rfl (by kernel_rfl)) rfl ?_
    have t4 := Kd.R_step T4.out (w1 := (((((wk.setCell ⟨g11, 0, none⟩ (.int .i64 v.f0)).setCell ⟨g11, 1, none⟩ (.int .i64 v.f1.f0)).setCell ⟨g11, 2, none⟩ (.int .i64 v.f1.f1)).setCell ⟨g11, 3, none⟩ (.string v.f2)).setCell ⟨g11, 4, none⟩ (.slice (some ⟨b, 0, none⟩) v.f3.length d4)).setCell ⟨g11, 5, none⟩ (.slice D5 v.f4.length d5)) (fun q hq _ => six_same q (Nat.ne_of_lt hq))
    have t5 := Kd.R_step T5.out (w1 := (((((wk.setCell ⟨g11, 0, none⟩ (.int .i64 v.f0)).setCell ⟨g11, 1, none⟩ (.int .i64 v.f1.f0)).setCell ⟨g11, 2, none⟩ (.int .i64 v.f1.f1)).setCell ⟨g11, 3, none⟩ (.string v.f2)).setCell ⟨g11, 4, none⟩ (.slice (some ⟨b, 0, none⟩) v.f3.length d4)).setCell ⟨g11, 5, none⟩ (.slice D5 v.f4.length d5)) (fun q hq _ => six_same q (Nat.ne_of_lt hq))
    have y4_ := Kd.R_step Q4.out (w1 := (((((wk.setCell ⟨g11, 0, none⟩ (.int .i64 v.f0)).setCell ⟨g11, 1, none⟩ (.int .i64 v.f1.f0)).setCell ⟨g11, 2, none⟩ (.int .i64 v.f1.f1)).setCell ⟨g11, 3, none⟩ (.string v.f2)).setCell ⟨g11, 4, none⟩ (.slice (some ⟨b, 0, none⟩) v.f3.length d4)).setCell ⟨g11, 5, none⟩ (.slice D5 v.f4.length d5)) (fun q hq _ => six_same q (by have := HM11.out; omega))
    have y5_ := Kd.R_step Q5.out (w1 := (((((wk.setCell ⟨g11, 0, none⟩ (.int .i64 v.f0)).setCell ⟨g11, 1, none⟩ (.int .i64 v.f1.f0)).setCell ⟨g11, 2, none⟩ (.int .i64 v.f1.f1)).setCell ⟨g11, 3, none⟩ (.string v.f2)).setCell ⟨g11, 4, none⟩ (.slice (some ⟨b, 0, none⟩) v.f3.length d4)).setCell ⟨g11, 5, none⟩ (.slice D5 v.f4.length d5)) (fun q hq _ => six_same q (by have := HM11.out; omega))
    have hbk : ((((((wk.setCell ⟨g11, 0, none⟩ (.int .i64 v.f0)).setCell ⟨g11, 1, none⟩ (.int .i64 v.f1.f0)).setCell ⟨g11, 2, none⟩ (.int .i64 v.f1.f1)).setCell ⟨g11, 3, none⟩ (.string v.f2)).setCell ⟨g11, 4, none⟩ (.slice (some ⟨b, 0, none⟩) v.f3.length d4)).setCell ⟨g11, 5, none⟩ (.slice D5 v.f4.length d5)).heap[b]? = _ := (six_same b neb11).trans HBK.out
    have s4 := R_swap (Kd.R_mono t4 (fun _ _ => trivial)) HUN.out y4_ y5_ HW0M.out HMB.out
    have s5 := Kd.R_step (Kd.R_types t5 hbk (fun q hq => by rw [List.mem_singleton.1 hq]; decide)) (w1 := (((((((((((wk.setCell ⟨g11, 0, none⟩ (.int .i64 v.f0)).setCell ⟨g11, 1, none⟩ (.int .i64 v.f1.f0)).setCell ⟨g11, 2, none⟩ (.int .i64 v.f1.f1)).setCell ⟨g11, 3, none⟩ (.string v.f2)).setCell ⟨g11, 4, none⟩ (.slice (some ⟨b, 0, none⟩) v.f3.length d4)).setCell ⟨g11, 5, none⟩ (.slice D5 v.f4.length d5)).setCell ⟨b, u.toNat * 6, none⟩ (.int .i64 yo.f0)).setCell ⟨b, u.toNat * 6 + 1, none⟩ (.int .i64 yo.f1.f0)).setCell ⟨b, u.toNat * 6 + 2, none⟩ (.int .i64 yo.f1.f1)).setCell ⟨b, u.toNat * 6 + 3, none⟩ (.string yo.f2)).setCell ⟨b, u.toNat * 6 + 4, none⟩ (.slice O4 yo.f3.length o4)).setCell ⟨b, u.toNat * 6 + 5, none⟩ (.slice O5 yo.f4.length o5)) (fun q hq _ => six_at_other q hq.2)
    exact ⟨_, _, rfl, Kd.R_lower (R_six s4 HG3.out) HW0.out, Kd.R_lower (R_six (Kd.R_mono (Kd.R_lower s5 HW0M.out) (fun _ _ => trivial)) HG3.out) HW0.out, six_below (six_at_below (six_below L.out (Nat.le_trans HW0.out (Nat.le_trans HW0M.out HM11.out))) (Nat.le_trans HW0.out (Nat.le_trans HW0M.out HMB.out))) g3w⟩
end Go.Proofs.YtebcepbamlokcaaDoor.Q
namespace Go.Proofs.YtebcepbamlokcaaDoor.Q
open Go.RowKit Go.Proofs.YtebcepbamlokcaaDoorW.PrintWords Go.Proofs.YtebcepbamlokcaaDoorW.PrintLast
set_option linter.unusedVariables false
set_option linter.unusedSimpArgs false

set_option maxHeartbeats 1000000 in
set_option maxRecDepth 100000 in
theorem specWith_calls (G : S28 → Prop) (d : Nat) (P : S28 → ByteArray → Int) (k : Nat) (okb okx oky : Bool) (v x : S28) (path : List ByteArray) (HG0 : okb = true → Good G d P path) (hv0 : okb = true → G v)
    (hok : spec_ValueOk.f k v.f0 v.f1.f0 v.f1.f1 v.f2 v.f3 v.f4 = some okb) (hokx : spec_ValueOk.f k x.f0 x.f1.f0 x.f1.f1 x.f2 x.f3 x.f4 = some okx)
    (hoky : okb = true → okx = true → (At P v path).isSome = true → spec_ValueOk.f k (withT P v path x).f0 (withT P v path x).f1.f0 (withT P v path x).f1.f1 (withT P v path x).f2 (withT P v path x).f3 (withT P v path x).f4 = some oky)
    (hst0 : okb = true → ∀ x, G x → ∀ s ∈ path, spec_l13Step.f k x.f0 x.f1.f0 x.f1.f1 x.f2 x.f3 x.f4 s = some (P x s)) (hcp0 : okb = true → ∀ x, G x → spec_l13Copy.f k x.f0 x.f1.f0 x.f1.f1 x.f2 x.f3 x.f4 = some (x.f0, x.f1.f0, x.f1.f1, x.f2, x.f3, x.f4))
    (hx0 : okx = true → spec_l13Copy.f k x.f0 x.f1.f0 x.f1.f1 x.f2 x.f3 x.f4 = some (x.f0, x.f1.f0, x.f1.f1, x.f2, x.f3, x.f4))
    (w : World) (A4 : Option Addr) (c4 : Nat) (A5 : Option Addr) (c5 : Nat) (AP : Option Addr) (cP : Nat) (X4 : Option Addr) (x4 : Nat) (X5 : Option Addr) (x5 : Nat) (h4 : Kd.C k28 w A4 v.f3.length v.f3) (l4 : v.f3.length ≤ c4) (h5 : Kd.C Kd.string w A5 v.f4.length v.f4) (l5 : v.f4.length ≤ c5) (hp : Kd.C Kd.string w AP path.length path) (lp : path.length ≤ cP) (g4 : Kd.C k28 w X4 x.f3.length x.f3) (m4 : x.f3.length ≤ x4) (g5 : Kd.C Kd.string w X5 x.f4.length x.f4) (m5 : x.f4.length ≤ x5) :
    Calls Tryd.prog 20 #[.agg #[.int .i64 v.f0, .int .i64 v.f1.f0, .int .i64 v.f1.f1, .string v.f2, .slice A4 v.f3.length c4, .slice A5 v.f4.length c5], .slice AP path.length cP, .agg #[.int .i64 x.f0, .int .i64 x.f1.f0, .int .i64 x.f1.f1, .string x.f2, .slice X4 x.f3.length x4, .slice X5 x.f4.length x5]] w fun e' w' => ∃ (y : S28) (v4 v5 : Value),
      y = orZero (withRes P okb okx oky v path x) ∧ e' = .returned (.tuple #[.agg #[.int .i64 y.f0, .int .i64 y.f1.f0, .int .i64 y.f1.f1, .string y.f2, v4, v5], .bool (withRes P okb okx oky v path x).isSome]) ∧ Kd.R k28 28 w' w.heap.size (fun _ => True) v4 y.f3 ∧ Kd.R Kd.string 9 w' w.heap.size (fun _ => True) v5 y.f4 ∧ Below w.heap.size w w' := by
  have H4 := Aside0.mk h4; have H5 := Aside0.mk h5; have HP := Aside0.mk hp; have HOK := Aside0.mk hok; have HOX := Aside0.mk hokx; have HX4 := Aside0.mk g4; have HX5 := Aside0.mk g5
  obtain ⟨ba, hba⟩ : ∃ b, (withOp P v path x).isSome = b := ⟨_, rfl⟩
  obtain ⟨y, hyo⟩ : ∃ y, y = orZero (withOp P v path x) := ⟨_, rfl⟩
  obtain ⟨res, hres⟩ : ∃ r, r = withRes P okb okx oky v path x := ⟨_, rfl⟩
  rw [← hres]
  have hba' : (At P v path).isSome = ba := by rw [← hba]; unfold withOp; cases (At P v path).isSome <;> rfl
  have hby : ba = true → y = withT P v path x := fun h => by rw [hyo]; unfold withOp; rw [if_pos (hba'.trans h)]; rfl
  have hcase : (okb = false ∧ res = none) ∨ (okb = true ∧ okx = false ∧ res = none) ∨ (okb = true ∧ okx = true ∧ ba = false ∧ res = none) ∨ (okb = true ∧ okx = true ∧ ba = true ∧ oky = false ∧ res = none) ∨ (okb = true ∧ okx = true ∧ ba = true ∧ oky = true ∧ res = some y) := by
    rw [hres]; unfold withRes atRes
    cases okb with
    | false => exact .inl ⟨rfl, rfl⟩
    | true =>
      rw [if_pos rfl, hba']
      cases ba with
      | false => cases okx <;> cases oky <;> simp
      | true => rw [hby rfl]; cases okx <;> cases oky <;> simp
  have AY0 : Aside0 (okb = true → okx = true → (withOp P v path x).isSome = true → spec_ValueOk.f k y.f0 y.f1.f0 y.f1.f1 y.f2 y.f3 y.f4 = some oky) := ⟨fun h1 h2 h3 => by rw [hby (hba.symm.trans h3)]; exact hoky h1 h2 (by rw [hba', ← hba]; exact h3)⟩
  have HBA := Aside0.mk hba; have HYO := Aside0.mk hyo
  have mk_ := Mk.mk (n := 0)
  have AG0 := Aside0.mk HG0; have AV0 := Aside0.mk hv0; have AX0 := Aside0.mk hx0; have AS0 := Aside0.mk hst0; have AC0 := Aside0.mk hcp0
  clear h4 h5 hp hok hokx g4 g5 hba hba' hby hyo hres HG0 hv0 hx0 hoky hst0 hcp0
  rcases hcase with ⟨rfl, rfl⟩ | ⟨rfl, rfl, rfl⟩ | ⟨rfl, rfl, rfl, rfl⟩ | ⟨rfl, rfl, rfl, rfl, rfl⟩ | ⟨rfl, rfl, rfl, rfl, rfl⟩ <;> (
  go_enter Tryd.func20, Tryd.ntmps20
  go_wp2_with (first
    | ((with_reducible refine gate_dst (N := 3) rfl ?_); refine box_event ?hg (N := 3) ?hd (cs := #[.int .i64 v.f0, .int .i64 v.f1.f0, .int .i64 v.f1.f1, .string v.f2, .slice A4 v.f3.length c4, .slice A5 v.f4.length c5]) (t := 28) ?hr ?_; (case hd => rfl); (case hg => rfl); (case hr => first | (go_simp; done) | (go_simp; rfl))
       intro g1 hg wk hbox hb
       have B1 := Aside0.mk hbox
       have L := Aside0.mk hb
       clear hg hbox hb)
    | ((with_reducible refine gate_dst (N := 5) rfl ?_); refine box_event ?hg (N := 5) ?hd (cs := #[.int .i64 x.f0, .int .i64 x.f1.f0, .int .i64 x.f1.f1, .string x.f2, .slice X4 x.f3.length x4, .slice X5 x.f4.length x5]) (t := 28) ?hr ?_; (case hd => rfl); (case hg => rfl); (case hr => first | (go_simp; done) | (go_simp; rfl))
       intro g2 hg wk hbox hb
       have B2 := Aside0.mk hbox
       replace B1 := Aside0.mk (blk_keep B1.out hb (blk_lt B1.out))
       replace L := Aside0.mk (below_step L.out hb)
       clear hg hbox hb)
    | ((with_reducible refine gate_dst (N := 6) rfl ?_); refine box_event ?hg (N := 6) ?hd (cs := #[.int .i64 0, .int .i64 0, .int .i64 0, .string (⟨#[]⟩ : ByteArray), .slice none 0 0, .slice none 0 0]) (t := 28) ?hr ?_; (case hd => rfl); (case hg => rfl); (case hr => first | (go_simp; done) | (go_simp; rfl))
       intro g3 hg wk hbox hb
       have g3w : w.heap.size ≤ g3 := by have := L.out.size; omega
       have B3 := Aside0.mk hbox
       replace B1 := Aside0.mk (blk_keep B1.out hb (blk_lt B1.out))
       replace B2 := Aside0.mk (blk_keep B2.out hb (blk_lt B2.out))
       replace L := Aside0.mk (below_step L.out hb)
       clear hg hbox hb
       obtain ⟨p0, p1, p2, p3, p4, p5, -⟩ := six_cells B1.out)
    | (go_at_call 14
       have _st : Mk 0 := mk_
       refine (spec_ValueOk.calls k v.f0 v.f1.f0 v.f1.f1 v.f2 A4 c4 v.f3 A5 c5 v.f4 _ _ (Kd.C_below H4.out L.out) l4 (Kd.C_below H5.out L.out) l5 HOK.out).mono ?_
       rintro e' w9 ⟨rfl, hb⟩
       replace B1 := Aside0.mk (blk_keep B1.out hb (blk_lt B1.out))
       replace B2 := Aside0.mk (blk_keep B2.out hb (blk_lt B2.out))
       replace B3 := Aside0.mk (blk_keep B3.out hb (blk_lt B3.out))
       replace L := Aside0.mk (below_step L.out hb)
       clear p0 p1 p2 p3 p4 p5
       clear hb
       obtain ⟨q0, q1, q2, q3, q4, q5, -⟩ := six_cells B2.out
       obtain ⟨r0, r1, r2, r3, r4, r5, zr0, zr1, zr2, zr3, zr4, zr5⟩ := six_cells B3.out
       replace mk_ := Mk.mk (n := 1))
    | (go_at_call 14
       have _st : Mk 1 := mk_
       refine (spec_ValueOk.calls k x.f0 x.f1.f0 x.f1.f1 x.f2 X4 x4 x.f3 X5 x5 x.f4 _ _ (Kd.C_below HX4.out L.out) m4 (Kd.C_below HX5.out L.out) m5 HOX.out).mono ?_
       rintro e' w9 ⟨rfl, hb⟩
       replace B1 := Aside0.mk (blk_keep B1.out hb (blk_lt B1.out))
       replace B2 := Aside0.mk (blk_keep B2.out hb (blk_lt B2.out))
       replace B3 := Aside0.mk (blk_keep B3.out hb (blk_lt B3.out))
       replace L := Aside0.mk (below_step L.out hb)
       clear q0 q1 q2 q3 q4 q5
       clear r0 r1 r2 r3 r4 r5 zr0 zr1 zr2 zr3 zr4 zr5
       clear hb
       obtain ⟨p0, p1, p2, p3, p4, p5, -⟩ := six_cells B1.out
       obtain ⟨q0, q1, q2, q3, q4, q5, -⟩ := six_cells B2.out
       obtain ⟨r0, r1, r2, r3, r4, r5, zr0, zr1, zr2, zr3, zr4, zr5⟩ := six_cells B3.out
       replace mk_ := Mk.mk (n := 2))
    | (go_at_call 59
       have _st : Mk 2 := mk_
       refine (l13With_calls G d P k path (AG0.out (by first | rfl | trivial)) (AS0.out (by first | rfl | trivial)) (AC0.out (by first | rfl | trivial)) x (AX0.out (by first | rfl | trivial)) path (fun s hs => hs) v (AV0.out (by first | rfl | trivial)) _ A4 c4 A5 c5 AP cP X4 x4 X5 x5 (Kd.C_below H4.out L.out) l4 (Kd.C_below H5.out L.out) l5 (Kd.C_below HP.out L.out) lp (Kd.C_below HX4.out L.out) m4 (Kd.C_below HX5.out L.out) m5).mono ?_
       rintro e' w10 ⟨u4, u5, rfl, R4, R5, hb⟩
       rw [← HYO.out] at R4 R5 ⊢
       rw [HBA.out]
       have HS := Aside0.mk L.out.size
       have HG3 := Aside0.mk (blk_lt B3.out)
       have Q4 := Aside0.mk R4
       have Q5 := Aside0.mk R5
       obtain ⟨O4, o4, rfl⟩ := Kd.R_slice R4
       obtain ⟨O5, o5, rfl⟩ := Kd.R_slice R5
       replace B3 := Aside0.mk (blk_keep B3.out hb (blk_lt B3.out))
       replace L := Aside0.mk (below_step L.out hb)
       clear p0 p1 p2 p3 p4 p5
       clear q0 q1 q2 q3 q4 q5
       clear r0 r1 r2 r3 r4 r5 zr0 zr1 zr2 zr3 zr4 zr5
       clear hb R4 R5 B1 B2
       replace mk_ := Mk.mk (n := 3))
    | ((with_reducible refine gate_dst (N := 8) rfl ?_); refine box_event ?hg (N := 8) ?hd (cs := #[.int .i64 0, .int .i64 0, .int .i64 0, .string (⟨#[]⟩ : ByteArray), .slice none 0 0, .slice none 0 0]) (t := 28) ?hr ?_; (case hd => rfl); (case hg => rfl); (case hr => first | (go_simp; done) | (go_simp; rfl))
       intro g8 hg wk hbox hb
       have g8w : w.heap.size ≤ g8 := by have := L.out.size; omega
       have B8 := Aside0.mk hbox
       have ne3 : g3 ≠ g8 := by have := blk_lt B3.out; omega
       replace Q4 := Aside0.mk (Kd.R_mono (Kd.R_bound Q4.out) (ok' := fun q => q < g8) (fun q hq => by have := hq.2.2.1; omega))
       replace Q5 := Aside0.mk (Kd.R_mono (Kd.R_bound Q5.out) (ok' := fun q => q < g8) (fun q hq => by have := hq.2.2.1; omega))
       replace B3 := Aside0.mk (blk_keep B3.out hb (blk_lt B3.out))
       replace Q4 := Aside0.mk (Kd.R_below Q4.out hb)
       replace Q5 := Aside0.mk (Kd.R_below Q5.out hb)
       replace L := Aside0.mk (below_step L.out hb)
       clear hg hbox hb
       obtain ⟨e0, e1, e2, e3, e4, e5, ze0, ze1, ze2, ze3, ze4, ze5⟩ := six_cells B8.out)
    | ((with_reducible refine gate_dst (N := 33) rfl ?_)
       have _st : Mk 3 := mk_
       have hk := six_kept wk g8 (.int .i64 y.f0) (.int .i64 y.f1.f0) (.int .i64 y.f1.f1) (.string y.f2) (.slice O4 y.f3.length o4) (.slice O5 y.f4.length o5)
       have b_ := six_put (v0 := .int .i64 y.f0) (v1 := .int .i64 y.f1.f0) (v2 := .int .i64 y.f1.f1) (v3 := .string y.f2) (v4 := .slice O4 y.f3.length o4) (v5 := .slice O5 y.f4.length o5) B8.out
       have l_ := six_below (v0 := .int .i64 y.f0) (v1 := .int .i64 y.f1.f0) (v2 := .int .i64 y.f1.f1) (v3 := .string y.f2) (v4 := .slice O4 y.f3.length o4) (v5 := .slice O5 y.f4.length o5) L.out g8w
       have rQ4_ := Kd.R_step Q4.out (w1 := (((((wk.setCell ⟨g8, 0, none⟩ (.int .i64 y.f0)).setCell ⟨g8, 1, none⟩ (.int .i64 y.f1.f0)).setCell ⟨g8, 2, none⟩ (.int .i64 y.f1.f1)).setCell ⟨g8, 3, none⟩ (.string y.f2)).setCell ⟨g8, 4, none⟩ (.slice O4 y.f3.length o4)).setCell ⟨g8, 5, none⟩ (.slice O5 y.f4.length o5)) (fun q hq _ => six_same q ((fun q (hq : q < g8) => Nat.ne_of_lt hq) q hq))
       have rQ5_ := Kd.R_step Q5.out (w1 := (((((wk.setCell ⟨g8, 0, none⟩ (.int .i64 y.f0)).setCell ⟨g8, 1, none⟩ (.int .i64 y.f1.f0)).setCell ⟨g8, 2, none⟩ (.int .i64 y.f1.f1)).setCell ⟨g8, 3, none⟩ (.string y.f2)).setCell ⟨g8, 4, none⟩ (.slice O4 y.f3.length o4)).setCell ⟨g8, 5, none⟩ (.slice O5 y.f4.length o5)) (fun q hq _ => six_same q ((fun q (hq : q < g8) => Nat.ne_of_lt hq) q hq))
       clear e0 e1 e2 e3 e4 e5 ze0 ze1 ze2 ze3 ze4 ze5
       generalize (((((wk.setCell ⟨g8, 0, none⟩ (.int .i64 y.f0)).setCell ⟨g8, 1, none⟩ (.int .i64 y.f1.f0)).setCell ⟨g8, 2, none⟩ (.int .i64 y.f1.f1)).setCell ⟨g8, 3, none⟩ (.string y.f2)).setCell ⟨g8, 4, none⟩ (.slice O4 y.f3.length o4)).setCell ⟨g8, 5, none⟩ (.slice O5 y.f4.length o5) = w11 at *
       replace B3 := Aside0.mk (blk_kept B3.out hk (fun h => ne3 h))
       replace Q4 := Aside0.mk rQ4_
       replace Q5 := Aside0.mk rQ5_
       replace B8 := Aside0.mk b_
       replace L := Aside0.mk l_
       clear hk b_ l_ rQ4_ rQ5_
       obtain ⟨r0, r1, r2, r3, r4, r5, zr0, zr1, zr2, zr3, zr4, zr5⟩ := six_cells B3.out
       replace mk_ := Mk.mk (n := 4))
    | (go_at_call 14
       have _st : Mk 3 := mk_
       have hk := six_kept wk g8 (.int .i64 y.f0) (.int .i64 y.f1.f0) (.int .i64 y.f1.f1) (.string y.f2) (.slice O4 y.f3.length o4) (.slice O5 y.f4.length o5)
       have b_ := six_put (v0 := .int .i64 y.f0) (v1 := .int .i64 y.f1.f0) (v2 := .int .i64 y.f1.f1) (v3 := .string y.f2) (v4 := .slice O4 y.f3.length o4) (v5 := .slice O5 y.f4.length o5) B8.out
       have l_ := six_below (v0 := .int .i64 y.f0) (v1 := .int .i64 y.f1.f0) (v2 := .int .i64 y.f1.f1) (v3 := .string y.f2) (v4 := .slice O4 y.f3.length o4) (v5 := .slice O5 y.f4.length o5) L.out g8w
       have rQ4_ := Kd.R_step Q4.out (w1 := (((((wk.setCell ⟨g8, 0, none⟩ (.int .i64 y.f0)).setCell ⟨g8, 1, none⟩ (.int .i64 y.f1.f0)).setCell ⟨g8, 2, none⟩ (.int .i64 y.f1.f1)).setCell ⟨g8, 3, none⟩ (.string y.f2)).setCell ⟨g8, 4, none⟩ (.slice O4 y.f3.length o4)).setCell ⟨g8, 5, none⟩ (.slice O5 y.f4.length o5)) (fun q hq _ => six_same q ((fun q (hq : q < g8) => Nat.ne_of_lt hq) q hq))
       have rQ5_ := Kd.R_step Q5.out (w1 := (((((wk.setCell ⟨g8, 0, none⟩ (.int .i64 y.f0)).setCell ⟨g8, 1, none⟩ (.int .i64 y.f1.f0)).setCell ⟨g8, 2, none⟩ (.int .i64 y.f1.f1)).setCell ⟨g8, 3, none⟩ (.string y.f2)).setCell ⟨g8, 4, none⟩ (.slice O4 y.f3.length o4)).setCell ⟨g8, 5, none⟩ (.slice O5 y.f4.length o5)) (fun q hq _ => six_same q ((fun q (hq : q < g8) => Nat.ne_of_lt hq) q hq))
       clear e0 e1 e2 e3 e4 e5 ze0 ze1 ze2 ze3 ze4 ze5
       generalize (((((wk.setCell ⟨g8, 0, none⟩ (.int .i64 y.f0)).setCell ⟨g8, 1, none⟩ (.int .i64 y.f1.f0)).setCell ⟨g8, 2, none⟩ (.int .i64 y.f1.f1)).setCell ⟨g8, 3, none⟩ (.string y.f2)).setCell ⟨g8, 4, none⟩ (.slice O4 y.f3.length o4)).setCell ⟨g8, 5, none⟩ (.slice O5 y.f4.length o5) = w11 at *
       replace B3 := Aside0.mk (blk_kept B3.out hk (fun h => ne3 h))
       replace Q4 := Aside0.mk rQ4_
       replace Q5 := Aside0.mk rQ5_
       replace B8 := Aside0.mk b_
       replace L := Aside0.mk l_
       clear hk b_ l_ rQ4_ rQ5_
       refine (spec_ValueOk.calls k y.f0 y.f1.f0 y.f1.f1 y.f2 O4 o4 y.f3 O5 o5 y.f4 _ _ (Kd.R_reads' Q4.out).2.2 (Kd.R_reads' Q4.out).2.1 (Kd.R_reads' Q5.out).2.2 (Kd.R_reads' Q5.out).2.1 (AY0.out (by first | rfl | trivial) (by first | rfl | trivial) HBA.out)).mono ?_
       rintro e' w9 ⟨rfl, hb⟩
       replace B3 := Aside0.mk (blk_keep B3.out hb (blk_lt B3.out))
       replace B8 := Aside0.mk (blk_keep B8.out hb (blk_lt B8.out))
       replace Q4 := Aside0.mk (Kd.R_below Q4.out hb)
       replace Q5 := Aside0.mk (Kd.R_below Q5.out hb)
       replace L := Aside0.mk (below_step L.out hb)
       clear hb
       obtain ⟨q0, q1, q2, q3, q4, q5, -⟩ := six_cells B8.out
       obtain ⟨r0, r1, r2, r3, r4, r5, zr0, zr1, zr2, zr3, zr4, zr5⟩ := six_cells B3.out
       replace mk_ := Mk.mk (n := 4))))
  iterate 4 (
    have hP := six_put (v0 := .int .i64 0) (v1 := .int .i64 0) (v2 := .int .i64 0) (v3 := .string ⟨#[]⟩) (v4 := .slice none 0 0) (v5 := .slice none 0 0) B3.out
    refine bodyPost_ret (results_ct rfl _ _ g3 28 #[.int .i64 0, .int .i64 0, .int .i64 0, .string ⟨#[]⟩, .slice none 0 0, .slice none 0 0] (0, 0) _ rfl hP Tryd.underlying28 rfl (by kernel_rfl)) rfl ?_
    exact ⟨z28, .slice none 0 0, .slice none 0 0, rfl, rfl, Kd.R_nil _ _ _ _ _, Kd.R_nil _ _ _ _ _, six_below L.out g3w⟩)
  have hP := six_put (v0 := .int .i64 y.f0) (v1 := .int .i64 y.f1.f0) (v2 := .int .i64 y.f1.f1) (v3 := .string y.f2) (v4 := .slice O4 y.f3.length o4) (v5 := .slice O5 y.f4.length o5) B3.out
  refine bodyPost_ret (results_ct rfl _ _ g3 28 #[.int .i64 y.f0, .int .i64 y.f1.f0, .int .i64 y.f1.f1, .string y.f2, .slice O4 y.f3.length o4, .slice O5 y.f4.length o5] (0, 0) _ rfl hP Tryd.underlying28 rfl (by kernel_rfl)) rfl ?_
  exact ⟨y, _, _, rfl, rfl, Kd.R_lower (R_six (Kd.R_mono Q4.out (fun _ _ => trivial)) HG3.out) HS.out, Kd.R_lower (R_six (Kd.R_mono Q5.out (fun _ _ => trivial)) HG3.out) HS.out, six_below L.out g3w⟩
end Go.Proofs.YtebcepbamlokcaaDoor.Q
