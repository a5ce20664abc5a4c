/- GLawW, GLawM, PlainWithAll, GRowV -/
import Derived.Test.YtebcepbamlokcaaDoorRows
import Derived.Stop.LaidErr
import Derived.SliceStrings
import Derived.OpenVars
import Derived.ChangeVars
import Derived.Test.YtebcepbamlokcaaDoorBWi3
namespace Go.Proofs.YtebcepbamlokcaaDoor.Q
open Go.RowKit Go.Proofs.YtebcepbamlokcaaDoorW.PrintWords Go.Proofs.YtebcepbamlokcaaDoorW.PrintLast
set_option linter.unusedVariables false
set_option linter.unusedSimpArgs false

theorem qGLawWs0_ {P : Prop} (h : P := by (try simp only [List.map_toArray, List.map_cons, List.map_nil]); first | done | rfl) : P := h
theorem qGLawWs1_ {P : Prop} (h : P := by exact (NRow.same R1.out (Same.below (NRow.lt R1.out) hb))) : P := h
theorem qGLawWs2_ {P : Prop} (h : P := by first | (go_simp; done) | (go_simp; rfl)) : P := h
theorem markValue_r (d : Nat) (x : S28) (hf : FitV d x) (w0 w : World) (B4 : Option Addr) (b4 : Nat) (B5 : Option Addr) (b5 : Nat) (f4 f5 : List Nat) (k r : Int) (h0 : 0 ≤ k) (hr : k + (cnt d x.f3 : Nat) + x.f4.length = r) (h1 : r ≤ 1099511627776) (h : TreeAt d w x B4 b4 B5 b5 f4 f5) (hB : Below w0.heap.size w0 w) (hfp : ∀ b ∈ f4 ++ f5, w0.heap.size ≤ b) :
  Calls Tryd.prog 27 #[.agg #[.int .i64 x.f0, .int .i64 x.f1.f0, .int .i64 x.f1.f1, .string x.f2, .slice B4 x.f3.length b4, .slice B5 x.f4.length b5], .int .i64 k] w fun e w' =>
   e = .returned (.int .i64 r) ∧ (∃ v' : S28, TreeAt d w' v' B4 b4 B5 b5 f4 f5 ∧ v'.f3.length = x.f3.length ∧ v'.f4.length = x.f4.length ∧ cnt d v'.f3 = cnt d x.f3 ∧ Marks d v'.f3 k ∧ NMarks v'.f4 (k + (cnt d x.f3 : Nat))) ∧
    Below w0.heap.size w0 w' ∧ Kept w w' (fun b => b ∈ f4 ++ f5) := by
 subst hr
 refine (markValue_calls d w0 w x.f0 x.f1.f0 x.f1.f1 x.f2 B4 b4 x.f3 B5 b5 x.f4 f4 f5 k h.V h.N h.nd h.l4 h.l5 h0 h1 hB hfp).mono ?_
 rintro e w' ⟨rfl, ⟨xs', ns', V, N, l3, lc, l4, m, mn⟩, hb, hk⟩
 exact ⟨rfl, ⟨⟨x.f0, x.f1, x.f2, xs', ns'⟩, ⟨(by rw [show (⟨x.f0, x.f1, x.f2, xs', ns'⟩ : S28).f3 = xs' from rfl, l3]; exact h.l4), (by rw [show (⟨x.f0, x.f1, x.f2, xs', ns'⟩ : S28).f4 = ns' from rfl, l4]; exact h.l5), V, N, h.nd⟩, l3, l4, lc, m, mn⟩, hb, hk⟩

abbrev ImplWithC (d : Nat) (v : S28) (path : List ByteArray) (u : S28) (res : Option S28) : Prop := ∀ (w : World) (A4 : Option Addr) (c4 : Nat) (A5 : Option Addr) (c5 : Nat) (AP : Option Addr) (cP : Nat) (X4 : Option Addr) (x4 : Nat) (X5 : Option Addr) (x5 : Nat), Kd.C k28 w A4 v.f3.length v.f3 → v.f3.length ≤ c4 → Kd.C Kd.string w A5 v.f4.length v.f4 → v.f4.length ≤ c5 →
  Kd.C Kd.string w AP path.length path → path.length ≤ cP → Kd.C k28 w X4 u.f3.length u.f3 → u.f3.length ≤ x4 → Kd.C Kd.string w X5 u.f4.length u.f4 → u.f4.length ≤ x5 → LaidG 15 w →
  Calls Tryd.prog 19 #[.agg #[.int .i64 v.f0, .int .i64 v.f1.f0, .int .i64 v.f1.f1, .string v.f2, .slice A4 v.f3.length c4, .slice A5 v.f4.length c5], .slice AP path.length cP, .agg #[.int .i64 u.f0, .int .i64 u.f1.f0, .int .i64 u.f1.f1, .string u.f2, .slice X4 u.f3.length x4, .slice X5 u.f4.length x5]] w fun e' w' => ∃ (x : S28) (B4 : Option Addr) (b4 : Nat) (B5 : Option Addr) (b5 : Nat) (f4 f5 : List Nat),
   x = orZero res ∧ e' = .returned (.tuple #[.agg #[.int .i64 x.f0, .int .i64 x.f1.f0, .int .i64 x.f1.f1, .string x.f2, .slice B4 x.f3.length b4, .slice B5 x.f4.length b5], .bool res.isSome]) ∧
   x.f3.length ≤ b4 ∧ x.f4.length ≤ b5 ∧ VRow d w' B4 x.f3 f4 ∧ NRow w' B5 x.f4 f5 ∧ (f4 ++ f5).Nodup ∧ (∀ q ∈ f4 ++ f5, w.heap.size ≤ q) ∧ Below w.heap.size w w'
abbrev SpecWithC (v : S28) (path : List ByteArray) (u : S28) (res : Option S28) : Prop := ∀ (w : World) (A4 : Option Addr) (c4 : Nat) (A5 : Option Addr) (c5 : Nat) (AP : Option Addr) (cP : Nat) (X4 : Option Addr) (x4 : Nat) (X5 : Option Addr) (x5 : Nat), Kd.C k28 w A4 v.f3.length v.f3 → v.f3.length ≤ c4 → Kd.C Kd.string w A5 v.f4.length v.f4 → v.f4.length ≤ c5 →
  Kd.C Kd.string w AP path.length path → path.length ≤ cP → Kd.C k28 w X4 u.f3.length u.f3 → u.f3.length ≤ x4 → Kd.C Kd.string w X5 u.f4.length u.f4 → u.f4.length ≤ x5 →
  Calls Tryd.prog 20 #[.agg #[.int .i64 v.f0, .int .i64 v.f1.f0, .int .i64 v.f1.f1, .string v.f2, .slice A4 v.f3.length c4, .slice A5 v.f4.length c5], .slice AP path.length cP, .agg #[.int .i64 u.f0, .int .i64 u.f1.f0, .int .i64 u.f1.f1, .string u.f2, .slice X4 u.f3.length x4, .slice X5 u.f4.length x5]] w fun e' w' => ∃ (x : S28) (v4 v5 : Value),
   x = orZero res ∧ e' = .returned (.tuple #[.agg #[.int .i64 x.f0, .int .i64 x.f1.f0, .int .i64 x.f1.f1, .string x.f2, v4, v5], .bool res.isSome]) ∧
   Kd.R k28 28 w' w.heap.size (fun _ => True) v4 x.f3 ∧ Kd.R Kd.string 9 w' w.heap.size (fun _ => True) v5 x.f4 ∧ Below w.heap.size w w'

set_option maxHeartbeats 4000000 in
set_option maxRecDepth 100000 in
theorem lawW_main (d : Nat) (a : S45) (path : List ByteArray) (b : S45) (v u z : S28) (res : Option S28) (hv : v = toV (toL d) a) (hu : u = toV (toL d) b) (hz : z = orZero res) (L1 L2 L3 : Int)
  (hl1 : lessW 1048576 (a.f2.size + vw d a.f3 + nw a.f4) = L1) (h1 : 0 ≤ L1 ∧ L1 ≤ 1048576) (hl2 : lessW L1 (nw path) = L2) (h2 : 0 ≤ L2 ∧ L2 ≤ 1048576) (hl3 : lessW L2 (b.f2.size + vw d b.f3 + nw b.f4) = L3) (h3 : 0 ≤ L3)
  (hbd : a.f2.size ≤ 140737488351232 ∧ a.f4.length ≤ 140737488351232 ∧ (∀ s ∈ a.f4, s.size ≤ 140737488351232) ∧ Bnd d a.f3) (hpb : path.length ≤ 140737488351232 ∧ ∀ s ∈ path, s.size ≤ 140737488351232) (hbb : b.f2.size ≤ 140737488351232 ∧ b.f4.length ≤ 140737488351232 ∧ (∀ s ∈ b.f4, s.size ≤ 140737488351232) ∧ Bnd d b.f3) (hpl : path.length ≤ 2097152)
  (hf : Fit45 d a.f3 ∧ a.f4.length ≤ 2097152) (hfb : Fit45 d b.f3 ∧ b.f4.length ≤ 2097152) (hV : FitV d v) (hU : FitV d u) (hZ : FitV d z) (HI : ImplWithC d v path u res) (HS : SpecWithC v path u res)
  (w : World) (A4 : Option Addr) (c4 : Nat) (A5 : Option Addr) (c5 : Nat) (AP : Option Addr) (cP : Nat) (B4 : Option Addr) (b4 : Nat) (B5 : Option Addr) (b5 : Nat) (h4 : Kd.C k45 w A4 a.f3.length a.f3) (l4 : a.f3.length ≤ c4) (h5 : Kd.C Kd.string w A5 a.f4.length a.f4) (l5 : a.f4.length ≤ c5)
  (hp : Kd.C Kd.string w AP path.length path) (lp : path.length ≤ cP) (h6 : Kd.C k45 w B4 b.f3.length b.f3) (l6 : b.f3.length ≤ b4) (h7 : Kd.C Kd.string w B5 b.f4.length b.f4) (l7 : b.f4.length ≤ b5) (hG : LaidG 15 w) :
  Calls Tryd.prog 9 #[.agg #[.int .i64 a.f0, .int .i64 a.f1.f0, .int .i64 a.f1.f1, .string a.f2, .slice A4 a.f3.length c4, .slice A5 a.f4.length c5], .slice AP path.length cP, .agg #[.int .i64 b.f0, .int .i64 b.f1.f0, .int .i64 b.f1.f1, .string b.f2, .slice B4 b.f3.length b4, .slice B5 b.f4.length b5]] w fun e w' => e = .returned (.bool true) ∧ Below w.heap.size w w' := by
 have H4 := Aside0.mk h4; have H5 := Aside0.mk h5; have HP := Aside0.mk hp; have HG := Aside0.mk hG; have H6 := Aside0.mk h6; have H7 := Aside0.mk h7
 have HB := Aside0.mk hbd; have HPB := Aside0.mk hpb; have HBB := Aside0.mk hbb; have HPL := Aside0.mk hpl; have HF := Aside0.mk hf; have HFB := Aside0.mk hfb; have HV := Aside0.mk hV; have HU := Aside0.mk hU; have HZ := Aside0.mk hZ; have HL1 := Aside0.mk h1; have HL2 := Aside0.mk h2
 have d1 : decide (L1 < 0) = false := decide_eq_false (by omega)
 have d2 : decide (L2 < 0) = false := decide_eq_false (by omega)
 have d3 : decide (L3 < 0) = false := decide_eq_false (by omega)
 obtain ⟨K1, hK1⟩ : ∃ K, 1 + ((cnt d v.f3 : Nat) : Int) + (v.f4.length : Int) = K := ⟨_, rfl⟩
 obtain ⟨K2, hK2⟩ : ∃ K, K1 + (path.length : Int) = K := ⟨_, rfl⟩
 obtain ⟨K3, hK3⟩ : ∃ K, K2 + ((cnt d u.f3 : Nat) : Int) + (u.f4.length : Int) = K := ⟨_, rfl⟩
 obtain ⟨M1, hM1⟩ : ∃ K, 1 + ((cnt d z.f3 : Nat) : Int) + (z.f4.length : Int) = K := ⟨_, rfl⟩
 have HKN : Aside0 (0 ≤ K1 ∧ 0 ≤ K2 ∧ 0 ≤ K3 ∧ 0 ≤ M1 ∧ K1 ≤ 1099511627776 ∧ K2 ≤ 1099511627776 ∧ K3 ≤ 1099511627776 ∧ M1 ≤ 1099511627776 ∧ K1 + path.length ≤ 1099511627776) := ⟨by have := hV.cn; have := hU.cn; have := hZ.cn; omega⟩
 have d4 : decide (K3 < 0) = false := decide_eq_false (by have := HKN.out; omega)
 have d5 : decide (M1 < 0) = false := decide_eq_false (by have := HKN.out; omega)
 have HK1 := Aside0.mk hK1; have HK2 := Aside0.mk hK2; have HK3 := Aside0.mk hK3; have HM1 := Aside0.mk hM1
 have HVE := Aside0.mk hv; have HUE := Aside0.mk hu; have HZE := Aside0.mk hz
 have mk_ := Mk.mk (n := 0)
 clear hv hu hz h4 h5 hp hG h6 h7 hbd hpb hbb hpl hf hfb hV hU hZ h1 h2 h3 hK1 hK2 hK3 hM1
 go_enter Tryd.func9, Tryd.ntmps9
 go_wp2_with (first
  | (
  (with_reducible refine gate_dst (N := 3) rfl ?_); refine box_event ?hg (N := 3) ?hd (cs := #[.int .i64 a.f0, .int .i64 a.f1.f0, .int .i64 a.f1.f1, .string a.f2, .slice A4 a.f3.length c4, .slice A5 a.f4.length c5]) (t := 45) ?hr ?_; (case hd => rfl); (case hg => rfl); (case hr => exact qGLawWs2_)
  intro ga hg wk hbox hb
  have BA := Aside0.mk hbox
  have L := Aside0.mk hb
  clear hg hbox hb)
  | (
  (with_reducible refine gate_dst (N := 5) rfl ?_); refine box_event ?hg (N := 5) ?hd (cs := #[.int .i64 b.f0, .int .i64 b.f1.f0, .int .i64 b.f1.f1, .string b.f2, .slice B4 b.f3.length b4, .slice B5 b.f4.length b5]) (t := 45) ?hr ?_; (case hd => rfl); (case hg => rfl); (case hr => exact qGLawWs2_)
  intro gb hg wk hbox hb
  have BB := Aside0.mk hbox
  replace BA := Aside0.mk (blk_keep BA.out hb (blk_lt BA.out))
  replace L := Aside0.mk (below_step L.out hb)
  clear hg hbox hb
  obtain ⟨p0, p1, p2, p3, p4, p5, -⟩ := six_cells BA.out)
  | (
  go_at_call 22
  have _st : Mk 0 := mk_
  refine (szValue_of d (szValueS_calls d) _ a.f0 a.f1.f0 a.f1.f1 a.f2 A4 c4 a.f3 A5 c5 a.f4 1048576 (Kd.C_below H4.out L.out) l4 (Kd.C_below H5.out L.out) l5 (by decide) (by decide) HB.out.1 HB.out.2.1 HB.out.2.2.1 HB.out.2.2.2).mono ?_
  rintro e' wt ⟨rfl, hb⟩
  rw [hl1]
  replace BA := Aside0.mk (blk_keep BA.out hb (blk_lt BA.out))
  replace L := Aside0.mk (below_step L.out hb)
  replace BB := Aside0.mk (blk_keep BB.out hb (blk_lt BB.out))
  clear hb
  clear p0 p1 p2 p3 p4 p5
  replace mk_ := Mk.mk (n := 1))
  | (
  go_at_call 29
  have _st : Mk 1 := mk_
  refine (szStringS_calls _ AP cP path L1 (Kd.C_below HP.out L.out) lp HL1.out.1 HL1.out.2 HPB.out.1 HPB.out.2).mono ?_
  rintro e' wt ⟨rfl, hb⟩
  rw [hl2]
  replace BA := Aside0.mk (blk_keep BA.out hb (blk_lt BA.out))
  replace L := Aside0.mk (below_step L.out hb)
  replace BB := Aside0.mk (blk_keep BB.out hb (blk_lt BB.out))
  clear hb
  obtain ⟨q0, q1, q2, q3, q4, q5, -⟩ := six_cells BB.out
  replace mk_ := Mk.mk (n := 2))
  | (
  go_at_call 22
  have _st : Mk 2 := mk_
  refine (szValue_of d (szValueS_calls d) _ b.f0 b.f1.f0 b.f1.f1 b.f2 B4 b4 b.f3 B5 b5 b.f4 L2 (Kd.C_below H6.out L.out) l6 (Kd.C_below H7.out L.out) l7 HL2.out.1 HL2.out.2 HBB.out.1 HBB.out.2.1 HBB.out.2.2.1 HBB.out.2.2.2).mono ?_
  rintro e' wt ⟨rfl, hb⟩
  rw [hl3]
  replace BA := Aside0.mk (blk_keep BA.out hb (blk_lt BA.out))
  replace L := Aside0.mk (below_step L.out hb)
  replace BB := Aside0.mk (blk_keep BB.out hb (blk_lt BB.out))
  clear hb
  clear q0 q1 q2 q3 q4 q5
  replace mk_ := Mk.mk (n := 3)))
 obtain ⟨p0, p1, p2, p3, p4, p5, -⟩ := six_cells BA.out
 obtain ⟨q0, q1, q2, q3, q4, q5, -⟩ := six_cells BB.out
 have hSt : ∀ W_ W' : World, Below W_.heap.size W_ W' → (W_.cell? ⟨ga, 0, none⟩ = some (.int .i64 a.f0) ∧ W_.cell? ⟨ga, 1, none⟩ = some (.int .i64 a.f1.f0) ∧ W_.cell? ⟨ga, 2, none⟩ = some (.int .i64 a.f1.f1) ∧ W_.cell? ⟨ga, 3, none⟩ = some (.string a.f2) ∧ W_.cell? ⟨ga, 4, none⟩ = some (.slice A4 a.f3.length c4) ∧ W_.cell? ⟨ga, 5, none⟩ = some (.slice A5 a.f4.length c5) ∧ W_.cell? ⟨gb, 0, none⟩ = some (.int .i64 b.f0) ∧ W_.cell? ⟨gb, 1, none⟩ = some (.int .i64 b.f1.f0) ∧ W_.cell? ⟨gb, 2, none⟩ = some (.int .i64 b.f1.f1) ∧ W_.cell? ⟨gb, 3, none⟩ = some (.string b.f2) ∧ W_.cell? ⟨gb, 4, none⟩ = some (.slice B4 b.f3.length b4) ∧ W_.cell? ⟨gb, 5, none⟩ = some (.slice B5 b.f4.length b5)) → (W'.cell? ⟨ga, 0, none⟩ = some (.int .i64 a.f0) ∧ W'.cell? ⟨ga, 1, none⟩ = some (.int .i64 a.f1.f0) ∧ W'.cell? ⟨ga, 2, none⟩ = some (.int .i64 a.f1.f1) ∧ W'.cell? ⟨ga, 3, none⟩ = some (.string a.f2) ∧ W'.cell? ⟨ga, 4, none⟩ = some (.slice A4 a.f3.length c4) ∧ W'.cell? ⟨ga, 5, none⟩ = some (.slice A5 a.f4.length c5) ∧ W'.cell? ⟨gb, 0, none⟩ = some (.int .i64 b.f0) ∧ W'.cell? ⟨gb, 1, none⟩ = some (.int .i64 b.f1.f0) ∧ W'.cell? ⟨gb, 2, none⟩ = some (.int .i64 b.f1.f1) ∧ W'.cell? ⟨gb, 3, none⟩ = some (.string b.f2) ∧ W'.cell? ⟨gb, 4, none⟩ = some (.slice B4 b.f3.length b4) ∧ W'.cell? ⟨gb, 5, none⟩ = some (.slice B5 b.f4.length b5)) := fun W_ W' hb ⟨t0, t1, t2, t3, t4, t5, t6, t7, t8, t9, t10, t11⟩ => ⟨(hb.cell (World.block_lt_of_cell? _ _ t0)).trans t0, (hb.cell (World.block_lt_of_cell? _ _ t1)).trans t1, (hb.cell (World.block_lt_of_cell? _ _ t2)).trans t2, (hb.cell (World.block_lt_of_cell? _ _ t3)).trans t3, (hb.cell (World.block_lt_of_cell? _ _ t4)).trans t4, (hb.cell (World.block_lt_of_cell? _ _ t5)).trans t5, (hb.cell (World.block_lt_of_cell? _ _ t6)).trans t6, (hb.cell (World.block_lt_of_cell? _ _ t7)).trans t7, (hb.cell (World.block_lt_of_cell? _ _ t8)).trans t8, (hb.cell (World.block_lt_of_cell? _ _ t9)).trans t9, (hb.cell (World.block_lt_of_cell? _ _ t10)).trans t10, (hb.cell (World.block_lt_of_cell? _ _ t11)).trans t11⟩
 refine start_ (n := 13) (S := fun w' => w'.cell? ⟨ga, 0, none⟩ = some (.int .i64 a.f0) ∧ w'.cell? ⟨ga, 1, none⟩ = some (.int .i64 a.f1.f0) ∧ w'.cell? ⟨ga, 2, none⟩ = some (.int .i64 a.f1.f1) ∧ w'.cell? ⟨ga, 3, none⟩ = some (.string a.f2) ∧ w'.cell? ⟨ga, 4, none⟩ = some (.slice A4 a.f3.length c4) ∧ w'.cell? ⟨ga, 5, none⟩ = some (.slice A5 a.f4.length c5) ∧ w'.cell? ⟨gb, 0, none⟩ = some (.int .i64 b.f0) ∧ w'.cell? ⟨gb, 1, none⟩ = some (.int .i64 b.f1.f0) ∧ w'.cell? ⟨gb, 2, none⟩ = some (.int .i64 b.f1.f1) ∧ w'.cell? ⟨gb, 3, none⟩ = some (.string b.f2) ∧ w'.cell? ⟨gb, 4, none⟩ = some (.slice B4 b.f3.length b4) ∧ w'.cell? ⟨gb, 5, none⟩ = some (.slice B5 b.f4.length b5)) (ds := [11]) #[false, false, false, false, false, false, false, false, false, false, false, false, false] (by kernel_rfl) rfl rfl (⟨p0, p1, p2, p3, p4, p5, q0, q1, q2, q3, q4, q5⟩) (fun hHeld => ?_)
 replace L := Aside0.mk (below_drew1 L.out)
 replace BA := Aside0.mk (show wt.drew.heap[ga]? = _ from BA.out)
 replace BB := Aside0.mk (show wt.drew.heap[gb]? = _ from BB.out)
 obtain ⟨W0, hW0⟩ : ∃ q, q = wt.drew := ⟨_, rfl⟩
 rw [← hW0] at L BA BB
 have L0 : Aside0 (Below W0.heap.size W0 wt.drew) := ⟨by rw [hW0]; exact Below.refl _ _⟩
 clear hW0 p0 p1 p2 p3 p4 p5 q0 q1 q2 q3 q4 q5
 generalize wt.drew = wa at *
 refine pure_ (i := 2) (N := some 38) (v := ?_) (a' := ?_) #[false, false, true, false, false, false, false, false, false, false, false, false, false] rfl rfl (by kernel_rfl) (fun _ _ _ h => h) (Or.inl ⟨by rfl, ?_⟩) ?_ ?_
 rotate_left
 ·intro w'
  go_simp; with_reducible rfl
 rotate_left
 ·simp only [Act.put, List.setIfInBounds_toArray, List.set_cons_zero, List.set_cons_succ, i64_w, i32_w]; rfl
 refine take_ (i := 0) (N := some 36) (v := ?_) (a' := ?_) #[true, false, true, false, false, false, false, false, false, false, false, false, false] rfl rfl (by kernel_rfl) (fun _ _ _ h => h) (Or.inl ⟨by rfl, ?_⟩) hHeld ?_ ?_
 rotate_left
 ·intro w' s0
  obtain ⟨t0, t1, t2, t3, t4, t5, t6, t7, t8, t9, t10, t11⟩ := s0
  go_simp; with_reducible rfl
 rotate_left
 ·simp only [Act.put, List.setIfInBounds_toArray, List.set_cons_zero, List.set_cons_succ, i64_w, i32_w]; rfl
 refine take_ (i := 4) (N := some 40) (v := ?_) (a' := ?_) #[true, false, true, false, true, false, false, false, false, false, false, false, false] rfl rfl (by kernel_rfl) (fun _ _ _ h => h) (Or.inl ⟨by rfl, ?_⟩) hHeld ?_ ?_
 rotate_left
 ·intro w' s0
  obtain ⟨t0, t1, t2, t3, t4, t5, t6, t7, t8, t9, t10, t11⟩ := s0
  go_simp; with_reducible rfl
 rotate_left
 ·simp only [Act.put, List.setIfInBounds_toArray, List.set_cons_zero, List.set_cons_succ, i64_w, i32_w]; rfl
 refine join_ (σ := Value × Value × Value × Value × Value × Nat) 2 #[true, true, true, true, true, true, true, true, true, true, true, false, false] (fun s => [(37, s.1), (39, s.2.1), (41, s.2.2.1), (42, .tuple #[.agg #[.int .i64 z.f0, .int .i64 z.f1.f0, .int .i64 z.f1.f1, .string z.f2, s.2.2.2.1, s.2.2.2.2.1], .bool res.isSome]), (35, .tuple #[.agg #[.int .i64 z.f0, .int .i64 z.f1.f0, .int .i64 z.f1.f1, .string z.f2, s.2.2.2.1, s.2.2.2.2.1], .bool res.isSome]), (43, .agg #[.int .i64 z.f0, .int .i64 z.f1.f0, .int .i64 z.f1.f1, .string z.f2, s.2.2.2.1, s.2.2.2.2.1]), (44, .bool res.isSome), (8, .pointer (some ⟨s.2.2.2.2.2, 0, none⟩))]) (fun s w' => Kd.R k28 28 w' W0.heap.size (fun q => q ≠ s.2.2.2.2.2) s.2.2.2.1 z.f3 ∧ Kd.R Kd.string 9 w' W0.heap.size (fun q => q ≠ s.2.2.2.2.2) s.2.2.2.2.1 z.f4 ∧ w'.heap[s.2.2.2.2.2]? = some (.cells #[.int .i64 0, .int .i64 0, .int .i64 0, .string (⟨#[]⟩ : ByteArray), .slice none 0 0, .slice none 0 0] 28 (0, 0)) ∧ W0.heap.size ≤ s.2.2.2.2.2 ∧ Below W0.heap.size W0 w') ?_ ?_
 rotate_left
 ·intro hCont
  repeat' (first
   | ((with_reducible refine gateL_ #[true, false, true, false, true, false, false, false, false, false, false, false, false] ?_); refine two_ (i := 1) (j := 10) (Ni := some 37) (Nj := some 8) #[true, true, true, false, true, false, false, false, false, false, false, false, false] #[true, false, true, false, true, false, false, false, false, false, true, false, false] rfl rfl rfl rfl (by kernel_rfl) (by decide) (by decide) (fun K hK => ?_) (fun K hK => ?_))
   | ((with_reducible refine gateL_ #[true, true, true, false, true, false, false, false, false, false, false, false, false] ?_); refine two_ (i := 3) (j := 10) (Ni := some 39) (Nj := some 8) #[true, true, true, true, true, false, false, false, false, false, false, false, false] #[true, true, true, false, true, false, false, false, false, false, true, false, false] rfl rfl rfl rfl (by kernel_rfl) (by decide) (by decide) (fun K hK => ?_) (fun K hK => ?_))
   | ((with_reducible refine gateL_ #[true, false, true, false, true, false, false, false, false, false, true, false, false] ?_); refine one_ (i := 1) (N := some 37) #[true, true, true, false, true, false, false, false, false, false, true, false, false] rfl rfl (by kernel_rfl) (by decide) (fun K hK => ?_))
   | ((with_reducible refine gateL_ #[true, true, true, true, true, false, false, false, false, false, false, false, false] ?_); refine two_ (i := 5) (j := 10) (Ni := some 41) (Nj := some 8) #[true, true, true, true, true, true, false, false, false, false, false, false, false] #[true, true, true, true, true, false, false, false, false, false, true, false, false] rfl rfl rfl rfl (by kernel_rfl) (by decide) (by decide) (fun K hK => ?_) (fun K hK => ?_))
   | ((with_reducible refine gateL_ #[true, true, true, false, true, false, false, false, false, false, true, false, false] ?_); refine one_ (i := 3) (N := some 39) #[true, true, true, true, true, false, false, false, false, false, true, false, false] rfl rfl (by kernel_rfl) (by decide) (fun K hK => ?_))
   | ((with_reducible refine gateL_ #[true, true, true, true, true, true, false, false, false, false, false, false, false] ?_); refine two_ (i := 6) (j := 10) (Ni := some 42) (Nj := some 8) #[true, true, true, true, true, true, true, false, false, false, false, false, false] #[true, true, true, true, true, true, false, false, false, false, true, false, false] rfl rfl rfl rfl (by kernel_rfl) (by decide) (by decide) (fun K hK => ?_) (fun K hK => ?_))
   | ((with_reducible refine gateL_ #[true, true, true, true, true, false, false, false, false, false, true, false, false] ?_); refine one_ (i := 5) (N := some 41) #[true, true, true, true, true, true, false, false, false, false, true, false, false] rfl rfl (by kernel_rfl) (by decide) (fun K hK => ?_))
   | ((with_reducible refine gateL_ #[true, true, true, true, true, true, false, false, false, false, true, false, false] ?_); refine one_ (i := 6) (N := some 42) #[true, true, true, true, true, true, true, false, false, false, true, false, false] rfl rfl (by kernel_rfl) (by decide) (fun K hK => ?_))
   | ((with_reducible refine gateL_ #[true, true, true, true, true, true, true, true, true, true, false, false, false] ?_); refine one_ (i := 10) (N := some 8) #[true, true, true, true, true, true, true, true, true, true, true, false, false] rfl rfl (by kernel_rfl) (by decide) (fun K hK => ?_))
   | (
  (with_reducible refine gateL_ #[true, true, true, true, true, true, true, false, false, false, false, false, false] ?_); refine pure_ (i := 7) (N := some 35) (v := ?_) (a' := ?_) #[true, true, true, true, true, true, true, true, false, false, false, false, false] rfl rfl (by kernel_rfl) (fun _ _ _ h => h) (Or.inl ⟨by rfl, ?_⟩) ?_ ?_
  rotate_left
  · intro w'
    go_simp; with_reducible rfl
  rotate_left
  · simp only [Act.put, List.setIfInBounds_toArray, List.set_cons_zero, List.set_cons_succ, i64_w, i32_w]; rfl)
   | (
  (with_reducible refine gateL_ #[true, true, true, true, true, true, true, true, false, false, false, false, false] ?_); refine pure_ (i := 8) (N := some 43) (v := ?_) (a' := ?_) #[true, true, true, true, true, true, true, true, true, false, false, false, false] rfl rfl (by kernel_rfl) (fun _ _ _ h => h) (Or.inl ⟨by rfl, ?_⟩) ?_ ?_
  rotate_left
  · intro w'
    go_simp; with_reducible rfl
  rotate_left
  · simp only [Act.put, List.setIfInBounds_toArray, List.set_cons_zero, List.set_cons_succ, i64_w, i32_w]; rfl)
   | (
  (with_reducible refine gateL_ #[true, true, true, true, true, true, true, false, false, false, true, false, false] ?_); refine pure_ (i := 7) (N := some 35) (v := ?_) (a' := ?_) #[true, true, true, true, true, true, true, true, false, false, true, false, false] rfl rfl (by kernel_rfl) (fun _ _ _ h => h) (Or.inl ⟨by rfl, ?_⟩) ?_ ?_
  rotate_left
  · intro w'
    go_simp; with_reducible rfl
  rotate_left
  · simp only [Act.put, List.setIfInBounds_toArray, List.set_cons_zero, List.set_cons_succ, i64_w, i32_w]; rfl)
   | (
  (with_reducible refine gateL_ #[true, true, true, true, true, true, true, true, true, false, false, false, false] ?_); refine pure_ (i := 9) (N := some 44) (v := ?_) (a' := ?_) #[true, true, true, true, true, true, true, true, true, true, false, false, false] rfl rfl (by kernel_rfl) (fun _ _ _ h => h) (Or.inl ⟨by rfl, ?_⟩) ?_ ?_
  rotate_left
  · intro w'
    go_simp; with_reducible rfl
  rotate_left
  · simp only [Act.put, List.setIfInBounds_toArray, List.set_cons_zero, List.set_cons_succ, i64_w, i32_w]; rfl)
   | (
  (with_reducible refine gateL_ #[true, true, true, true, true, true, true, true, false, false, true, false, false] ?_); refine pure_ (i := 8) (N := some 43) (v := ?_) (a' := ?_) #[true, true, true, true, true, true, true, true, true, false, true, false, false] rfl rfl (by kernel_rfl) (fun _ _ _ h => h) (Or.inl ⟨by rfl, ?_⟩) ?_ ?_
  rotate_left
  · intro w'
    go_simp; with_reducible rfl
  rotate_left
  · simp only [Act.put, List.setIfInBounds_toArray, List.set_cons_zero, List.set_cons_succ, i64_w, i32_w]; rfl)
   | (
  (with_reducible refine gateL_ #[true, true, true, true, true, true, true, true, true, false, true, false, false] ?_); refine pure_ (i := 9) (N := some 44) (v := ?_) (a' := ?_) #[true, true, true, true, true, true, true, true, true, true, true, false, false] rfl rfl (by kernel_rfl) (fun _ _ _ h => h) (Or.inl ⟨by rfl, ?_⟩) ?_ ?_
  rotate_left
  · intro w'
    go_simp; with_reducible rfl
  rotate_left
  · simp only [Act.put, List.setIfInBounds_toArray, List.set_cons_zero, List.set_cons_succ, i64_w, i32_w]; rfl)
   | ((with_reducible refine gateL_ #[true, true, true, true, true, true, true, true, true, true, true, false, false] ?_); exact norm_ (by simp only [putAll, Act.put, List.setIfInBounds_toArray, List.set_cons_zero, List.set_cons_succ]) (hCont (.agg #[.int .i64 v.f0, .int .i64 v.f1.f0, .int .i64 v.f1.f1, .string v.f2, .slice E0 v.f3.length e0, .slice E0' v.f4.length e0'], .slice Q0 path.length q0_, .agg #[.int .i64 u.f0, .int .i64 u.f1.f0, .int .i64 u.f1.f1, .string u.f2, .slice X0 u.f3.length x0, .slice X0' u.f4.length x0'], u4, u5, g_) _ ⟨Q4.out, Q5.out, BG.out, GW.out, L0.out⟩))
   | (
  (with_reducible refine gateI_ (some 37) ?_)
  refine goes_ Tryd.func24 (by kernel_rfl) rfl #[.agg #[.int .i64 a.f0, .int .i64 a.f1.f0, .int .i64 a.f1.f1, .string a.f2, .slice A4 a.f3.length c4, .slice A5 a.f4.length c5]] (by rfl) rfl rfl qGLawWs0_ ?_
  with_reducible refine (toValue_v d a wa A4 c4 A5 c5 (Kd.C_below H4.out (below_step L.out L0.out)) l4 (Kd.C_below H5.out (below_step L.out L0.out)) l5 HF.out.1 HF.out.2 v HVE.out).mono ?_
  rintro e' wa ⟨E0, e0, E0', e0', k0, k0', rfl, tt, -, hb⟩
  refine ⟨_, rfl, hK.out _ _ (hSt _ _ hb hHeld) (fun hHeld => ?_)⟩
  clear hK K
  refine norm_ (a' := ?_) ?_ ?_
  rotate_left
  · show Act.put _ (some 37) _ = _
    simp only [Act.put, List.setIfInBounds_toArray, List.set_cons_zero, List.set_cons_succ, i64_w, i32_w]; rfl
  have T0 := Aside0.mk tt
  clear tt
  replace L0 := Aside0.mk (below_step L0.out hb)
  (try replace BG := Aside0.mk (blk_keep BG.out hb (blk_lt BG.out)))
  clear hb)
   | (
  (with_reducible refine gateI_ (some 39) ?_)
  refine goes_ Tryd.func30 (by kernel_rfl) rfl #[.slice AP path.length cP] (by rfl) rfl rfl qGLawWs0_ ?_
  with_reducible refine (toStringS_calls wa AP cP path (Kd.C_below HP.out (below_step L.out L0.out)) lp HPL.out).mono ?_
  rintro e' wa ⟨Q0, q0_, m0, rfl, lq0, nn, -, -, hb⟩
  refine ⟨_, rfl, hK.out _ _ (hSt _ _ hb hHeld) (fun hHeld => ?_)⟩
  clear hK K
  refine norm_ (a' := ?_) ?_ ?_
  rotate_left
  · show Act.put _ (some 39) _ = _
    simp only [Act.put, List.setIfInBounds_toArray, List.set_cons_zero, List.set_cons_succ, i64_w, i32_w]; rfl
  replace T0 := Aside0.mk (T0.out.below hb)
  have R0 := Aside0.mk nn
  clear nn
  replace L0 := Aside0.mk (below_step L0.out hb)
  (try replace BG := Aside0.mk (blk_keep BG.out hb (blk_lt BG.out)))
  clear hb)
   | (
  (with_reducible refine gateI_ (some 41) ?_)
  refine goes_ Tryd.func24 (by kernel_rfl) rfl #[.agg #[.int .i64 b.f0, .int .i64 b.f1.f0, .int .i64 b.f1.f1, .string b.f2, .slice B4 b.f3.length b4, .slice B5 b.f4.length b5]] (by rfl) rfl rfl qGLawWs0_ ?_
  with_reducible refine (toValue_v d b wa B4 b4 B5 b5 (Kd.C_below H6.out (below_step L.out L0.out)) l6 (Kd.C_below H7.out (below_step L.out L0.out)) l7 HFB.out.1 HFB.out.2 u HUE.out).mono ?_
  rintro e' wa ⟨X0, x0, X0', x0', j0_, j0_', rfl, tt, -, hb⟩
  refine ⟨_, rfl, hK.out _ _ (hSt _ _ hb hHeld) (fun hHeld => ?_)⟩
  clear hK K
  refine norm_ (a' := ?_) ?_ ?_
  rotate_left
  · show Act.put _ (some 41) _ = _
    simp only [Act.put, List.setIfInBounds_toArray, List.set_cons_zero, List.set_cons_succ, i64_w, i32_w]; rfl
  replace T0 := Aside0.mk (T0.out.below hb)
  replace R0 := Aside0.mk (NRow.same R0.out (Same.below (NRow.lt R0.out) hb))
  have TX0 := Aside0.mk tt
  clear tt
  replace L0 := Aside0.mk (below_step L0.out hb)
  (try replace BG := Aside0.mk (blk_keep BG.out hb (blk_lt BG.out)))
  clear hb)
   | (
  (with_reducible refine gateI_ (some 42) ?_)
  refine goes_ Tryd.func20 (by kernel_rfl) rfl #[.agg #[.int .i64 v.f0, .int .i64 v.f1.f0, .int .i64 v.f1.f1, .string v.f2, .slice E0 v.f3.length e0, .slice E0' v.f4.length e0'], .slice Q0 path.length q0_, .agg #[.int .i64 u.f0, .int .i64 u.f1.f0, .int .i64 u.f1.f1, .string u.f2, .slice X0 u.f3.length x0, .slice X0' u.f4.length x0']] (by rfl) rfl rfl qGLawWs0_ ?_
  with_reducible refine (HS wa E0 e0 E0' e0' Q0 q0_ X0 x0 X0' x0' (T0.out.c4 HV.out) T0.out.l4 (T0.out.c5 HV.out) T0.out.l5 (R0.out.reads (Nat.le_trans HPL.out (by decide))) lq0 (TX0.out.c4 HU.out) TX0.out.l4 (TX0.out.c5 HU.out) TX0.out.l5).mono ?_
  rintro e' wa ⟨z_, u4, u5, hz_, rfl, R4, R5, hb⟩
  obtain rfl : z = z_ := HZE.out.trans hz_.symm
  clear hz_
  refine ⟨_, rfl, hK.out _ _ (hSt _ _ hb hHeld) (fun hHeld => ?_)⟩
  clear hK K
  refine norm_ (a' := ?_) ?_ ?_
  rotate_left
  · show Act.put _ (some 42) _ = _
    simp only [Act.put, List.setIfInBounds_toArray, List.set_cons_zero, List.set_cons_succ, i64_w, i32_w]; rfl
  first | (have Q4 := Aside0.mk (Kd.R_lower (Kd.R_mono (Kd.R_bound R4) (ok' := fun q => q ≠ g_) (fun q hq => by have := hq.2.1; have := blk_lt BG.out; omega)) L0.out.size); have Q5 := Aside0.mk (Kd.R_lower (Kd.R_mono (Kd.R_bound R5) (ok' := fun q => q ≠ g_) (fun q hq => by have := hq.2.1; have := blk_lt BG.out; omega)) L0.out.size)) | (have Q4 := Aside0.mk (Kd.R_lower R4 L0.out.size); have Q5 := Aside0.mk (Kd.R_lower R5 L0.out.size))
  replace L0 := Aside0.mk (below_step L0.out hb)
  clear R4 R5
  (try replace BG := Aside0.mk (blk_keep BG.out hb (blk_lt BG.out)))
  clear hb)
   | (
  (with_reducible refine gateI_ (some 8) ?_)
  refine value_ (w1 := ?_) (v := ?_) (by rfl) rfl ?_ ?_
  rotate_left 2
  · go_simp
    constructor
    · rfl
    · rfl
  refine hK.out _ _ (hSt _ _ (below_alloc (Below.refl _ _) _) hHeld) (fun hHeld => ?_)
  clear hK K
  refine norm_ (a' := ?_) ?_ ?_
  rotate_left
  · show Act.put _ (some 8) _ = _
    simp only [Act.put, List.setIfInBounds_toArray, List.set_cons_zero, List.set_cons_succ, i64_w, i32_w]; rfl
  have BG := heap_alloc_new wa (.cells #[.int .i64 0, .int .i64 0, .int .i64 0, .string (⟨#[]⟩ : ByteArray), .slice none 0 0, .slice none 0 0] 28)
  have hb := below_alloc (Below.refl wa.heap.size wa) (.cells #[.int .i64 0, .int .i64 0, .int .i64 0, .string (⟨#[]⟩ : ByteArray), .slice none 0 0, .slice none 0 0] 28)
  obtain ⟨g_, hg⟩ : ∃ g, g = wa.heap.size := ⟨_, rfl⟩
  rw [← hg] at BG ⊢
  have hgl : g_ < (wa.alloc (.cells #[.int .i64 0, .int .i64 0, .int .i64 0, .string (⟨#[]⟩ : ByteArray), .slice none 0 0, .slice none 0 0] 28)).heap.size := blk_lt BG
  generalize wa.alloc (.cells #[.int .i64 0, .int .i64 0, .int .i64 0, .string (⟨#[]⟩ : ByteArray), .slice none 0 0, .slice none 0 0] 28) = wa at *
  replace BG := Aside0.mk BG
  (try replace T0 := Aside0.mk (T0.out.below hb))
  (try replace R0 := Aside0.mk (NRow.same R0.out (Same.below (NRow.lt R0.out) hb)))
  (try replace TX0 := Aside0.mk (TX0.out.below hb))
  (try replace Q4 := Aside0.mk (Kd.R_below (Kd.R_mono (Kd.R_bound Q4.out) (ok' := fun q => q ≠ g_) (fun q hq => by have := hq.2.2.1; omega)) hb))
  (try replace Q5 := Aside0.mk (Kd.R_below (Kd.R_mono (Kd.R_bound Q5.out) (ok' := fun q => q ≠ g_) (fun q hq => by have := hq.2.2.1; omega)) hb))
  have GW := Aside0.mk (show W0.heap.size ≤ g_ by have := L0.out.size; omega)
  replace L0 := Aside0.mk (below_step L0.out hb)
  clear hb))
 rintro ⟨t37, t39, t41, u4, u5, g8⟩ w12 ⟨Q4_, Q5_, B8_, G8_, hb⟩
 replace Q4_ : Kd.R k28 28 w12 W0.heap.size (fun q => q ≠ g8) u4 z.f3 := Q4_
 replace Q5_ : Kd.R Kd.string 9 w12 W0.heap.size (fun q => q ≠ g8) u5 z.f4 := Q5_
 replace B8_ : w12.heap[g8]? = some (.cells #[.int .i64 0, .int .i64 0, .int .i64 0, .string (⟨#[]⟩ : ByteArray), .slice none 0 0, .slice none 0 0] 28 (0, 0)) := B8_
 replace G8_ : W0.heap.size ≤ g8 := G8_
 have Q4 := Aside0.mk Q4_
 have Q5 := Aside0.mk Q5_
 have B8 := Aside0.mk B8_
 have NUM := Aside0.mk (⟨by have := blk_lt BA.out; omega, (by have := blk_lt BB.out; omega), (by have := L.out.size; omega)⟩ : ga < g8 ∧ gb < g8 ∧ w.heap.size ≤ g8)
 obtain ⟨O4, o4, rfl⟩ := Kd.R_slice Q4_
 obtain ⟨O5, o5, rfl⟩ := Kd.R_slice Q5_
 replace BA := Aside0.mk (blk_keep BA.out hb (blk_lt BA.out))
 replace L := Aside0.mk (below_step L.out hb)
 replace BB := Aside0.mk (blk_keep BB.out hb (blk_lt BB.out))
 clear Q4_ Q5_ B8_ G8_ hb hSt
 refine norm_ (a' := ?_) ?_ ?_
 rotate_left
 ·simp only [putAll, Act.put, List.setIfInBounds_toArray, List.set_cons_zero, List.set_cons_succ]
  rfl
 obtain ⟨e0, e1, e2, e3, e4, e5, ze0, ze1, ze2, ze3, ze4, ze5⟩ := six_cells B8.out
 refine last_ (i := 11) (N := none) #[true, true, true, true, true, true, true, true, true, true, true, true, false] rfl rfl (by kernel_rfl) (by decide) (fun K hK => ?_)
 refine skip_ (w1 := ?_) (by rfl) rfl ?_ ?_
 rotate_left
 ·go_simp
  rfl
 refine hK.out _ _ ?_
 clear hK K
 refine pure_ (i := 12) (N := some 9) (v := ?_) (a' := ?_) #[true, true, true, true, true, true, true, true, true, true, true, true, true] rfl rfl (by kernel_rfl) (fun _ _ _ h => h) (Or.inl ⟨by rfl, ?_⟩) ?_ ?_
 rotate_left
 ·intro w'
  go_simp; with_reducible rfl
 rotate_left
 ·simp only [Act.put, List.setIfInBounds_toArray, List.set_cons_zero, List.set_cons_succ, i64_w, i32_w]; rfl
 refine done_ (by kernel_rfl) ?_
 have q4 := Kd.R_step Q4.out (w1 := (((((w12.setCell ⟨g8, 0, none⟩ (.int .i64 z.f0)).setCell ⟨g8, 1, none⟩ (.int .i64 z.f1.f0)).setCell ⟨g8, 2, none⟩ (.int .i64 z.f1.f1)).setCell ⟨g8, 3, none⟩ (.string z.f2)).setCell ⟨g8, 4, none⟩ (.slice O4 z.f3.length o4)).setCell ⟨g8, 5, none⟩ (.slice O5 z.f4.length o5)) (fun q hq _ => six_same q hq)
 have q5 := Kd.R_step Q5.out (w1 := (((((w12.setCell ⟨g8, 0, none⟩ (.int .i64 z.f0)).setCell ⟨g8, 1, none⟩ (.int .i64 z.f1.f0)).setCell ⟨g8, 2, none⟩ (.int .i64 z.f1.f1)).setCell ⟨g8, 3, none⟩ (.string z.f2)).setCell ⟨g8, 4, none⟩ (.slice O4 z.f3.length o4)).setCell ⟨g8, 5, none⟩ (.slice O5 z.f4.length o5)) (fun q hq _ => six_same q hq)
 have b8 := six_put (v0 := .int .i64 z.f0) (v1 := .int .i64 z.f1.f0) (v2 := .int .i64 z.f1.f1) (v3 := .string z.f2) (v4 := .slice O4 z.f3.length o4) (v5 := .slice O5 z.f4.length o5) B8.out
 have l8 := six_below (v0 := .int .i64 z.f0) (v1 := .int .i64 z.f1.f0) (v2 := .int .i64 z.f1.f1) (v3 := .string z.f2) (v4 := .slice O4 z.f3.length o4) (v5 := .slice O5 z.f4.length o5) L.out NUM.out.2.2
 have ba : ((((((w12.setCell ⟨g8, 0, none⟩ (.int .i64 z.f0)).setCell ⟨g8, 1, none⟩ (.int .i64 z.f1.f0)).setCell ⟨g8, 2, none⟩ (.int .i64 z.f1.f1)).setCell ⟨g8, 3, none⟩ (.string z.f2)).setCell ⟨g8, 4, none⟩ (.slice O4 z.f3.length o4)).setCell ⟨g8, 5, none⟩ (.slice O5 z.f4.length o5)).heap[ga]? = _ := (six_same ga (Nat.ne_of_lt NUM.out.1)).trans BA.out
 have bb : ((((((w12.setCell ⟨g8, 0, none⟩ (.int .i64 z.f0)).setCell ⟨g8, 1, none⟩ (.int .i64 z.f1.f0)).setCell ⟨g8, 2, none⟩ (.int .i64 z.f1.f1)).setCell ⟨g8, 3, none⟩ (.string z.f2)).setCell ⟨g8, 4, none⟩ (.slice O4 z.f3.length o4)).setCell ⟨g8, 5, none⟩ (.slice O5 z.f4.length o5)).heap[gb]? = _ := (six_same gb (Nat.ne_of_lt NUM.out.2.1)).trans BB.out
 clear e0 e1 e2 e3 e4 e5 ze0 ze1 ze2 ze3 ze4 ze5 hHeld
 generalize (((((w12.setCell ⟨g8, 0, none⟩ (.int .i64 z.f0)).setCell ⟨g8, 1, none⟩ (.int .i64 z.f1.f0)).setCell ⟨g8, 2, none⟩ (.int .i64 z.f1.f1)).setCell ⟨g8, 3, none⟩ (.string z.f2)).setCell ⟨g8, 4, none⟩ (.slice O4 z.f3.length o4)).setCell ⟨g8, 5, none⟩ (.slice O5 z.f4.length o5) = w13 at *
 obtain ⟨hi, hhi⟩ : ∃ n, n = w13.heap.size := ⟨_, rfl⟩
 have HI_ := Aside0.mk (Nat.le_of_eq hhi)
 have RA : Aside0 (ReadAt w13 z O4 o4 O5 o5 hi) := ⟨⟨(Kd.R_reads' q4).2.1, (Kd.R_reads' q5).2.1, Kd.R_lower (Kd.R_mono (Kd.R_bound q4) (fun k hk => by have := hk.2.2.1; omega)) (Nat.zero_le _), Kd.R_lower (Kd.R_mono (Kd.R_bound q5) (fun k hk => by have := hk.2.2.1; omega)) (Nat.zero_le _)⟩⟩
 replace NUM := Aside0.mk (⟨by have := NUM.out; have := blk_lt b8; omega, (by have := NUM.out; have := blk_lt b8; omega), (by have := blk_lt b8; omega), (by have := NUM.out; have := blk_lt b8; omega)⟩ : ga < hi ∧ gb < hi ∧ g8 < hi ∧ w.heap.size ≤ hi)
 have HH := Aside0.mk hhi
 clear hhi
 replace B8 := Aside0.mk b8; replace L := Aside0.mk l8; replace BA := Aside0.mk ba; replace BB := Aside0.mk bb
 clear b8 l8 ba bb q4 q5 Q4 Q5
 replace mk_ := Mk.mk (n := 3)
 obtain ⟨p0, p1, p2, p3, p4, p5, -⟩ := six_cells BA.out
 go_wp2_with (first
  | (
  go_at_call 24
  have _st : Mk 3 := mk_
  refine (toValue_v d a _ A4 c4 A5 c5 (Kd.C_below H4.out L.out) l4 (Kd.C_below H5.out L.out) l5 HF.out.1 HF.out.2 v HVE.out).mono ?_
  rintro e' wt ⟨E1, e1, E1', e1', k1, k1', rfl, tt, hF, hb⟩
  replace BA := Aside0.mk (blk_keep BA.out hb (blk_lt BA.out))
  replace L := Aside0.mk (below_step L.out hb)
  replace BB := Aside0.mk (blk_keep BB.out hb (blk_lt BB.out))
  replace B8 := Aside0.mk (blk_keep B8.out hb (blk_lt B8.out))
  replace RA := Aside0.mk (RA.out.below hb)
  replace HI_ := Aside0.mk (Nat.le_trans HI_.out hb.size)
  have T1 := Aside0.mk tt
  have TR1 := Aside0.mk (show ∀ q ∈ k1 ++ k1', hi ≤ q from fun q hq => by have := hF q hq; have := HH.out; omega)
  clear p0 p1 p2 p3 p4 p5
  clear hb tt hF
  replace mk_ := Mk.mk (n := 4))
  | (
  (with_reducible refine gate_dst (N := 10) rfl ?_); refine box_event ?hg (N := 10) ?hd (cs := #[.int .i64 0, .int .i64 0, .int .i64 0, .string (⟨#[]⟩ : ByteArray), .slice none 0 0, .slice none 0 0]) (t := 28) ?hr ?_; (case hd => rfl); (case hg => rfl); (case hr => exact qGLawWs2_)
  intro g10 hg wk hbox hb
  have B10 := Aside0.mk hbox
  replace TR1 := Aside0.mk (show ∀ q ∈ k1 ++ k1', hi ≤ q ∧ q < g10 from fun q hq => by have := TR1.out q hq; have := TreeAt.lt T1.out q hq; omega)
  have N10 := Aside0.mk (show hi ≤ g10 by have := HI_.out; omega)
  have g10w := Aside0.mk (show w.heap.size ≤ g10 by have := L.out.size; omega)
  replace BA := Aside0.mk (blk_keep BA.out hb (blk_lt BA.out))
  replace L := Aside0.mk (below_step L.out hb)
  replace BB := Aside0.mk (blk_keep BB.out hb (blk_lt BB.out))
  replace B8 := Aside0.mk (blk_keep B8.out hb (blk_lt B8.out))
  replace RA := Aside0.mk (RA.out.below hb)
  replace T1 := Aside0.mk (T1.out.below hb)
  replace HI_ := Aside0.mk (Nat.le_trans HI_.out hb.size)
  clear hg hbox hb
  obtain ⟨r0, r1, r2, r3, r4, r5, zr0, zr1, zr2, zr3, zr4, zr5⟩ := six_cells B10.out)
  | (
  go_at_call 30
  have _st : Mk 4 := mk_
  have hk := six_kept wk g10 (.int .i64 v.f0) (.int .i64 v.f1.f0) (.int .i64 v.f1.f1) (.string v.f2) (.slice E1 v.f3.length e1) (.slice E1' v.f4.length e1')
  have b_ := six_put (v0 := .int .i64 v.f0) (v1 := .int .i64 v.f1.f0) (v2 := .int .i64 v.f1.f1) (v3 := .string v.f2) (v4 := .slice E1 v.f3.length e1) (v5 := .slice E1' v.f4.length e1') B10.out
  have l_ := six_below (v0 := .int .i64 v.f0) (v1 := .int .i64 v.f1.f0) (v2 := .int .i64 v.f1.f1) (v3 := .string v.f2) (v4 := .slice E1 v.f3.length e1) (v5 := .slice E1' v.f4.length e1') L.out g10w.out
  clear r0 r1 r2 r3 r4 r5 zr0 zr1 zr2 zr3 zr4 zr5
  generalize (((((wk.setCell ⟨g10, 0, none⟩ (.int .i64 v.f0)).setCell ⟨g10, 1, none⟩ (.int .i64 v.f1.f0)).setCell ⟨g10, 2, none⟩ (.int .i64 v.f1.f1)).setCell ⟨g10, 3, none⟩ (.string v.f2)).setCell ⟨g10, 4, none⟩ (.slice E1 v.f3.length e1)).setCell ⟨g10, 5, none⟩ (.slice E1' v.f4.length e1') = w15 at *
  replace HI_ := Aside0.mk (Nat.le_trans HI_.out hk.1)
  replace BA := Aside0.mk (blk_kept BA.out hk (fun h => by have := NUM.out; have := N10.out; omega))
  replace BB := Aside0.mk (blk_kept BB.out hk (fun h => by have := NUM.out; have := N10.out; omega))
  replace B8 := Aside0.mk (blk_kept B8.out hk (fun h => by have := NUM.out; have := N10.out; omega))
  replace RA := Aside0.mk (RA.out.kept hk (fun q h => by have := NUM.out; have := N10.out; omega))
  replace T1 := Aside0.mk (T1.out.kept hk (fun q hq h => by have := NUM.out; have := N10.out; have := TR1.out q hq; omega))
  replace B10 := Aside0.mk b_
  replace L := Aside0.mk l_
  clear hk b_ l_
  have hlt_ := blk_lt B10.out
  refine (toStringS_calls _ AP cP path (Kd.C_below HP.out L.out) lp HPL.out).mono ?_
  rintro e' wt ⟨Q1, q1_, m1, rfl, lq1, nn, nd, hF, hb⟩
  replace BA := Aside0.mk (blk_keep BA.out hb (blk_lt BA.out))
  replace L := Aside0.mk (below_step L.out hb)
  replace BB := Aside0.mk (blk_keep BB.out hb (blk_lt BB.out))
  replace B8 := Aside0.mk (blk_keep B8.out hb (blk_lt B8.out))
  replace RA := Aside0.mk (RA.out.below hb)
  replace T1 := Aside0.mk (T1.out.below hb)
  replace B10 := Aside0.mk (blk_keep B10.out hb (blk_lt B10.out))
  replace HI_ := Aside0.mk (Nat.le_trans HI_.out hb.size)
  have R1 := Aside0.mk nn
  obtain ⟨j1, hj1⟩ : ∃ n, n = wt.heap.size := ⟨_, rfl⟩
  have RR1 := Aside0.mk (show ∀ q ∈ m1, g10 < q ∧ q < j1 from fun q hq => by have := hF q hq; have := NRow.lt nn q hq; omega)
  have N11 := Aside0.mk (show g10 < j1 by have := blk_lt B10.out; omega)
  have HJ1 := Aside0.mk hj1
  have HJ_ := Aside0.mk (Nat.le_of_eq hj1)
  clear hb nn nd hF hj1 hlt_
  obtain ⟨q0, q1, q2, q3, q4, q5, -⟩ := six_cells BB.out
  replace mk_ := Mk.mk (n := 5))
  | (
  go_at_call 24
  have _st : Mk 5 := mk_
  refine (toValue_v d b _ B4 b4 B5 b5 (Kd.C_below H6.out L.out) l6 (Kd.C_below H7.out L.out) l7 HFB.out.1 HFB.out.2 u HUE.out).mono ?_
  rintro e' wt ⟨X1, x1, X1', x1', kx, kx', rfl, tt, hF, hb⟩
  replace BA := Aside0.mk (blk_keep BA.out hb (blk_lt BA.out))
  replace L := Aside0.mk (below_step L.out hb)
  replace BB := Aside0.mk (blk_keep BB.out hb (blk_lt BB.out))
  replace B8 := Aside0.mk (blk_keep B8.out hb (blk_lt B8.out))
  replace RA := Aside0.mk (RA.out.below hb)
  replace T1 := Aside0.mk (T1.out.below hb)
  replace B10 := Aside0.mk (blk_keep B10.out hb (blk_lt B10.out))
  replace R1 := Aside0.mk qGLawWs1_
  replace HI_ := Aside0.mk (Nat.le_trans HI_.out hb.size)
  replace HJ_ := Aside0.mk (Nat.le_trans HJ_.out hb.size)
  have TX := Aside0.mk tt
  have TRX := Aside0.mk (show ∀ q ∈ kx ++ kx', j1 ≤ q from fun q hq => by have := hF q hq; have := HJ1.out; omega)
  clear q0 q1 q2 q3 q4 q5
  clear hb tt hF
  replace mk_ := Mk.mk (n := 6))
  | (
  (with_reducible refine gate_dst (N := 12) rfl ?_); refine box_event ?hg (N := 12) ?hd (cs := #[.int .i64 0, .int .i64 0, .int .i64 0, .string (⟨#[]⟩ : ByteArray), .slice none 0 0, .slice none 0 0]) (t := 28) ?hr ?_; (case hd => rfl); (case hg => rfl); (case hr => exact qGLawWs2_)
  intro g12 hg wk hbox hb
  have B12 := Aside0.mk hbox
  replace TRX := Aside0.mk (show ∀ q ∈ kx ++ kx', j1 ≤ q ∧ q < g12 from fun q hq => by have := TRX.out q hq; have := TreeAt.lt TX.out q hq; omega)
  have N12 := Aside0.mk (show j1 ≤ g12 by have := HJ_.out; omega)
  have g12w := Aside0.mk (show w.heap.size ≤ g12 by have := L.out.size; omega)
  replace BA := Aside0.mk (blk_keep BA.out hb (blk_lt BA.out))
  replace L := Aside0.mk (below_step L.out hb)
  replace BB := Aside0.mk (blk_keep BB.out hb (blk_lt BB.out))
  replace B8 := Aside0.mk (blk_keep B8.out hb (blk_lt B8.out))
  replace RA := Aside0.mk (RA.out.below hb)
  replace T1 := Aside0.mk (T1.out.below hb)
  replace B10 := Aside0.mk (blk_keep B10.out hb (blk_lt B10.out))
  replace R1 := Aside0.mk qGLawWs1_
  replace TX := Aside0.mk (TX.out.below hb)
  replace HI_ := Aside0.mk (Nat.le_trans HI_.out hb.size)
  replace HJ_ := Aside0.mk (Nat.le_trans HJ_.out hb.size)
  clear hg hbox hb
  obtain ⟨r0, r1, r2, r3, r4, r5, zr0, zr1, zr2, zr3, zr4, zr5⟩ := six_cells B12.out
  obtain ⟨s0, s1, s2, s3, s4, s5, -⟩ := six_cells B10.out
  have ne1012 : g10 ≠ g12 := by have := N11.out; have := N12.out; omega
  have ne1210 := ne1012.symm)
  | (
  go_at_call 19
  have _st : Mk 6 := mk_
  have hk := six_kept wk g12 (.int .i64 u.f0) (.int .i64 u.f1.f0) (.int .i64 u.f1.f1) (.string u.f2) (.slice X1 u.f3.length x1) (.slice X1' u.f4.length x1')
  have b_ := six_put (v0 := .int .i64 u.f0) (v1 := .int .i64 u.f1.f0) (v2 := .int .i64 u.f1.f1) (v3 := .string u.f2) (v4 := .slice X1 u.f3.length x1) (v5 := .slice X1' u.f4.length x1') B12.out
  have l_ := six_below (v0 := .int .i64 u.f0) (v1 := .int .i64 u.f1.f0) (v2 := .int .i64 u.f1.f1) (v3 := .string u.f2) (v4 := .slice X1 u.f3.length x1) (v5 := .slice X1' u.f4.length x1') L.out g12w.out
  clear r0 r1 r2 r3 r4 r5 zr0 zr1 zr2 zr3 zr4 zr5
  generalize (((((wk.setCell ⟨g12, 0, none⟩ (.int .i64 u.f0)).setCell ⟨g12, 1, none⟩ (.int .i64 u.f1.f0)).setCell ⟨g12, 2, none⟩ (.int .i64 u.f1.f1)).setCell ⟨g12, 3, none⟩ (.string u.f2)).setCell ⟨g12, 4, none⟩ (.slice X1 u.f3.length x1)).setCell ⟨g12, 5, none⟩ (.slice X1' u.f4.length x1') = w17 at *
  replace HI_ := Aside0.mk (Nat.le_trans HI_.out hk.1)
  replace HJ_ := Aside0.mk (Nat.le_trans HJ_.out hk.1)
  replace BA := Aside0.mk (blk_kept BA.out hk (fun h => by have := NUM.out; have := N10.out; have := N11.out; have := N12.out; omega))
  replace BB := Aside0.mk (blk_kept BB.out hk (fun h => by have := NUM.out; have := N10.out; have := N11.out; have := N12.out; omega))
  replace B8 := Aside0.mk (blk_kept B8.out hk (fun h => by have := NUM.out; have := N10.out; have := N11.out; have := N12.out; omega))
  replace RA := Aside0.mk (RA.out.kept hk (fun q h => by have := NUM.out; have := N10.out; have := N11.out; have := N12.out; omega))
  replace T1 := Aside0.mk (T1.out.kept hk (fun q hq h => by have := NUM.out; have := N10.out; have := N11.out; have := N12.out; have := TR1.out q hq; omega))
  replace B10 := Aside0.mk (blk_kept B10.out hk (fun h => by have := NUM.out; have := N10.out; have := N11.out; have := N12.out; omega))
  replace R1 := Aside0.mk (NRow.same R1.out (Same.kept (NRow.lt R1.out) hk (fun q hq h => by have := NUM.out; have := N10.out; have := N11.out; have := N12.out; have := RR1.out q hq; omega)))
  replace TX := Aside0.mk (TX.out.kept hk (fun q hq h => by have := NUM.out; have := N10.out; have := N11.out; have := N12.out; have := TRX.out q hq; omega))
  replace B12 := Aside0.mk b_
  replace L := Aside0.mk l_
  clear hk b_ l_
  have hlt_ := blk_lt B12.out
  refine (HI _ E1 e1 E1' e1' Q1 q1_ X1 x1 X1' x1' (T1.out.c4 HV.out) T1.out.l4 (T1.out.c5 HV.out) T1.out.l5 (R1.out.reads (Nat.le_trans HPL.out (by decide))) lq1 (TX.out.c4 HU.out) TX.out.l4 (TX.out.c5 HU.out) TX.out.l5 (LaidG.below (m := 15) (by decide) HG.out L.out)).mono ?_
  rintro e' wt ⟨z_, E2, e2, E2', e2', k2, k2', hz_, rfl, u4, u5, uV, uN, uD, hF, hb⟩
  obtain rfl : z = z_ := HZE.out.trans hz_.symm
  replace BA := Aside0.mk (blk_keep BA.out hb (blk_lt BA.out))
  replace L := Aside0.mk (below_step L.out hb)
  replace BB := Aside0.mk (blk_keep BB.out hb (blk_lt BB.out))
  replace B8 := Aside0.mk (blk_keep B8.out hb (blk_lt B8.out))
  replace RA := Aside0.mk (RA.out.below hb)
  replace T1 := Aside0.mk (T1.out.below hb)
  replace B10 := Aside0.mk (blk_keep B10.out hb (blk_lt B10.out))
  replace R1 := Aside0.mk qGLawWs1_
  replace TX := Aside0.mk (TX.out.below hb)
  replace B12 := Aside0.mk (blk_keep B12.out hb (blk_lt B12.out))
  replace HI_ := Aside0.mk (Nat.le_trans HI_.out hb.size)
  have T2 := Aside0.mk (TreeAt.mk u4 u5 uV uN uD)
  have TR2 := Aside0.mk (show ∀ q ∈ k2 ++ k2', g12 < q from fun q hq => by have := hF q hq; omega)
  clear hb u4 u5 uV uN uD hF hz_ hlt_
  clear s0 s1 s2 s3 s4 s5
  replace mk_ := Mk.mk (n := 7))
  | (
  (with_reducible refine gate_dst (N := 13) rfl ?_); refine box_event ?hg (N := 13) ?hd (cs := #[.int .i64 0, .int .i64 0, .int .i64 0, .string (⟨#[]⟩ : ByteArray), .slice none 0 0, .slice none 0 0]) (t := 28) ?hr ?_; (case hd => rfl); (case hg => rfl); (case hr => exact qGLawWs2_)
  intro g13 hg wk hbox hb
  have B13 := Aside0.mk hbox
  replace TR2 := Aside0.mk (show ∀ q ∈ k2 ++ k2', g12 < q ∧ q < g13 from fun q hq => by have := TR2.out q hq; have := TreeAt.lt T2.out q hq; omega)
  have N13 := Aside0.mk (show g12 < g13 by have := blk_lt B12.out; omega)
  have g13w := Aside0.mk (show w.heap.size ≤ g13 by have := L.out.size; omega)
  replace BA := Aside0.mk (blk_keep BA.out hb (blk_lt BA.out))
  replace L := Aside0.mk (below_step L.out hb)
  replace BB := Aside0.mk (blk_keep BB.out hb (blk_lt BB.out))
  replace B8 := Aside0.mk (blk_keep B8.out hb (blk_lt B8.out))
  replace RA := Aside0.mk (RA.out.below hb)
  replace T1 := Aside0.mk (T1.out.below hb)
  replace B10 := Aside0.mk (blk_keep B10.out hb (blk_lt B10.out))
  replace R1 := Aside0.mk qGLawWs1_
  replace TX := Aside0.mk (TX.out.below hb)
  replace B12 := Aside0.mk (blk_keep B12.out hb (blk_lt B12.out))
  replace T2 := Aside0.mk (T2.out.below hb)
  replace HI_ := Aside0.mk (Nat.le_trans HI_.out hb.size)
  clear hg hbox hb
  obtain ⟨r0, r1, r2, r3, r4, r5, zr0, zr1, zr2, zr3, zr4, zr5⟩ := six_cells B13.out
  obtain ⟨s0, s1, s2, s3, s4, s5, -⟩ := six_cells B8.out
  have ne813 : g8 ≠ g13 := by have := NUM.out; have := N10.out; have := N11.out; have := N12.out; have := N13.out; omega)
  | (
  go_at_call 26
  have _st : Mk 7 := mk_
  have hk := six_kept wk g13 (.int .i64 z.f0) (.int .i64 z.f1.f0) (.int .i64 z.f1.f1) (.string z.f2) (.slice E2 z.f3.length e2) (.slice E2' z.f4.length e2')
  have b_ := six_put (v0 := .int .i64 z.f0) (v1 := .int .i64 z.f1.f0) (v2 := .int .i64 z.f1.f1) (v3 := .string z.f2) (v4 := .slice E2 z.f3.length e2) (v5 := .slice E2' z.f4.length e2') B13.out
  have l_ := six_below (v0 := .int .i64 z.f0) (v1 := .int .i64 z.f1.f0) (v2 := .int .i64 z.f1.f1) (v3 := .string z.f2) (v4 := .slice E2 z.f3.length e2) (v5 := .slice E2' z.f4.length e2') L.out g13w.out
  clear r0 r1 r2 r3 r4 r5 zr0 zr1 zr2 zr3 zr4 zr5
  generalize (((((wk.setCell ⟨g13, 0, none⟩ (.int .i64 z.f0)).setCell ⟨g13, 1, none⟩ (.int .i64 z.f1.f0)).setCell ⟨g13, 2, none⟩ (.int .i64 z.f1.f1)).setCell ⟨g13, 3, none⟩ (.string z.f2)).setCell ⟨g13, 4, none⟩ (.slice E2 z.f3.length e2)).setCell ⟨g13, 5, none⟩ (.slice E2' z.f4.length e2') = w19 at *
  replace HI_ := Aside0.mk (Nat.le_trans HI_.out hk.1)
  replace BA := Aside0.mk (blk_kept BA.out hk (fun h => by have := NUM.out; have := N10.out; have := N11.out; have := N12.out; have := N13.out; omega))
  replace BB := Aside0.mk (blk_kept BB.out hk (fun h => by have := NUM.out; have := N10.out; have := N11.out; have := N12.out; have := N13.out; omega))
  replace B8 := Aside0.mk (blk_kept B8.out hk (fun h => by have := NUM.out; have := N10.out; have := N11.out; have := N12.out; have := N13.out; omega))
  replace RA := Aside0.mk (RA.out.kept hk (fun q h => by have := NUM.out; have := N10.out; have := N11.out; have := N12.out; have := N13.out; omega))
  replace T1 := Aside0.mk (T1.out.kept hk (fun q hq h => by have := NUM.out; have := N10.out; have := N11.out; have := N12.out; have := N13.out; have := TR1.out q hq; omega))
  replace B10 := Aside0.mk (blk_kept B10.out hk (fun h => by have := NUM.out; have := N10.out; have := N11.out; have := N12.out; have := N13.out; omega))
  replace R1 := Aside0.mk (NRow.same R1.out (Same.kept (NRow.lt R1.out) hk (fun q hq h => by have := NUM.out; have := N10.out; have := N11.out; have := N12.out; have := N13.out; have := RR1.out q hq; omega)))
  replace TX := Aside0.mk (TX.out.kept hk (fun q hq h => by have := NUM.out; have := N10.out; have := N11.out; have := N12.out; have := N13.out; have := TRX.out q hq; omega))
  replace B12 := Aside0.mk (blk_kept B12.out hk (fun h => by have := NUM.out; have := N10.out; have := N11.out; have := N12.out; have := N13.out; omega))
  replace T2 := Aside0.mk (T2.out.kept hk (fun q hq h => by have := NUM.out; have := N10.out; have := N11.out; have := N12.out; have := N13.out; have := TR2.out q hq; omega))
  replace B13 := Aside0.mk b_
  replace L := Aside0.mk l_
  clear hk b_ l_
  clear s0 s1 s2 s3 s4 s5
  refine (eqValue_v d z HZ.out _ E2 O4 e2 o4 E2' O5 e2' o5 (T2.out.c4 HZ.out) RA.out.c4_ T2.out.l4 RA.out.l4 (T2.out.c5 HZ.out) RA.out.c5_ T2.out.l5 RA.out.l5).mono ?_
  rintro e' wt ⟨rfl, hb⟩
  replace BA := Aside0.mk (blk_keep BA.out hb (blk_lt BA.out))
  replace L := Aside0.mk (below_step L.out hb)
  replace BB := Aside0.mk (blk_keep BB.out hb (blk_lt BB.out))
  replace B8 := Aside0.mk (blk_keep B8.out hb (blk_lt B8.out))
  replace RA := Aside0.mk (RA.out.below hb)
  replace T1 := Aside0.mk (T1.out.below hb)
  replace B10 := Aside0.mk (blk_keep B10.out hb (blk_lt B10.out))
  replace R1 := Aside0.mk qGLawWs1_
  replace TX := Aside0.mk (TX.out.below hb)
  replace B12 := Aside0.mk (blk_keep B12.out hb (blk_lt B12.out))
  replace T2 := Aside0.mk (T2.out.below hb)
  replace B13 := Aside0.mk (blk_keep B13.out hb (blk_lt B13.out))
  replace HI_ := Aside0.mk (Nat.le_trans HI_.out hb.size)
  clear hb
  replace mk_ := Mk.mk (n := 8)))
 obtain ⟨s0, s1, s2, s3, s4, s5, -⟩ := six_cells B10.out
 obtain ⟨p0, p1, p2, p3, p4, p5, -⟩ := six_cells BA.out
 refine start_ (n := 5) (S := fun w' => w'.cell? ⟨g10, 0, none⟩ = some (.int .i64 v.f0) ∧ w'.cell? ⟨g10, 1, none⟩ = some (.int .i64 v.f1.f0) ∧ w'.cell? ⟨g10, 2, none⟩ = some (.int .i64 v.f1.f1) ∧ w'.cell? ⟨g10, 3, none⟩ = some (.string v.f2) ∧ w'.cell? ⟨g10, 4, none⟩ = some (.slice E1 v.f3.length e1) ∧ w'.cell? ⟨g10, 5, none⟩ = some (.slice E1' v.f4.length e1') ∧ w'.cell? ⟨ga, 0, none⟩ = some (.int .i64 a.f0) ∧ w'.cell? ⟨ga, 1, none⟩ = some (.int .i64 a.f1.f0) ∧ w'.cell? ⟨ga, 2, none⟩ = some (.int .i64 a.f1.f1) ∧ w'.cell? ⟨ga, 3, none⟩ = some (.string a.f2) ∧ w'.cell? ⟨ga, 4, none⟩ = some (.slice A4 a.f3.length c4) ∧ w'.cell? ⟨ga, 5, none⟩ = some (.slice A5 a.f4.length c5)) (ds := []) #[false, false, false, false, false] (by kernel_rfl) rfl rfl (⟨s0, s1, s2, s3, s4, s5, p0, p1, p2, p3, p4, p5⟩) (fun hHeld => ?_)
 replace L := Aside0.mk (below_drew1 L.out)
 replace BA := Aside0.mk (show wt.drew.heap[ga]? = _ from BA.out)
 replace BB := Aside0.mk (show wt.drew.heap[gb]? = _ from BB.out)
 replace B8 := Aside0.mk (show wt.drew.heap[g8]? = _ from B8.out)
 replace RA := Aside0.mk (ReadAt.below (W' := wt.drew) RA.out (below_drew1 (Below.refl _ _)))
 replace HI_ : Aside0 (hi ≤ wt.drew.heap.size) := ⟨HI_.out⟩
 replace T1 := Aside0.mk (TreeAt.below (W' := wt.drew) T1.out (below_drew1 (Below.refl _ _)))
 replace B10 := Aside0.mk (show wt.drew.heap[g10]? = _ from B10.out)
 replace R1 := Aside0.mk (NRow.same (w1 := wt.drew) R1.out (fun _ _ => rfl))
 replace TX := Aside0.mk (TreeAt.below (W' := wt.drew) TX.out (below_drew1 (Below.refl _ _)))
 replace B12 := Aside0.mk (show wt.drew.heap[g12]? = _ from B12.out)
 replace T2 := Aside0.mk (TreeAt.below (W' := wt.drew) T2.out (below_drew1 (Below.refl _ _)))
 replace B13 := Aside0.mk (show wt.drew.heap[g13]? = _ from B13.out)
 clear hHeld
 generalize wt.drew = wd at *
 obtain ⟨s0, s1, s2, s3, s4, s5, -⟩ := six_cells B10.out
 obtain ⟨p0, p1, p2, p3, p4, p5, -⟩ := six_cells BA.out
 have hHeld := (⟨s0, s1, s2, s3, s4, s5, p0, p1, p2, p3, p4, p5⟩ : wd.cell? ⟨g10, 0, none⟩ = some (.int .i64 v.f0) ∧ wd.cell? ⟨g10, 1, none⟩ = some (.int .i64 v.f1.f0) ∧ wd.cell? ⟨g10, 2, none⟩ = some (.int .i64 v.f1.f1) ∧ wd.cell? ⟨g10, 3, none⟩ = some (.string v.f2) ∧ wd.cell? ⟨g10, 4, none⟩ = some (.slice E1 v.f3.length e1) ∧ wd.cell? ⟨g10, 5, none⟩ = some (.slice E1' v.f4.length e1') ∧ wd.cell? ⟨ga, 0, none⟩ = some (.int .i64 a.f0) ∧ wd.cell? ⟨ga, 1, none⟩ = some (.int .i64 a.f1.f0) ∧ wd.cell? ⟨ga, 2, none⟩ = some (.int .i64 a.f1.f1) ∧ wd.cell? ⟨ga, 3, none⟩ = some (.string a.f2) ∧ wd.cell? ⟨ga, 4, none⟩ = some (.slice A4 a.f3.length c4) ∧ wd.cell? ⟨ga, 5, none⟩ = some (.slice A5 a.f4.length c5))
 refine take_ (i := 0) (N := some 67) (v := ?_) (a' := ?_) #[true, false, false, false, false] rfl rfl (by kernel_rfl) (fun _ _ _ h => h) (Or.inl ⟨by rfl, ?_⟩) hHeld ?_ ?_
 rotate_left
 ·intro w' s0
  obtain ⟨t0, t1, t2, t3, t4, t5, t6, t7, t8, t9, t10, t11⟩ := s0
  go_simp; with_reducible rfl
 rotate_left
 ·simp only [Act.put, List.setIfInBounds_toArray, List.set_cons_zero, List.set_cons_succ, i64_w, i32_w]; rfl
 refine take_ (i := 1) (N := some 68) (v := ?_) (a' := ?_) #[true, true, false, false, false] rfl rfl (by kernel_rfl) (fun _ _ _ h => h) (Or.inl ⟨by rfl, ?_⟩) hHeld ?_ ?_
 rotate_left
 ·intro w' s0
  obtain ⟨t0, t1, t2, t3, t4, t5, t6, t7, t8, t9, t10, t11⟩ := s0
  go_simp; with_reducible rfl
 rotate_left
 ·simp only [Act.put, List.setIfInBounds_toArray, List.set_cons_zero, List.set_cons_succ, i64_w, i32_w]; rfl
 refine one_ (i := 2) (N := some 69) #[true, true, true, false, false] rfl rfl (by kernel_rfl) (by decide) (fun K hK => ?_)
 refine goes_ Tryd.func24 (by kernel_rfl) rfl #[.agg #[.int .i64 a.f0, .int .i64 a.f1.f0, .int .i64 a.f1.f1, .string a.f2, .slice A4 a.f3.length c4, .slice A5 a.f4.length c5]] (by rfl) rfl rfl qGLawWs0_ ?_
 with_reducible refine (toValue_v d a _ A4 c4 A5 c5 (Kd.C_below H4.out L.out) l4 (Kd.C_below H5.out L.out) l5 HF.out.1 HF.out.2 v HVE.out).mono ?_
 rintro e' wt1 ⟨E3, e3, E3', e3', k3, k3', rfl, tt, hF, hb⟩
 replace BA := Aside0.mk (blk_keep BA.out hb (blk_lt BA.out))
 replace L := Aside0.mk (below_step L.out hb)
 replace BB := Aside0.mk (blk_keep BB.out hb (blk_lt BB.out))
 replace B8 := Aside0.mk (blk_keep B8.out hb (blk_lt B8.out))
 replace RA := Aside0.mk (RA.out.below hb)
 replace T1 := Aside0.mk (T1.out.below hb)
 replace B10 := Aside0.mk (blk_keep B10.out hb (blk_lt B10.out))
 replace R1 := Aside0.mk qGLawWs1_
 replace TX := Aside0.mk (TX.out.below hb)
 replace B12 := Aside0.mk (blk_keep B12.out hb (blk_lt B12.out))
 replace T2 := Aside0.mk (T2.out.below hb)
 replace B13 := Aside0.mk (blk_keep B13.out hb (blk_lt B13.out))
 replace HI_ := Aside0.mk (Nat.le_trans HI_.out hb.size)
 have T3 := Aside0.mk tt
 clear tt hF
 have hH1 := (⟨(hb.cell (World.block_lt_of_cell? _ _ s0)).trans s0, (hb.cell (World.block_lt_of_cell? _ _ s1)).trans s1, (hb.cell (World.block_lt_of_cell? _ _ s2)).trans s2, (hb.cell (World.block_lt_of_cell? _ _ s3)).trans s3, (hb.cell (World.block_lt_of_cell? _ _ s4)).trans s4, (hb.cell (World.block_lt_of_cell? _ _ s5)).trans s5, (hb.cell (World.block_lt_of_cell? _ _ p0)).trans p0, (hb.cell (World.block_lt_of_cell? _ _ p1)).trans p1, (hb.cell (World.block_lt_of_cell? _ _ p2)).trans p2, (hb.cell (World.block_lt_of_cell? _ _ p3)).trans p3, (hb.cell (World.block_lt_of_cell? _ _ p4)).trans p4, (hb.cell (World.block_lt_of_cell? _ _ p5)).trans p5⟩ : wt1.cell? ⟨g10, 0, none⟩ = some (.int .i64 v.f0) ∧ wt1.cell? ⟨g10, 1, none⟩ = some (.int .i64 v.f1.f0) ∧ wt1.cell? ⟨g10, 2, none⟩ = some (.int .i64 v.f1.f1) ∧ wt1.cell? ⟨g10, 3, none⟩ = some (.string v.f2) ∧ wt1.cell? ⟨g10, 4, none⟩ = some (.slice E1 v.f3.length e1) ∧ wt1.cell? ⟨g10, 5, none⟩ = some (.slice E1' v.f4.length e1') ∧ wt1.cell? ⟨ga, 0, none⟩ = some (.int .i64 a.f0) ∧ wt1.cell? ⟨ga, 1, none⟩ = some (.int .i64 a.f1.f0) ∧ wt1.cell? ⟨ga, 2, none⟩ = some (.int .i64 a.f1.f1) ∧ wt1.cell? ⟨ga, 3, none⟩ = some (.string a.f2) ∧ wt1.cell? ⟨ga, 4, none⟩ = some (.slice A4 a.f3.length c4) ∧ wt1.cell? ⟨ga, 5, none⟩ = some (.slice A5 a.f4.length c5))
 clear s0 s1 s2 s3 s4 s5 p0 p1 p2 p3 p4 p5
 obtain ⟨s0, s1, s2, s3, s4, s5, p0, p1, p2, p3, p4, p5⟩ := id hH1
 refine ⟨_, rfl, hK.out _ _ (hH1) (fun hHeld => ?_)⟩
 clear hK K
 refine norm_ (a' := ?_) ?_ ?_
 rotate_left
 ·show Act.put _ (some 69) _ = _
  simp only [Act.put, List.setIfInBounds_toArray, List.set_cons_zero, List.set_cons_succ, i64_w, i32_w]; rfl
 refine one_ (i := 3) (N := some 70) #[true, true, true, true, false] rfl rfl (by kernel_rfl) (by decide) (fun K hK => ?_)
 refine goes_ Tryd.func26 (by kernel_rfl) rfl #[.agg #[.int .i64 v.f0, .int .i64 v.f1.f0, .int .i64 v.f1.f1, .string v.f2, .slice E1 v.f3.length e1, .slice E1' v.f4.length e1'], .agg #[.int .i64 v.f0, .int .i64 v.f1.f0, .int .i64 v.f1.f1, .string v.f2, .slice E3 v.f3.length e3, .slice E3' v.f4.length e3']] (by rfl) rfl rfl qGLawWs0_ ?_
 with_reducible refine (eqValue_v d v HV.out _ E1 E3 e1 e3 E1' E3' e1' e3' (T1.out.c4 HV.out) (T3.out.c4 HV.out) T1.out.l4 T3.out.l4 (T1.out.c5 HV.out) (T3.out.c5 HV.out) T1.out.l5 T3.out.l5).mono ?_
 clear hb
 rintro e' wt ⟨rfl, hb⟩
 replace BA := Aside0.mk (blk_keep BA.out hb (blk_lt BA.out))
 replace L := Aside0.mk (below_step L.out hb)
 replace BB := Aside0.mk (blk_keep BB.out hb (blk_lt BB.out))
 replace B8 := Aside0.mk (blk_keep B8.out hb (blk_lt B8.out))
 replace RA := Aside0.mk (RA.out.below hb)
 replace T1 := Aside0.mk (T1.out.below hb)
 replace B10 := Aside0.mk (blk_keep B10.out hb (blk_lt B10.out))
 replace R1 := Aside0.mk qGLawWs1_
 replace TX := Aside0.mk (TX.out.below hb)
 replace B12 := Aside0.mk (blk_keep B12.out hb (blk_lt B12.out))
 replace T2 := Aside0.mk (T2.out.below hb)
 replace B13 := Aside0.mk (blk_keep B13.out hb (blk_lt B13.out))
 replace HI_ := Aside0.mk (Nat.le_trans HI_.out hb.size)
 have hH2 := (⟨(hb.cell (World.block_lt_of_cell? _ _ s0)).trans s0, (hb.cell (World.block_lt_of_cell? _ _ s1)).trans s1, (hb.cell (World.block_lt_of_cell? _ _ s2)).trans s2, (hb.cell (World.block_lt_of_cell? _ _ s3)).trans s3, (hb.cell (World.block_lt_of_cell? _ _ s4)).trans s4, (hb.cell (World.block_lt_of_cell? _ _ s5)).trans s5, (hb.cell (World.block_lt_of_cell? _ _ p0)).trans p0, (hb.cell (World.block_lt_of_cell? _ _ p1)).trans p1, (hb.cell (World.block_lt_of_cell? _ _ p2)).trans p2, (hb.cell (World.block_lt_of_cell? _ _ p3)).trans p3, (hb.cell (World.block_lt_of_cell? _ _ p4)).trans p4, (hb.cell (World.block_lt_of_cell? _ _ p5)).trans p5⟩ : wt.cell? ⟨g10, 0, none⟩ = some (.int .i64 v.f0) ∧ wt.cell? ⟨g10, 1, none⟩ = some (.int .i64 v.f1.f0) ∧ wt.cell? ⟨g10, 2, none⟩ = some (.int .i64 v.f1.f1) ∧ wt.cell? ⟨g10, 3, none⟩ = some (.string v.f2) ∧ wt.cell? ⟨g10, 4, none⟩ = some (.slice E1 v.f3.length e1) ∧ wt.cell? ⟨g10, 5, none⟩ = some (.slice E1' v.f4.length e1') ∧ wt.cell? ⟨ga, 0, none⟩ = some (.int .i64 a.f0) ∧ wt.cell? ⟨ga, 1, none⟩ = some (.int .i64 a.f1.f0) ∧ wt.cell? ⟨ga, 2, none⟩ = some (.int .i64 a.f1.f1) ∧ wt.cell? ⟨ga, 3, none⟩ = some (.string a.f2) ∧ wt.cell? ⟨ga, 4, none⟩ = some (.slice A4 a.f3.length c4) ∧ wt.cell? ⟨ga, 5, none⟩ = some (.slice A5 a.f4.length c5))
 clear s0 s1 s2 s3 s4 s5 p0 p1 p2 p3 p4 p5
 refine ⟨_, rfl, hK.out _ _ (hH2) (fun hHeld => ?_)⟩
 clear hK K
 refine norm_ (a' := ?_) ?_ ?_
 rotate_left
 ·show Act.put _ (some 70) _ = _
  simp only [Act.put, List.setIfInBounds_toArray, List.set_cons_zero, List.set_cons_succ, i64_w, i32_w]; rfl
 refine pure_ (i := 4) (N := some 71) (v := ?_) (a' := ?_) #[true, true, true, true, true] rfl rfl (by kernel_rfl) (fun _ _ _ h => h) (Or.inl ⟨by rfl, ?_⟩) ?_ ?_
 rotate_left
 ·intro w'
  go_simp; with_reducible rfl
 rotate_left
 ·simp only [Act.put, List.setIfInBounds_toArray, List.set_cons_zero, List.set_cons_succ, i64_w, i32_w]; rfl
 refine done_ (by kernel_rfl) ?_
 clear hH1 hH2 hHeld hb T3
 replace mk_ := Mk.mk (n := 8)
 go_wp2_with (first
  | (
  go_at_call 30
  have _st : Mk 8 := mk_
  refine (toStringS_calls _ AP cP path (Kd.C_below HP.out L.out) lp HPL.out).mono ?_
  rintro e' wt ⟨Q2, q2_, m2, rfl, lq2, nn, nd, hF, hb⟩
  replace BA := Aside0.mk (blk_keep BA.out hb (blk_lt BA.out))
  replace L := Aside0.mk (below_step L.out hb)
  replace BB := Aside0.mk (blk_keep BB.out hb (blk_lt BB.out))
  replace B8 := Aside0.mk (blk_keep B8.out hb (blk_lt B8.out))
  replace RA := Aside0.mk (RA.out.below hb)
  replace T1 := Aside0.mk (T1.out.below hb)
  replace B10 := Aside0.mk (blk_keep B10.out hb (blk_lt B10.out))
  replace R1 := Aside0.mk qGLawWs1_
  replace TX := Aside0.mk (TX.out.below hb)
  replace B12 := Aside0.mk (blk_keep B12.out hb (blk_lt B12.out))
  replace T2 := Aside0.mk (T2.out.below hb)
  replace B13 := Aside0.mk (blk_keep B13.out hb (blk_lt B13.out))
  replace HI_ := Aside0.mk (Nat.le_trans HI_.out hb.size)
  have R2 := Aside0.mk nn
  clear hb nn nd hF
  replace mk_ := Mk.mk (n := 9))
  | (
  go_at_call 31
  have _st : Mk 9 := mk_
  refine (eqStringS_calls _ Q1 Q2 q1_ q2_ path (R1.out.reads (Nat.le_trans HPL.out (by decide))) (R2.out.reads (Nat.le_trans HPL.out (by decide))) lq1 lq2).mono ?_
  rintro e' wt ⟨rfl, hb⟩
  replace BA := Aside0.mk (blk_keep BA.out hb (blk_lt BA.out))
  replace L := Aside0.mk (below_step L.out hb)
  replace BB := Aside0.mk (blk_keep BB.out hb (blk_lt BB.out))
  replace B8 := Aside0.mk (blk_keep B8.out hb (blk_lt B8.out))
  replace RA := Aside0.mk (RA.out.below hb)
  replace T1 := Aside0.mk (T1.out.below hb)
  replace B10 := Aside0.mk (blk_keep B10.out hb (blk_lt B10.out))
  replace R1 := Aside0.mk qGLawWs1_
  replace TX := Aside0.mk (TX.out.below hb)
  replace B12 := Aside0.mk (blk_keep B12.out hb (blk_lt B12.out))
  replace T2 := Aside0.mk (T2.out.below hb)
  replace B13 := Aside0.mk (blk_keep B13.out hb (blk_lt B13.out))
  replace HI_ := Aside0.mk (Nat.le_trans HI_.out hb.size)
  clear hb R2
  replace mk_ := Mk.mk (n := 10)))
 obtain ⟨s0, s1, s2, s3, s4, s5, -⟩ := six_cells B12.out
 obtain ⟨p0, p1, p2, p3, p4, p5, -⟩ := six_cells BB.out
 refine start_ (n := 5) (S := fun w' => w'.cell? ⟨g12, 0, none⟩ = some (.int .i64 u.f0) ∧ w'.cell? ⟨g12, 1, none⟩ = some (.int .i64 u.f1.f0) ∧ w'.cell? ⟨g12, 2, none⟩ = some (.int .i64 u.f1.f1) ∧ w'.cell? ⟨g12, 3, none⟩ = some (.string u.f2) ∧ w'.cell? ⟨g12, 4, none⟩ = some (.slice X1 u.f3.length x1) ∧ w'.cell? ⟨g12, 5, none⟩ = some (.slice X1' u.f4.length x1') ∧ w'.cell? ⟨gb, 0, none⟩ = some (.int .i64 b.f0) ∧ w'.cell? ⟨gb, 1, none⟩ = some (.int .i64 b.f1.f0) ∧ w'.cell? ⟨gb, 2, none⟩ = some (.int .i64 b.f1.f1) ∧ w'.cell? ⟨gb, 3, none⟩ = some (.string b.f2) ∧ w'.cell? ⟨gb, 4, none⟩ = some (.slice B4 b.f3.length b4) ∧ w'.cell? ⟨gb, 5, none⟩ = some (.slice B5 b.f4.length b5)) (ds := []) #[false, false, false, false, false] (by kernel_rfl) rfl rfl (⟨s0, s1, s2, s3, s4, s5, p0, p1, p2, p3, p4, p5⟩) (fun hHeld => ?_)
 replace L := Aside0.mk (below_drew1 L.out)
 replace BA := Aside0.mk (show wt.drew.heap[ga]? = _ from BA.out)
 replace BB := Aside0.mk (show wt.drew.heap[gb]? = _ from BB.out)
 replace B8 := Aside0.mk (show wt.drew.heap[g8]? = _ from B8.out)
 replace RA := Aside0.mk (ReadAt.below (W' := wt.drew) RA.out (below_drew1 (Below.refl _ _)))
 replace HI_ : Aside0 (hi ≤ wt.drew.heap.size) := ⟨HI_.out⟩
 replace T1 := Aside0.mk (TreeAt.below (W' := wt.drew) T1.out (below_drew1 (Below.refl _ _)))
 replace B10 := Aside0.mk (show wt.drew.heap[g10]? = _ from B10.out)
 replace R1 := Aside0.mk (NRow.same (w1 := wt.drew) R1.out (fun _ _ => rfl))
 replace TX := Aside0.mk (TreeAt.below (W' := wt.drew) TX.out (below_drew1 (Below.refl _ _)))
 replace B12 := Aside0.mk (show wt.drew.heap[g12]? = _ from B12.out)
 replace T2 := Aside0.mk (TreeAt.below (W' := wt.drew) T2.out (below_drew1 (Below.refl _ _)))
 replace B13 := Aside0.mk (show wt.drew.heap[g13]? = _ from B13.out)
 clear hHeld
 generalize wt.drew = wd at *
 obtain ⟨s0, s1, s2, s3, s4, s5, -⟩ := six_cells B12.out
 obtain ⟨p0, p1, p2, p3, p4, p5, -⟩ := six_cells BB.out
 have hHeld := (⟨s0, s1, s2, s3, s4, s5, p0, p1, p2, p3, p4, p5⟩ : wd.cell? ⟨g12, 0, none⟩ = some (.int .i64 u.f0) ∧ wd.cell? ⟨g12, 1, none⟩ = some (.int .i64 u.f1.f0) ∧ wd.cell? ⟨g12, 2, none⟩ = some (.int .i64 u.f1.f1) ∧ wd.cell? ⟨g12, 3, none⟩ = some (.string u.f2) ∧ wd.cell? ⟨g12, 4, none⟩ = some (.slice X1 u.f3.length x1) ∧ wd.cell? ⟨g12, 5, none⟩ = some (.slice X1' u.f4.length x1') ∧ wd.cell? ⟨gb, 0, none⟩ = some (.int .i64 b.f0) ∧ wd.cell? ⟨gb, 1, none⟩ = some (.int .i64 b.f1.f0) ∧ wd.cell? ⟨gb, 2, none⟩ = some (.int .i64 b.f1.f1) ∧ wd.cell? ⟨gb, 3, none⟩ = some (.string b.f2) ∧ wd.cell? ⟨gb, 4, none⟩ = some (.slice B4 b.f3.length b4) ∧ wd.cell? ⟨gb, 5, none⟩ = some (.slice B5 b.f4.length b5))
 refine take_ (i := 0) (N := some 77) (v := ?_) (a' := ?_) #[true, false, false, false, false] rfl rfl (by kernel_rfl) (fun _ _ _ h => h) (Or.inl ⟨by rfl, ?_⟩) hHeld ?_ ?_
 rotate_left
 ·intro w' s0
  obtain ⟨t0, t1, t2, t3, t4, t5, t6, t7, t8, t9, t10, t11⟩ := s0
  go_simp; with_reducible rfl
 rotate_left
 ·simp only [Act.put, List.setIfInBounds_toArray, List.set_cons_zero, List.set_cons_succ, i64_w, i32_w]; rfl
 refine take_ (i := 1) (N := some 78) (v := ?_) (a' := ?_) #[true, true, false, false, false] rfl rfl (by kernel_rfl) (fun _ _ _ h => h) (Or.inl ⟨by rfl, ?_⟩) hHeld ?_ ?_
 rotate_left
 ·intro w' s0
  obtain ⟨t0, t1, t2, t3, t4, t5, t6, t7, t8, t9, t10, t11⟩ := s0
  go_simp; with_reducible rfl
 rotate_left
 ·simp only [Act.put, List.setIfInBounds_toArray, List.set_cons_zero, List.set_cons_succ, i64_w, i32_w]; rfl
 refine one_ (i := 2) (N := some 79) #[true, true, true, false, false] rfl rfl (by kernel_rfl) (by decide) (fun K hK => ?_)
 refine goes_ Tryd.func24 (by kernel_rfl) rfl #[.agg #[.int .i64 b.f0, .int .i64 b.f1.f0, .int .i64 b.f1.f1, .string b.f2, .slice B4 b.f3.length b4, .slice B5 b.f4.length b5]] (by rfl) rfl rfl qGLawWs0_ ?_
 with_reducible refine (toValue_v d b _ B4 b4 B5 b5 (Kd.C_below H6.out L.out) l6 (Kd.C_below H7.out L.out) l7 HFB.out.1 HFB.out.2 u HUE.out).mono ?_
 rintro e' wt1 ⟨E3, e3, E3', e3', k3, k3', rfl, tt, hF, hb⟩
 replace BA := Aside0.mk (blk_keep BA.out hb (blk_lt BA.out))
 replace L := Aside0.mk (below_step L.out hb)
 replace BB := Aside0.mk (blk_keep BB.out hb (blk_lt BB.out))
 replace B8 := Aside0.mk (blk_keep B8.out hb (blk_lt B8.out))
 replace RA := Aside0.mk (RA.out.below hb)
 replace T1 := Aside0.mk (T1.out.below hb)
 replace B10 := Aside0.mk (blk_keep B10.out hb (blk_lt B10.out))
 replace R1 := Aside0.mk qGLawWs1_
 replace TX := Aside0.mk (TX.out.below hb)
 replace B12 := Aside0.mk (blk_keep B12.out hb (blk_lt B12.out))
 replace T2 := Aside0.mk (T2.out.below hb)
 replace B13 := Aside0.mk (blk_keep B13.out hb (blk_lt B13.out))
 replace HI_ := Aside0.mk (Nat.le_trans HI_.out hb.size)
 have T3 := Aside0.mk tt
 clear tt hF
 have hH1 := (⟨(hb.cell (World.block_lt_of_cell? _ _ s0)).trans s0, (hb.cell (World.block_lt_of_cell? _ _ s1)).trans s1, (hb.cell (World.block_lt_of_cell? _ _ s2)).trans s2, (hb.cell (World.block_lt_of_cell? _ _ s3)).trans s3, (hb.cell (World.block_lt_of_cell? _ _ s4)).trans s4, (hb.cell (World.block_lt_of_cell? _ _ s5)).trans s5, (hb.cell (World.block_lt_of_cell? _ _ p0)).trans p0, (hb.cell (World.block_lt_of_cell? _ _ p1)).trans p1, (hb.cell (World.block_lt_of_cell? _ _ p2)).trans p2, (hb.cell (World.block_lt_of_cell? _ _ p3)).trans p3, (hb.cell (World.block_lt_of_cell? _ _ p4)).trans p4, (hb.cell (World.block_lt_of_cell? _ _ p5)).trans p5⟩ : wt1.cell? ⟨g12, 0, none⟩ = some (.int .i64 u.f0) ∧ wt1.cell? ⟨g12, 1, none⟩ = some (.int .i64 u.f1.f0) ∧ wt1.cell? ⟨g12, 2, none⟩ = some (.int .i64 u.f1.f1) ∧ wt1.cell? ⟨g12, 3, none⟩ = some (.string u.f2) ∧ wt1.cell? ⟨g12, 4, none⟩ = some (.slice X1 u.f3.length x1) ∧ wt1.cell? ⟨g12, 5, none⟩ = some (.slice X1' u.f4.length x1') ∧ wt1.cell? ⟨gb, 0, none⟩ = some (.int .i64 b.f0) ∧ wt1.cell? ⟨gb, 1, none⟩ = some (.int .i64 b.f1.f0) ∧ wt1.cell? ⟨gb, 2, none⟩ = some (.int .i64 b.f1.f1) ∧ wt1.cell? ⟨gb, 3, none⟩ = some (.string b.f2) ∧ wt1.cell? ⟨gb, 4, none⟩ = some (.slice B4 b.f3.length b4) ∧ wt1.cell? ⟨gb, 5, none⟩ = some (.slice B5 b.f4.length b5))
 clear s0 s1 s2 s3 s4 s5 p0 p1 p2 p3 p4 p5
 obtain ⟨s0, s1, s2, s3, s4, s5, p0, p1, p2, p3, p4, p5⟩ := id hH1
 refine ⟨_, rfl, hK.out _ _ (hH1) (fun hHeld => ?_)⟩
 clear hK K
 refine norm_ (a' := ?_) ?_ ?_
 rotate_left
 ·show Act.put _ (some 79) _ = _
  simp only [Act.put, List.setIfInBounds_toArray, List.set_cons_zero, List.set_cons_succ, i64_w, i32_w]; rfl
 refine one_ (i := 3) (N := some 80) #[true, true, true, true, false] rfl rfl (by kernel_rfl) (by decide) (fun K hK => ?_)
 refine goes_ Tryd.func26 (by kernel_rfl) rfl #[.agg #[.int .i64 u.f0, .int .i64 u.f1.f0, .int .i64 u.f1.f1, .string u.f2, .slice X1 u.f3.length x1, .slice X1' u.f4.length x1'], .agg #[.int .i64 u.f0, .int .i64 u.f1.f0, .int .i64 u.f1.f1, .string u.f2, .slice E3 u.f3.length e3, .slice E3' u.f4.length e3']] (by rfl) rfl rfl qGLawWs0_ ?_
 with_reducible refine (eqValue_v d u HU.out _ X1 E3 x1 e3 X1' E3' x1' e3' (TX.out.c4 HU.out) (T3.out.c4 HU.out) TX.out.l4 T3.out.l4 (TX.out.c5 HU.out) (T3.out.c5 HU.out) TX.out.l5 T3.out.l5).mono ?_
 clear hb
 rintro e' wt ⟨rfl, hb⟩
 replace BA := Aside0.mk (blk_keep BA.out hb (blk_lt BA.out))
 replace L := Aside0.mk (below_step L.out hb)
 replace BB := Aside0.mk (blk_keep BB.out hb (blk_lt BB.out))
 replace B8 := Aside0.mk (blk_keep B8.out hb (blk_lt B8.out))
 replace RA := Aside0.mk (RA.out.below hb)
 replace T1 := Aside0.mk (T1.out.below hb)
 replace B10 := Aside0.mk (blk_keep B10.out hb (blk_lt B10.out))
 replace R1 := Aside0.mk qGLawWs1_
 replace TX := Aside0.mk (TX.out.below hb)
 replace B12 := Aside0.mk (blk_keep B12.out hb (blk_lt B12.out))
 replace T2 := Aside0.mk (T2.out.below hb)
 replace B13 := Aside0.mk (blk_keep B13.out hb (blk_lt B13.out))
 replace HI_ := Aside0.mk (Nat.le_trans HI_.out hb.size)
 have hH2 := (⟨(hb.cell (World.block_lt_of_cell? _ _ s0)).trans s0, (hb.cell (World.block_lt_of_cell? _ _ s1)).trans s1, (hb.cell (World.block_lt_of_cell? _ _ s2)).trans s2, (hb.cell (World.block_lt_of_cell? _ _ s3)).trans s3, (hb.cell (World.block_lt_of_cell? _ _ s4)).trans s4, (hb.cell (World.block_lt_of_cell? _ _ s5)).trans s5, (hb.cell (World.block_lt_of_cell? _ _ p0)).trans p0, (hb.cell (World.block_lt_of_cell? _ _ p1)).trans p1, (hb.cell (World.block_lt_of_cell? _ _ p2)).trans p2, (hb.cell (World.block_lt_of_cell? _ _ p3)).trans p3, (hb.cell (World.block_lt_of_cell? _ _ p4)).trans p4, (hb.cell (World.block_lt_of_cell? _ _ p5)).trans p5⟩ : wt.cell? ⟨g12, 0, none⟩ = some (.int .i64 u.f0) ∧ wt.cell? ⟨g12, 1, none⟩ = some (.int .i64 u.f1.f0) ∧ wt.cell? ⟨g12, 2, none⟩ = some (.int .i64 u.f1.f1) ∧ wt.cell? ⟨g12, 3, none⟩ = some (.string u.f2) ∧ wt.cell? ⟨g12, 4, none⟩ = some (.slice X1 u.f3.length x1) ∧ wt.cell? ⟨g12, 5, none⟩ = some (.slice X1' u.f4.length x1') ∧ wt.cell? ⟨gb, 0, none⟩ = some (.int .i64 b.f0) ∧ wt.cell? ⟨gb, 1, none⟩ = some (.int .i64 b.f1.f0) ∧ wt.cell? ⟨gb, 2, none⟩ = some (.int .i64 b.f1.f1) ∧ wt.cell? ⟨gb, 3, none⟩ = some (.string b.f2) ∧ wt.cell? ⟨gb, 4, none⟩ = some (.slice B4 b.f3.length b4) ∧ wt.cell? ⟨gb, 5, none⟩ = some (.slice B5 b.f4.length b5))
 clear s0 s1 s2 s3 s4 s5 p0 p1 p2 p3 p4 p5
 refine ⟨_, rfl, hK.out _ _ (hH2) (fun hHeld => ?_)⟩
 clear hK K
 refine norm_ (a' := ?_) ?_ ?_
 rotate_left
 ·show Act.put _ (some 80) _ = _
  simp only [Act.put, List.setIfInBounds_toArray, List.set_cons_zero, List.set_cons_succ, i64_w, i32_w]; rfl
 refine pure_ (i := 4) (N := some 81) (v := ?_) (a' := ?_) #[true, true, true, true, true] rfl rfl (by kernel_rfl) (fun _ _ _ h => h) (Or.inl ⟨by rfl, ?_⟩) ?_ ?_
 rotate_left
 ·intro w'
  go_simp; with_reducible rfl
 rotate_left
 ·simp only [Act.put, List.setIfInBounds_toArray, List.set_cons_zero, List.set_cons_succ, i64_w, i32_w]; rfl
 refine done_ (by kernel_rfl) ?_
 clear hH1 hH2 hHeld hb T3
 obtain ⟨s0, s1, s2, s3, s4, s5, -⟩ := six_cells B10.out
 replace mk_ := Mk.mk (n := 10)
 go_wp2_with (first
  | (
  go_at_call 27
  have _st : Mk 10 := mk_
  refine (markValue_r d v HV.out w _ E1 e1 E1' e1' k1 k1' 1 K1 (by have := HKN.out; omega) HK1.out (by have := HKN.out; omega) T1.out L.out (fun q hq => by have := NUM.out; have := N10.out; have := N11.out; have := N12.out; have := N13.out; have := TR1.out q hq; omega)).mono ?_
  rintro e' wt ⟨rfl, ⟨vm, tm, d3, d4, dc, dm, dn⟩, hl, hk⟩
  replace HI_ := Aside0.mk (Nat.le_trans HI_.out hk.1)
  replace BA := Aside0.mk (blk_kept BA.out hk (fun h => by have := NUM.out; have := N10.out; have := N11.out; have := N12.out; have := N13.out; have := TR1.out _ h; omega))
  replace BB := Aside0.mk (blk_kept BB.out hk (fun h => by have := NUM.out; have := N10.out; have := N11.out; have := N12.out; have := N13.out; have := TR1.out _ h; omega))
  replace B8 := Aside0.mk (blk_kept B8.out hk (fun h => by have := NUM.out; have := N10.out; have := N11.out; have := N12.out; have := N13.out; have := TR1.out _ h; omega))
  replace RA := Aside0.mk (RA.out.kept hk (fun q h => by have := NUM.out; have := N10.out; have := N11.out; have := N12.out; have := N13.out; have := TR1.out q h; omega))
  replace B10 := Aside0.mk (blk_kept B10.out hk (fun h => by have := NUM.out; have := N10.out; have := N11.out; have := N12.out; have := N13.out; have := TR1.out _ h; omega))
  replace R1 := Aside0.mk (NRow.same R1.out (Same.kept (NRow.lt R1.out) hk (fun q hq h => by have := NUM.out; have := N10.out; have := N11.out; have := N12.out; have := N13.out; have := TR1.out q h; have := RR1.out q hq; omega)))
  replace TX := Aside0.mk (TX.out.kept hk (fun q hq h => by have := NUM.out; have := N10.out; have := N11.out; have := N12.out; have := N13.out; have := TR1.out q h; have := TRX.out q hq; omega))
  replace B12 := Aside0.mk (blk_kept B12.out hk (fun h => by have := NUM.out; have := N10.out; have := N11.out; have := N12.out; have := N13.out; have := TR1.out _ h; omega))
  replace T2 := Aside0.mk (T2.out.kept hk (fun q hq h => by have := NUM.out; have := N10.out; have := N11.out; have := N12.out; have := N13.out; have := TR1.out q h; have := TR2.out q hq; omega))
  replace B13 := Aside0.mk (blk_kept B13.out hk (fun h => by have := NUM.out; have := N10.out; have := N11.out; have := N12.out; have := N13.out; have := TR1.out _ h; omega))
  replace L := Aside0.mk hl
  clear s0 s1 s2 s3 s4 s5
  clear hk hl
  clear tm d3 d4 dc dm dn T1
  replace mk_ := Mk.mk (n := 11))
  | (
  go_at_call 32
  have _st : Mk 11 := mk_
  have hms := markStringS_calls w _ Q1 q1_ path m1 K1 R1.out lq1 (by have := HKN.out; omega) (by have := HKN.out; omega) L.out (fun q hq => by have := NUM.out; have := N10.out; have := N11.out; have := N12.out; have := N13.out; have := RR1.out q hq; omega)
  rw [HK2.out] at hms
  refine hms.mono ?_
  rintro e' wt ⟨rfl, -, hl, hk⟩
  replace HI_ := Aside0.mk (Nat.le_trans HI_.out hk.1)
  replace BA := Aside0.mk (blk_kept BA.out hk (fun h => by have := NUM.out; have := N10.out; have := N11.out; have := N12.out; have := N13.out; have := RR1.out _ h; omega))
  replace BB := Aside0.mk (blk_kept BB.out hk (fun h => by have := NUM.out; have := N10.out; have := N11.out; have := N12.out; have := N13.out; have := RR1.out _ h; omega))
  replace B8 := Aside0.mk (blk_kept B8.out hk (fun h => by have := NUM.out; have := N10.out; have := N11.out; have := N12.out; have := N13.out; have := RR1.out _ h; omega))
  replace RA := Aside0.mk (RA.out.kept hk (fun q h => by have := NUM.out; have := N10.out; have := N11.out; have := N12.out; have := N13.out; have := RR1.out q h; omega))
  replace B10 := Aside0.mk (blk_kept B10.out hk (fun h => by have := NUM.out; have := N10.out; have := N11.out; have := N12.out; have := N13.out; have := RR1.out _ h; omega))
  replace TX := Aside0.mk (TX.out.kept hk (fun q hq h => by have := NUM.out; have := N10.out; have := N11.out; have := N12.out; have := N13.out; have := RR1.out q h; have := TRX.out q hq; omega))
  replace B12 := Aside0.mk (blk_kept B12.out hk (fun h => by have := NUM.out; have := N10.out; have := N11.out; have := N12.out; have := N13.out; have := RR1.out _ h; omega))
  replace T2 := Aside0.mk (T2.out.kept hk (fun q hq h => by have := NUM.out; have := N10.out; have := N11.out; have := N12.out; have := N13.out; have := RR1.out q h; have := TR2.out q hq; omega))
  replace B13 := Aside0.mk (blk_kept B13.out hk (fun h => by have := NUM.out; have := N10.out; have := N11.out; have := N12.out; have := N13.out; have := RR1.out _ h; omega))
  replace L := Aside0.mk hl
  clear hk hl R1 hms
  obtain ⟨s0, s1, s2, s3, s4, s5, -⟩ := six_cells B12.out
  replace mk_ := Mk.mk (n := 12))
  | (
  go_at_call 27
  have _st : Mk 12 := mk_
  refine (markValue_r d u HU.out w _ X1 x1 X1' x1' kx kx' K2 K3 (by have := HKN.out; omega) HK3.out (by have := HKN.out; omega) TX.out L.out (fun q hq => by have := NUM.out; have := N10.out; have := N11.out; have := N12.out; have := N13.out; have := TRX.out q hq; omega)).mono ?_
  rintro e' wt ⟨rfl, ⟨vm, tm, d3, d4, dc, dm, dn⟩, hl, hk⟩
  replace HI_ := Aside0.mk (Nat.le_trans HI_.out hk.1)
  replace BA := Aside0.mk (blk_kept BA.out hk (fun h => by have := NUM.out; have := N10.out; have := N11.out; have := N12.out; have := N13.out; have := TRX.out _ h; omega))
  replace BB := Aside0.mk (blk_kept BB.out hk (fun h => by have := NUM.out; have := N10.out; have := N11.out; have := N12.out; have := N13.out; have := TRX.out _ h; omega))
  replace B8 := Aside0.mk (blk_kept B8.out hk (fun h => by have := NUM.out; have := N10.out; have := N11.out; have := N12.out; have := N13.out; have := TRX.out _ h; omega))
  replace RA := Aside0.mk (RA.out.kept hk (fun q h => by have := NUM.out; have := N10.out; have := N11.out; have := N12.out; have := N13.out; have := TRX.out q h; omega))
  replace B10 := Aside0.mk (blk_kept B10.out hk (fun h => by have := NUM.out; have := N10.out; have := N11.out; have := N12.out; have := N13.out; have := TRX.out _ h; omega))
  replace B12 := Aside0.mk (blk_kept B12.out hk (fun h => by have := NUM.out; have := N10.out; have := N11.out; have := N12.out; have := N13.out; have := TRX.out _ h; omega))
  replace T2 := Aside0.mk (T2.out.kept hk (fun q hq h => by have := NUM.out; have := N10.out; have := N11.out; have := N12.out; have := N13.out; have := TRX.out q h; have := TR2.out q hq; omega))
  replace B13 := Aside0.mk (blk_kept B13.out hk (fun h => by have := NUM.out; have := N10.out; have := N11.out; have := N12.out; have := N13.out; have := TRX.out _ h; omega))
  replace L := Aside0.mk hl
  clear s0 s1 s2 s3 s4 s5
  obtain ⟨s0, s1, s2, s3, s4, s5, -⟩ := six_cells B13.out
  obtain ⟨p0, p1, p2, p3, p4, p5, -⟩ := six_cells B8.out
  clear hk hl
  clear tm d3 d4 dc dm dn TX
  replace mk_ := Mk.mk (n := 13))
  | (
  go_at_call 26
  have _st : Mk 13 := mk_
  refine (eqValue_v d z HZ.out _ E2 O4 e2 o4 E2' O5 e2' o5 (T2.out.c4 HZ.out) RA.out.c4_ T2.out.l4 RA.out.l4 (T2.out.c5 HZ.out) RA.out.c5_ T2.out.l5 RA.out.l5).mono ?_
  rintro e' wt ⟨rfl, hb⟩
  replace BA := Aside0.mk (blk_keep BA.out hb (blk_lt BA.out))
  replace L := Aside0.mk (below_step L.out hb)
  replace BB := Aside0.mk (blk_keep BB.out hb (blk_lt BB.out))
  replace B8 := Aside0.mk (blk_keep B8.out hb (blk_lt B8.out))
  replace RA := Aside0.mk (RA.out.below hb)
  replace B10 := Aside0.mk (blk_keep B10.out hb (blk_lt B10.out))
  replace B12 := Aside0.mk (blk_keep B12.out hb (blk_lt B12.out))
  replace T2 := Aside0.mk (T2.out.below hb)
  replace B13 := Aside0.mk (blk_keep B13.out hb (blk_lt B13.out))
  replace HI_ := Aside0.mk (Nat.le_trans HI_.out hb.size)
  clear hb
  clear s0 s1 s2 s3 s4 s5
  clear p0 p1 p2 p3 p4 p5
  obtain ⟨s0, s1, s2, s3, s4, s5, -⟩ := six_cells B13.out
  replace mk_ := Mk.mk (n := 14))
  | (
  go_at_call 27
  have _st : Mk 14 := mk_
  refine (markValue_r d z HZ.out w _ E2 e2 E2' e2' k2 k2' 1 M1 (by have := HKN.out; omega) HM1.out (by have := HKN.out; omega) T2.out L.out (fun q hq => by have := NUM.out; have := N10.out; have := N11.out; have := N12.out; have := N13.out; have := TR2.out q hq; omega)).mono ?_
  rintro e' wt ⟨rfl, ⟨vm, tm, d3, d4, dc, dm, dn⟩, hl, hk⟩
  replace HI_ := Aside0.mk (Nat.le_trans HI_.out hk.1)
  replace BA := Aside0.mk (blk_kept BA.out hk (fun h => by have := NUM.out; have := N10.out; have := N11.out; have := N12.out; have := N13.out; have := TR2.out _ h; omega))
  replace BB := Aside0.mk (blk_kept BB.out hk (fun h => by have := NUM.out; have := N10.out; have := N11.out; have := N12.out; have := N13.out; have := TR2.out _ h; omega))
  replace B8 := Aside0.mk (blk_kept B8.out hk (fun h => by have := NUM.out; have := N10.out; have := N11.out; have := N12.out; have := N13.out; have := TR2.out _ h; omega))
  replace RA := Aside0.mk (RA.out.kept hk (fun q h => by have := NUM.out; have := N10.out; have := N11.out; have := N12.out; have := N13.out; have := TR2.out q h; omega))
  replace B10 := Aside0.mk (blk_kept B10.out hk (fun h => by have := NUM.out; have := N10.out; have := N11.out; have := N12.out; have := N13.out; have := TR2.out _ h; omega))
  replace B12 := Aside0.mk (blk_kept B12.out hk (fun h => by have := NUM.out; have := N10.out; have := N11.out; have := N12.out; have := N13.out; have := TR2.out _ h; omega))
  replace B13 := Aside0.mk (blk_kept B13.out hk (fun h => by have := NUM.out; have := N10.out; have := N11.out; have := N12.out; have := N13.out; have := TR2.out _ h; omega))
  replace L := Aside0.mk hl
  clear s0 s1 s2 s3 s4 s5
  obtain ⟨s0, s1, s2, s3, s4, s5, -⟩ := six_cells B13.out
  have TM := Aside0.mk tm
  have M3 := Aside0.mk d3
  have M4 := Aside0.mk d4
  have MC := Aside0.mk dc
  have MM := Aside0.mk dm
  have MN := Aside0.mk dn
  clear tm d3 d4 dc dm dn T2
  clear hk hl
  replace mk_ := Mk.mk (n := 15))
  | (
  go_at_call 28
  have _st : Mk 15 := mk_
  have hh := heldValue_v d z vm HZ.out _ E2 e2 E2' e2' k2 k2' TM.out M3.out M4.out MC.out MM.out MN.out
  rw [HM1.out] at hh
  refine hh.mono ?_
  rintro e' wt ⟨rfl, hb⟩
  replace BA := Aside0.mk (blk_keep BA.out hb (blk_lt BA.out))
  replace L := Aside0.mk (below_step L.out hb)
  replace BB := Aside0.mk (blk_keep BB.out hb (blk_lt BB.out))
  replace B8 := Aside0.mk (blk_keep B8.out hb (blk_lt B8.out))
  replace RA := Aside0.mk (RA.out.below hb)
  replace B10 := Aside0.mk (blk_keep B10.out hb (blk_lt B10.out))
  replace B12 := Aside0.mk (blk_keep B12.out hb (blk_lt B12.out))
  replace B13 := Aside0.mk (blk_keep B13.out hb (blk_lt B13.out))
  replace TM := Aside0.mk (TM.out.below hb)
  replace HI_ := Aside0.mk (Nat.le_trans HI_.out hb.size)
  clear hb hh
  clear s0 s1 s2 s3 s4 s5
  replace mk_ := Mk.mk (n := 16)))
 obtain ⟨p0, p1, p2, p3, p4, p5, -⟩ := six_cells BA.out
 obtain ⟨q0, q1, q2, q3, q4, q5, -⟩ := six_cells BB.out
 have hSt : ∀ W_ W' : World, Below W_.heap.size W_ W' → (W_.cell? ⟨ga, 0, none⟩ = some (.int .i64 a.f0) ∧ W_.cell? ⟨ga, 1, none⟩ = some (.int .i64 a.f1.f0) ∧ W_.cell? ⟨ga, 2, none⟩ = some (.int .i64 a.f1.f1) ∧ W_.cell? ⟨ga, 3, none⟩ = some (.string a.f2) ∧ W_.cell? ⟨ga, 4, none⟩ = some (.slice A4 a.f3.length c4) ∧ W_.cell? ⟨ga, 5, none⟩ = some (.slice A5 a.f4.length c5) ∧ W_.cell? ⟨gb, 0, none⟩ = some (.int .i64 b.f0) ∧ W_.cell? ⟨gb, 1, none⟩ = some (.int .i64 b.f1.f0) ∧ W_.cell? ⟨gb, 2, none⟩ = some (.int .i64 b.f1.f1) ∧ W_.cell? ⟨gb, 3, none⟩ = some (.string b.f2) ∧ W_.cell? ⟨gb, 4, none⟩ = some (.slice B4 b.f3.length b4) ∧ W_.cell? ⟨gb, 5, none⟩ = some (.slice B5 b.f4.length b5)) → (W'.cell? ⟨ga, 0, none⟩ = some (.int .i64 a.f0) ∧ W'.cell? ⟨ga, 1, none⟩ = some (.int .i64 a.f1.f0) ∧ W'.cell? ⟨ga, 2, none⟩ = some (.int .i64 a.f1.f1) ∧ W'.cell? ⟨ga, 3, none⟩ = some (.string a.f2) ∧ W'.cell? ⟨ga, 4, none⟩ = some (.slice A4 a.f3.length c4) ∧ W'.cell? ⟨ga, 5, none⟩ = some (.slice A5 a.f4.length c5) ∧ W'.cell? ⟨gb, 0, none⟩ = some (.int .i64 b.f0) ∧ W'.cell? ⟨gb, 1, none⟩ = some (.int .i64 b.f1.f0) ∧ W'.cell? ⟨gb, 2, none⟩ = some (.int .i64 b.f1.f1) ∧ W'.cell? ⟨gb, 3, none⟩ = some (.string b.f2) ∧ W'.cell? ⟨gb, 4, none⟩ = some (.slice B4 b.f3.length b4) ∧ W'.cell? ⟨gb, 5, none⟩ = some (.slice B5 b.f4.length b5)) := fun W_ W' hb ⟨t0, t1, t2, t3, t4, t5, t6, t7, t8, t9, t10, t11⟩ => ⟨(hb.cell (World.block_lt_of_cell? _ _ t0)).trans t0, (hb.cell (World.block_lt_of_cell? _ _ t1)).trans t1, (hb.cell (World.block_lt_of_cell? _ _ t2)).trans t2, (hb.cell (World.block_lt_of_cell? _ _ t3)).trans t3, (hb.cell (World.block_lt_of_cell? _ _ t4)).trans t4, (hb.cell (World.block_lt_of_cell? _ _ t5)).trans t5, (hb.cell (World.block_lt_of_cell? _ _ t6)).trans t6, (hb.cell (World.block_lt_of_cell? _ _ t7)).trans t7, (hb.cell (World.block_lt_of_cell? _ _ t8)).trans t8, (hb.cell (World.block_lt_of_cell? _ _ t9)).trans t9, (hb.cell (World.block_lt_of_cell? _ _ t10)).trans t10, (hb.cell (World.block_lt_of_cell? _ _ t11)).trans t11⟩
 refine start_ (n := 13) (S := fun w' => w'.cell? ⟨ga, 0, none⟩ = some (.int .i64 a.f0) ∧ w'.cell? ⟨ga, 1, none⟩ = some (.int .i64 a.f1.f0) ∧ w'.cell? ⟨ga, 2, none⟩ = some (.int .i64 a.f1.f1) ∧ w'.cell? ⟨ga, 3, none⟩ = some (.string a.f2) ∧ w'.cell? ⟨ga, 4, none⟩ = some (.slice A4 a.f3.length c4) ∧ w'.cell? ⟨ga, 5, none⟩ = some (.slice A5 a.f4.length c5) ∧ w'.cell? ⟨gb, 0, none⟩ = some (.int .i64 b.f0) ∧ w'.cell? ⟨gb, 1, none⟩ = some (.int .i64 b.f1.f0) ∧ w'.cell? ⟨gb, 2, none⟩ = some (.int .i64 b.f1.f1) ∧ w'.cell? ⟨gb, 3, none⟩ = some (.string b.f2) ∧ w'.cell? ⟨gb, 4, none⟩ = some (.slice B4 b.f3.length b4) ∧ w'.cell? ⟨gb, 5, none⟩ = some (.slice B5 b.f4.length b5)) (ds := [11]) #[false, false, false, false, false, false, false, false, false, false, false, false, false] (by kernel_rfl) rfl rfl (⟨p0, p1, p2, p3, p4, p5, q0, q1, q2, q3, q4, q5⟩) (fun hHeld => ?_)
 replace L := Aside0.mk (below_drew1 L.out)
 replace BA := Aside0.mk (show wt.drew.heap[ga]? = _ from BA.out)
 replace BB := Aside0.mk (show wt.drew.heap[gb]? = _ from BB.out)
 replace B8 := Aside0.mk (show wt.drew.heap[g8]? = _ from B8.out)
 replace B10 := Aside0.mk (show wt.drew.heap[g10]? = _ from B10.out)
 replace B12 := Aside0.mk (show wt.drew.heap[g12]? = _ from B12.out)
 replace B13 := Aside0.mk (show wt.drew.heap[g13]? = _ from B13.out)
 replace RA := Aside0.mk (ReadAt.below (W' := wt.drew) RA.out (below_drew1 (Below.refl _ _)))
 replace HI_ : Aside0 (hi ≤ wt.drew.heap.size) := ⟨HI_.out⟩
 replace TM := Aside0.mk (TreeAt.below (W' := wt.drew) TM.out (below_drew1 (Below.refl _ _)))
 obtain ⟨W0, hW0⟩ : ∃ q, q = wt.drew := ⟨_, rfl⟩
 rw [← hW0] at L TM RA HI_ BA BB B8 B10 B12 B13
 have L0 : Aside0 (Below W0.heap.size W0 wt.drew) := ⟨by rw [hW0]; exact Below.refl _ _⟩
 clear hW0 p0 p1 p2 p3 p4 p5 q0 q1 q2 q3 q4 q5
 generalize wt.drew = wa at *
 refine pure_ (i := 2) (N := some 118) (v := ?_) (a' := ?_) #[false, false, true, false, false, false, false, false, false, false, false, false, false] rfl rfl (by kernel_rfl) (fun _ _ _ h => h) (Or.inl ⟨by rfl, ?_⟩) ?_ ?_
 rotate_left
 ·intro w'
  go_simp; with_reducible rfl
 rotate_left
 ·simp only [Act.put, List.setIfInBounds_toArray, List.set_cons_zero, List.set_cons_succ, i64_w, i32_w]; rfl
 refine take_ (i := 0) (N := some 116) (v := ?_) (a' := ?_) #[true, false, true, false, false, false, false, false, false, false, false, false, false] rfl rfl (by kernel_rfl) (fun _ _ _ h => h) (Or.inl ⟨by rfl, ?_⟩) hHeld ?_ ?_
 rotate_left
 ·intro w' s0
  obtain ⟨t0, t1, t2, t3, t4, t5, t6, t7, t8, t9, t10, t11⟩ := s0
  go_simp; with_reducible rfl
 rotate_left
 ·simp only [Act.put, List.setIfInBounds_toArray, List.set_cons_zero, List.set_cons_succ, i64_w, i32_w]; rfl
 refine take_ (i := 4) (N := some 120) (v := ?_) (a' := ?_) #[true, false, true, false, true, false, false, false, false, false, false, false, false] rfl rfl (by kernel_rfl) (fun _ _ _ h => h) (Or.inl ⟨by rfl, ?_⟩) hHeld ?_ ?_
 rotate_left
 ·intro w' s0
  obtain ⟨t0, t1, t2, t3, t4, t5, t6, t7, t8, t9, t10, t11⟩ := s0
  go_simp; with_reducible rfl
 rotate_left
 ·simp only [Act.put, List.setIfInBounds_toArray, List.set_cons_zero, List.set_cons_succ, i64_w, i32_w]; rfl
 refine join_ (σ := Value × Value × Value × (Option Addr × Nat × Option Addr × Nat) × Nat) 2 #[true, true, true, true, true, true, true, true, true, true, true, false, false] (fun s => [(117, s.1), (119, s.2.1), (121, s.2.2.1), (122, .tuple #[.agg #[.int .i64 z.f0, .int .i64 z.f1.f0, .int .i64 z.f1.f1, .string z.f2, .slice s.2.2.2.1.1 z.f3.length s.2.2.2.1.2.1, .slice s.2.2.2.1.2.2.1 z.f4.length s.2.2.2.1.2.2.2], .bool res.isSome]), (115, .tuple #[.agg #[.int .i64 z.f0, .int .i64 z.f1.f0, .int .i64 z.f1.f1, .string z.f2, .slice s.2.2.2.1.1 z.f3.length s.2.2.2.1.2.1, .slice s.2.2.2.1.2.2.1 z.f4.length s.2.2.2.1.2.2.2], .bool res.isSome]), (123, .agg #[.int .i64 z.f0, .int .i64 z.f1.f0, .int .i64 z.f1.f1, .string z.f2, .slice s.2.2.2.1.1 z.f3.length s.2.2.2.1.2.1, .slice s.2.2.2.1.2.2.1 z.f4.length s.2.2.2.1.2.2.2]), (124, .bool res.isSome), (18, .pointer (some ⟨s.2.2.2.2, 0, none⟩))]) (fun s w' => (∃ f4 f5, TreeAt d w' z s.2.2.2.1.1 s.2.2.2.1.2.1 s.2.2.2.1.2.2.1 s.2.2.2.1.2.2.2 f4 f5 ∧ ∀ q ∈ f4 ++ f5, q ≠ s.2.2.2.2) ∧ w'.heap[s.2.2.2.2]? = some (.cells #[.int .i64 0, .int .i64 0, .int .i64 0, .string (⟨#[]⟩ : ByteArray), .slice none 0 0, .slice none 0 0] 28 (0, 0)) ∧ W0.heap.size ≤ s.2.2.2.2 ∧ Below W0.heap.size W0 w') ?_ ?_
 rotate_left
 ·intro hCont
  repeat' (first
   | ((with_reducible refine gateL_ #[true, false, true, false, true, false, false, false, false, false, false, false, false] ?_); refine two_ (i := 1) (j := 10) (Ni := some 117) (Nj := some 18) #[true, true, true, false, true, false, false, false, false, false, false, false, false] #[true, false, true, false, true, false, false, false, false, false, true, false, false] rfl rfl rfl rfl (by kernel_rfl) (by decide) (by decide) (fun K hK => ?_) (fun K hK => ?_))
   | ((with_reducible refine gateL_ #[true, true, true, false, true, false, false, false, false, false, false, false, false] ?_); refine two_ (i := 3) (j := 10) (Ni := some 119) (Nj := some 18) #[true, true, true, true, true, false, false, false, false, false, false, false, false] #[true, true, true, false, true, false, false, false, false, false, true, false, false] rfl rfl rfl rfl (by kernel_rfl) (by decide) (by decide) (fun K hK => ?_) (fun K hK => ?_))
   | ((with_reducible refine gateL_ #[true, false, true, false, true, false, false, false, false, false, true, false, false] ?_); refine one_ (i := 1) (N := some 117) #[true, true, true, false, true, false, false, false, false, false, true, false, false] rfl rfl (by kernel_rfl) (by decide) (fun K hK => ?_))
   | ((with_reducible refine gateL_ #[true, true, true, true, true, false, false, false, false, false, false, false, false] ?_); refine two_ (i := 5) (j := 10) (Ni := some 121) (Nj := some 18) #[true, true, true, true, true, true, false, false, false, false, false, false, false] #[true, true, true, true, true, false, false, false, false, false, true, false, false] rfl rfl rfl rfl (by kernel_rfl) (by decide) (by decide) (fun K hK => ?_) (fun K hK => ?_))
   | ((with_reducible refine gateL_ #[true, true, true, false, true, false, false, false, false, false, true, false, false] ?_); refine one_ (i := 3) (N := some 119) #[true, true, true, true, true, false, false, false, false, false, true, false, false] rfl rfl (by kernel_rfl) (by decide) (fun K hK => ?_))
   | ((with_reducible refine gateL_ #[true, true, true, true, true, true, false, false, false, false, false, false, false] ?_); refine two_ (i := 6) (j := 10) (Ni := some 122) (Nj := some 18) #[true, true, true, true, true, true, true, false, false, false, false, false, false] #[true, true, true, true, true, true, false, false, false, false, true, false, false] rfl rfl rfl rfl (by kernel_rfl) (by decide) (by decide) (fun K hK => ?_) (fun K hK => ?_))
   | ((with_reducible refine gateL_ #[true, true, true, true, true, false, false, false, false, false, true, false, false] ?_); refine one_ (i := 5) (N := some 121) #[true, true, true, true, true, true, false, false, false, false, true, false, false] rfl rfl (by kernel_rfl) (by decide) (fun K hK => ?_))
   | ((with_reducible refine gateL_ #[true, true, true, true, true, true, false, false, false, false, true, false, false] ?_); refine one_ (i := 6) (N := some 122) #[true, true, true, true, true, true, true, false, false, false, true, false, false] rfl rfl (by kernel_rfl) (by decide) (fun K hK => ?_))
   | ((with_reducible refine gateL_ #[true, true, true, true, true, true, true, true, true, true, false, false, false] ?_); refine one_ (i := 10) (N := some 18) #[true, true, true, true, true, true, true, true, true, true, true, false, false] rfl rfl (by kernel_rfl) (by decide) (fun K hK => ?_))
   | (
  (with_reducible refine gateL_ #[true, true, true, true, true, true, true, false, false, false, false, false, false] ?_); refine pure_ (i := 7) (N := some 115) (v := ?_) (a' := ?_) #[true, true, true, true, true, true, true, true, false, false, false, false, false] rfl rfl (by kernel_rfl) (fun _ _ _ h => h) (Or.inl ⟨by rfl, ?_⟩) ?_ ?_
  rotate_left
  · intro w'
    go_simp; with_reducible rfl
  rotate_left
  · simp only [Act.put, List.setIfInBounds_toArray, List.set_cons_zero, List.set_cons_succ, i64_w, i32_w]; rfl)
   | (
  (with_reducible refine gateL_ #[true, true, true, true, true, true, true, true, false, false, false, false, false] ?_); refine pure_ (i := 8) (N := some 123) (v := ?_) (a' := ?_) #[true, true, true, true, true, true, true, true, true, false, false, false, false] rfl rfl (by kernel_rfl) (fun _ _ _ h => h) (Or.inl ⟨by rfl, ?_⟩) ?_ ?_
  rotate_left
  · intro w'
    go_simp; with_reducible rfl
  rotate_left
  · simp only [Act.put, List.setIfInBounds_toArray, List.set_cons_zero, List.set_cons_succ, i64_w, i32_w]; rfl)
   | (
  (with_reducible refine gateL_ #[true, true, true, true, true, true, true, false, false, false, true, false, false] ?_); refine pure_ (i := 7) (N := some 115) (v := ?_) (a' := ?_) #[true, true, true, true, true, true, true, true, false, false, true, false, false] rfl rfl (by kernel_rfl) (fun _ _ _ h => h) (Or.inl ⟨by rfl, ?_⟩) ?_ ?_
  rotate_left
  · intro w'
    go_simp; with_reducible rfl
  rotate_left
  · simp only [Act.put, List.setIfInBounds_toArray, List.set_cons_zero, List.set_cons_succ, i64_w, i32_w]; rfl)
   | (
  (with_reducible refine gateL_ #[true, true, true, true, true, true, true, true, true, false, false, false, false] ?_); refine pure_ (i := 9) (N := some 124) (v := ?_) (a' := ?_) #[true, true, true, true, true, true, true, true, true, true, false, false, false] rfl rfl (by kernel_rfl) (fun _ _ _ h => h) (Or.inl ⟨by rfl, ?_⟩) ?_ ?_
  rotate_left
  · intro w'
    go_simp; with_reducible rfl
  rotate_left
  · simp only [Act.put, List.setIfInBounds_toArray, List.set_cons_zero, List.set_cons_succ, i64_w, i32_w]; rfl)
   | (
  (with_reducible refine gateL_ #[true, true, true, true, true, true, true, true, false, false, true, false, false] ?_); refine pure_ (i := 8) (N := some 123) (v := ?_) (a' := ?_) #[true, true, true, true, true, true, true, true, true, false, true, false, false] rfl rfl (by kernel_rfl) (fun _ _ _ h => h) (Or.inl ⟨by rfl, ?_⟩) ?_ ?_
  rotate_left
  · intro w'
    go_simp; with_reducible rfl
  rotate_left
  · simp only [Act.put, List.setIfInBounds_toArray, List.set_cons_zero, List.set_cons_succ, i64_w, i32_w]; rfl)
   | (
  (with_reducible refine gateL_ #[true, true, true, true, true, true, true, true, true, false, true, false, false] ?_); refine pure_ (i := 9) (N := some 124) (v := ?_) (a' := ?_) #[true, true, true, true, true, true, true, true, true, true, true, false, false] rfl rfl (by kernel_rfl) (fun _ _ _ h => h) (Or.inl ⟨by rfl, ?_⟩) ?_ ?_
  rotate_left
  · intro w'
    go_simp; with_reducible rfl
  rotate_left
  · simp only [Act.put, List.setIfInBounds_toArray, List.set_cons_zero, List.set_cons_succ, i64_w, i32_w]; rfl)
   | ((with_reducible refine gateL_ #[true, true, true, true, true, true, true, true, true, true, true, false, false] ?_); exact norm_ (by simp only [putAll, Act.put, List.setIfInBounds_toArray, List.set_cons_zero, List.set_cons_succ]) (hCont (.agg #[.int .i64 v.f0, .int .i64 v.f1.f0, .int .i64 v.f1.f1, .string v.f2, .slice E4 v.f3.length e4, .slice E4' v.f4.length e4'], .slice Q4 path.length q4_, .agg #[.int .i64 u.f0, .int .i64 u.f1.f0, .int .i64 u.f1.f1, .string u.f2, .slice X4 u.f3.length x4, .slice X4' u.f4.length x4'], (E5, e5, E5', e5'), g_) _ ⟨⟨_, _, T5.out, F5.out⟩, BG.out, GW.out, L0.out⟩))
   | (
  (with_reducible refine gateI_ (some 117) ?_)
  refine goes_ Tryd.func24 (by kernel_rfl) rfl #[.agg #[.int .i64 a.f0, .int .i64 a.f1.f0, .int .i64 a.f1.f1, .string a.f2, .slice A4 a.f3.length c4, .slice A5 a.f4.length c5]] (by rfl) rfl rfl qGLawWs0_ ?_
  with_reducible refine (toValue_v d a wa A4 c4 A5 c5 (Kd.C_below H4.out (below_step L.out L0.out)) l4 (Kd.C_below H5.out (below_step L.out L0.out)) l5 HF.out.1 HF.out.2 v HVE.out).mono ?_
  rintro e' wa ⟨E4, e4, E4', e4', k4, k4', rfl, tt, -, hb⟩
  refine ⟨_, rfl, hK.out _ _ (hSt _ _ hb hHeld) (fun hHeld => ?_)⟩
  clear hK K
  refine norm_ (a' := ?_) ?_ ?_
  rotate_left
  · show Act.put _ (some 117) _ = _
    simp only [Act.put, List.setIfInBounds_toArray, List.set_cons_zero, List.set_cons_succ, i64_w, i32_w]; rfl
  have T4 := Aside0.mk tt
  clear tt
  replace L0 := Aside0.mk (below_step L0.out hb)
  (try replace BG := Aside0.mk (blk_keep BG.out hb (blk_lt BG.out)))
  clear hb)
   | (
  (with_reducible refine gateI_ (some 119) ?_)
  refine goes_ Tryd.func30 (by kernel_rfl) rfl #[.slice AP path.length cP] (by rfl) rfl rfl qGLawWs0_ ?_
  with_reducible refine (toStringS_calls wa AP cP path (Kd.C_below HP.out (below_step L.out L0.out)) lp HPL.out).mono ?_
  rintro e' wa ⟨Q4, q4_, m4, rfl, lq4, nn, -, -, hb⟩
  refine ⟨_, rfl, hK.out _ _ (hSt _ _ hb hHeld) (fun hHeld => ?_)⟩
  clear hK K
  refine norm_ (a' := ?_) ?_ ?_
  rotate_left
  · show Act.put _ (some 119) _ = _
    simp only [Act.put, List.setIfInBounds_toArray, List.set_cons_zero, List.set_cons_succ, i64_w, i32_w]; rfl
  replace T4 := Aside0.mk (T4.out.below hb)
  have R4 := Aside0.mk nn
  clear nn
  replace L0 := Aside0.mk (below_step L0.out hb)
  (try replace BG := Aside0.mk (blk_keep BG.out hb (blk_lt BG.out)))
  clear hb)
   | (
  (with_reducible refine gateI_ (some 121) ?_)
  refine goes_ Tryd.func24 (by kernel_rfl) rfl #[.agg #[.int .i64 b.f0, .int .i64 b.f1.f0, .int .i64 b.f1.f1, .string b.f2, .slice B4 b.f3.length b4, .slice B5 b.f4.length b5]] (by rfl) rfl rfl qGLawWs0_ ?_
  with_reducible refine (toValue_v d b wa B4 b4 B5 b5 (Kd.C_below H6.out (below_step L.out L0.out)) l6 (Kd.C_below H7.out (below_step L.out L0.out)) l7 HFB.out.1 HFB.out.2 u HUE.out).mono ?_
  rintro e' wa ⟨X4, x4, X4', x4', j4_, j4_', rfl, tt, -, hb⟩
  refine ⟨_, rfl, hK.out _ _ (hSt _ _ hb hHeld) (fun hHeld => ?_)⟩
  clear hK K
  refine norm_ (a' := ?_) ?_ ?_
  rotate_left
  · show Act.put _ (some 121) _ = _
    simp only [Act.put, List.setIfInBounds_toArray, List.set_cons_zero, List.set_cons_succ, i64_w, i32_w]; rfl
  replace T4 := Aside0.mk (T4.out.below hb)
  replace R4 := Aside0.mk (NRow.same R4.out (Same.below (NRow.lt R4.out) hb))
  have TX4 := Aside0.mk tt
  clear tt
  replace L0 := Aside0.mk (below_step L0.out hb)
  (try replace BG := Aside0.mk (blk_keep BG.out hb (blk_lt BG.out)))
  clear hb)
   | (
  (with_reducible refine gateI_ (some 122) ?_)
  refine goes_ Tryd.func19 (by kernel_rfl) rfl #[.agg #[.int .i64 v.f0, .int .i64 v.f1.f0, .int .i64 v.f1.f1, .string v.f2, .slice E4 v.f3.length e4, .slice E4' v.f4.length e4'], .slice Q4 path.length q4_, .agg #[.int .i64 u.f0, .int .i64 u.f1.f0, .int .i64 u.f1.f1, .string u.f2, .slice X4 u.f3.length x4, .slice X4' u.f4.length x4']] (by rfl) rfl rfl qGLawWs0_ ?_
  with_reducible refine (HI wa E4 e4 E4' e4' Q4 q4_ X4 x4 X4' x4' (T4.out.c4 HV.out) T4.out.l4 (T4.out.c5 HV.out) T4.out.l5 (R4.out.reads (Nat.le_trans HPL.out (by decide))) lq4 (TX4.out.c4 HU.out) TX4.out.l4 (TX4.out.c5 HU.out) TX4.out.l5 (LaidG.below (m := 15) (by decide) HG.out (below_step L.out L0.out))).mono ?_
  rintro e' wa ⟨z_, E5, e5, E5', e5', k5, k5', hz_, rfl, u4, u5, uV, uN, uD, hF, hb⟩
  obtain rfl : z = z_ := HZE.out.trans hz_.symm
  clear hz_
  refine ⟨_, rfl, hK.out _ _ (hSt _ _ hb hHeld) (fun hHeld => ?_)⟩
  clear hK K
  refine norm_ (a' := ?_) ?_ ?_
  rotate_left
  · show Act.put _ (some 122) _ = _
    simp only [Act.put, List.setIfInBounds_toArray, List.set_cons_zero, List.set_cons_succ, i64_w, i32_w]; rfl
  have T5 := Aside0.mk (TreeAt.mk u4 u5 uV uN uD)
  (try have F5 := Aside0.mk (show ∀ q ∈ k5 ++ k5', q ≠ g_ from fun q hq => by have := hF q hq; have := blk_lt BG.out; omega))
  replace L0 := Aside0.mk (below_step L0.out hb)
  clear u4 u5 uV uN uD hF
  (try replace BG := Aside0.mk (blk_keep BG.out hb (blk_lt BG.out)))
  clear hb)
   | (
  (with_reducible refine gateI_ (some 18) ?_)
  refine value_ (w1 := ?_) (v := ?_) (by rfl) rfl ?_ ?_
  rotate_left 2
  · go_simp
    constructor
    · rfl
    · rfl
  refine hK.out _ _ (hSt _ _ (below_alloc (Below.refl _ _) _) hHeld) (fun hHeld => ?_)
  clear hK K
  refine norm_ (a' := ?_) ?_ ?_
  rotate_left
  · show Act.put _ (some 18) _ = _
    simp only [Act.put, List.setIfInBounds_toArray, List.set_cons_zero, List.set_cons_succ, i64_w, i32_w]; rfl
  have BG := heap_alloc_new wa (.cells #[.int .i64 0, .int .i64 0, .int .i64 0, .string (⟨#[]⟩ : ByteArray), .slice none 0 0, .slice none 0 0] 28)
  have hb := below_alloc (Below.refl wa.heap.size wa) (.cells #[.int .i64 0, .int .i64 0, .int .i64 0, .string (⟨#[]⟩ : ByteArray), .slice none 0 0, .slice none 0 0] 28)
  obtain ⟨g_, hg⟩ : ∃ g, g = wa.heap.size := ⟨_, rfl⟩
  rw [← hg] at BG ⊢
  have hgl : g_ < (wa.alloc (.cells #[.int .i64 0, .int .i64 0, .int .i64 0, .string (⟨#[]⟩ : ByteArray), .slice none 0 0, .slice none 0 0] 28)).heap.size := blk_lt BG
  generalize wa.alloc (.cells #[.int .i64 0, .int .i64 0, .int .i64 0, .string (⟨#[]⟩ : ByteArray), .slice none 0 0, .slice none 0 0] 28) = wa at *
  replace BG := Aside0.mk BG
  (try replace T4 := Aside0.mk (T4.out.below hb))
  (try replace R4 := Aside0.mk (NRow.same R4.out (Same.below (NRow.lt R4.out) hb)))
  (try replace TX4 := Aside0.mk (TX4.out.below hb))
  (try have F5 := Aside0.mk (show ∀ q ∈ k5 ++ k5', q ≠ g_ from fun q hq => by have := TreeAt.lt T5.out q hq; omega))
  (try replace T5 := Aside0.mk (T5.out.below hb))
  have GW := Aside0.mk (show W0.heap.size ≤ g_ by have := L0.out.size; omega)
  replace L0 := Aside0.mk (below_step L0.out hb)
  clear hb))
 rintro ⟨t37, t39, t41, ⟨E5, e5, E5', e5'⟩, g18⟩ w12 ⟨⟨k5, k5', T5_, F5_⟩, B18_, G18_, hb⟩
 replace T5_ : TreeAt d w12 z E5 e5 E5' e5' k5 k5' := T5_
 replace F5_ : ∀ q ∈ k5 ++ k5', q ≠ g18 := F5_
 replace B18_ : w12.heap[g18]? = some (.cells #[.int .i64 0, .int .i64 0, .int .i64 0, .string (⟨#[]⟩ : ByteArray), .slice none 0 0, .slice none 0 0] 28 (0, 0)) := B18_
 replace G18_ : W0.heap.size ≤ g18 := G18_
 have T5 := Aside0.mk T5_
 have B18 := Aside0.mk B18_
 have F5 := Aside0.mk F5_
 have N18 := Aside0.mk (⟨by have := blk_lt B8.out; omega, (by have := blk_lt B13.out; omega), (by have := HI_.out; omega)⟩ : g8 < g18 ∧ g13 < g18 ∧ hi ≤ g18)
 have N19 := Aside0.mk (show ∀ q ∈ k2 ++ k2', q < g18 from fun q hq => by have := TreeAt.lt TM.out q hq; omega)
 have g18w := Aside0.mk (show w.heap.size ≤ g18 by have := L.out.size; omega)
 replace BA := Aside0.mk (blk_keep BA.out hb (blk_lt BA.out))
 replace L := Aside0.mk (below_step L.out hb)
 replace BB := Aside0.mk (blk_keep BB.out hb (blk_lt BB.out))
 replace B8 := Aside0.mk (blk_keep B8.out hb (blk_lt B8.out))
 replace RA := Aside0.mk (RA.out.below hb)
 replace B10 := Aside0.mk (blk_keep B10.out hb (blk_lt B10.out))
 replace B12 := Aside0.mk (blk_keep B12.out hb (blk_lt B12.out))
 replace B13 := Aside0.mk (blk_keep B13.out hb (blk_lt B13.out))
 replace TM := Aside0.mk (TM.out.below hb)
 replace HI_ := Aside0.mk (Nat.le_trans HI_.out hb.size)
 clear T5_ B18_ G18_ hb F5_ hSt
 refine norm_ (a' := ?_) ?_ ?_
 rotate_left
 ·simp only [putAll, Act.put, List.setIfInBounds_toArray, List.set_cons_zero, List.set_cons_succ]
  rfl
 obtain ⟨f0_, f1_, f2_, f3_, f4_, f5_, ze0, ze1, ze2, ze3, ze4, ze5⟩ := six_cells B18.out
 refine last_ (i := 11) (N := none) #[true, true, true, true, true, true, true, true, true, true, true, true, false] rfl rfl (by kernel_rfl) (by decide) (fun K hK => ?_)
 refine skip_ (w1 := ?_) (by rfl) rfl ?_ ?_
 rotate_left
 ·go_simp
  rfl
 refine hK.out _ _ ?_
 clear hK K
 refine pure_ (i := 12) (N := some 19) (v := ?_) (a' := ?_) #[true, true, true, true, true, true, true, true, true, true, true, true, true] rfl rfl (by kernel_rfl) (fun _ _ _ h => h) (Or.inl ⟨by rfl, ?_⟩) ?_ ?_
 rotate_left
 ·intro w'
  go_simp; with_reducible rfl
 rotate_left
 ·simp only [Act.put, List.setIfInBounds_toArray, List.set_cons_zero, List.set_cons_succ, i64_w, i32_w]; rfl
 refine done_ (by kernel_rfl) ?_
 have t5 := TreeAt.kept T5.out (six_kept w12 g18 (.int .i64 z.f0) (.int .i64 z.f1.f0) (.int .i64 z.f1.f1) (.string z.f2) (.slice E5 z.f3.length e5) (.slice E5' z.f4.length e5')) (fun q hq h => F5.out q hq h)
 have b18 := six_put (v0 := .int .i64 z.f0) (v1 := .int .i64 z.f1.f0) (v2 := .int .i64 z.f1.f1) (v3 := .string z.f2) (v4 := .slice E5 z.f3.length e5) (v5 := .slice E5' z.f4.length e5') B18.out
 have l18 := six_below (v0 := .int .i64 z.f0) (v1 := .int .i64 z.f1.f0) (v2 := .int .i64 z.f1.f1) (v3 := .string z.f2) (v4 := .slice E5 z.f3.length e5) (v5 := .slice E5' z.f4.length e5') L.out g18w.out
 have hk := six_kept w12 g18 (.int .i64 z.f0) (.int .i64 z.f1.f0) (.int .i64 z.f1.f1) (.string z.f2) (.slice E5 z.f3.length e5) (.slice E5' z.f4.length e5')
 clear f0_ f1_ f2_ f3_ f4_ f5_ ze0 ze1 ze2 ze3 ze4 ze5 hHeld
 generalize (((((w12.setCell ⟨g18, 0, none⟩ (.int .i64 z.f0)).setCell ⟨g18, 1, none⟩ (.int .i64 z.f1.f0)).setCell ⟨g18, 2, none⟩ (.int .i64 z.f1.f1)).setCell ⟨g18, 3, none⟩ (.string z.f2)).setCell ⟨g18, 4, none⟩ (.slice E5 z.f3.length e5)).setCell ⟨g18, 5, none⟩ (.slice E5' z.f4.length e5') = w13 at *
 replace HI_ := Aside0.mk (Nat.le_trans HI_.out hk.1)
 replace B8 := Aside0.mk (blk_kept B8.out hk (fun h => by have := N18.out; omega))
 replace RA := Aside0.mk (RA.out.kept hk (fun q h => by have := N18.out; omega))
 replace B13 := Aside0.mk (blk_kept B13.out hk (fun h => by have := N18.out; omega))
 replace TM := Aside0.mk (TM.out.kept hk (fun q hq h => by have := N19.out q hq; omega))
 replace T5 := Aside0.mk t5
 replace B18 := Aside0.mk b18
 replace L := Aside0.mk l18
 clear hk t5 b18 l18
 replace mk_ := Mk.mk (n := 20)
 obtain ⟨s0, s1, s2, s3, s4, s5, -⟩ := six_cells B18.out
 obtain ⟨p0, p1, p2, p3, p4, p5, -⟩ := six_cells B8.out
 go_wp2_with (first
  | (
  go_at_call 26
  have _st : Mk 20 := mk_
  refine (eqValue_v d z HZ.out _ E5 O4 e5 o4 E5' O5 e5' o5 (T5.out.c4 HZ.out) RA.out.c4_ T5.out.l4 RA.out.l4 (T5.out.c5 HZ.out) RA.out.c5_ T5.out.l5 RA.out.l5).mono ?_
  rintro e' wt ⟨rfl, hb⟩
  replace L := Aside0.mk (below_step L.out hb)
  replace B8 := Aside0.mk (blk_keep B8.out hb (blk_lt B8.out))
  replace RA := Aside0.mk (RA.out.below hb)
  replace B13 := Aside0.mk (blk_keep B13.out hb (blk_lt B13.out))
  replace TM := Aside0.mk (TM.out.below hb)
  replace B18 := Aside0.mk (blk_keep B18.out hb (blk_lt B18.out))
  replace T5 := Aside0.mk (T5.out.below hb)
  replace HI_ := Aside0.mk (Nat.le_trans HI_.out hb.size)
  clear hb
  clear s0 s1 s2 s3 s4 s5
  clear p0 p1 p2 p3 p4 p5
  obtain ⟨s0, s1, s2, s3, s4, s5, -⟩ := six_cells B13.out
  replace mk_ := Mk.mk (n := 21))
  | (
  go_at_call 28
  have _st : Mk 21 := mk_
  have hh := heldValue_v d z vm HZ.out _ E2 e2 E2' e2' k2 k2' TM.out M3.out M4.out MC.out MM.out MN.out
  rw [HM1.out] at hh
  refine hh.mono ?_
  rintro e' wt ⟨rfl, hb⟩
  replace L := Aside0.mk (below_step L.out hb)
  replace B8 := Aside0.mk (blk_keep B8.out hb (blk_lt B8.out))
  replace RA := Aside0.mk (RA.out.below hb)
  replace B13 := Aside0.mk (blk_keep B13.out hb (blk_lt B13.out))
  replace TM := Aside0.mk (TM.out.below hb)
  replace B18 := Aside0.mk (blk_keep B18.out hb (blk_lt B18.out))
  replace T5 := Aside0.mk (T5.out.below hb)
  replace HI_ := Aside0.mk (Nat.le_trans HI_.out hb.size)
  clear hb hh
  clear s0 s1 s2 s3 s4 s5
  replace mk_ := Mk.mk (n := 22)))
 go_ret
 exact ⟨rfl, L.out⟩
end Go.Proofs.YtebcepbamlokcaaDoor.Q
namespace Go.Proofs.YtebcepbamlokcaaDoor.Q
open Go.RowKit Go.Proofs.YtebcepbamlokcaaDoorW.PrintWords Go.Proofs.YtebcepbamlokcaaDoorW.PrintLast
set_option linter.unusedVariables false
set_option linter.unusedSimpArgs false

theorem lawW_much (d : Nat) (a : S45) (path : List ByteArray) (b : S45) (L1 L2 L3 : Int) (hl1 : lessW 1048576 (a.f2.size + vw d a.f3 + nw a.f4) = L1) (hl2 : lessW L1 (nw path) = L2) (hl3 : lessW L2 (b.f2.size + vw d b.f3 + nw b.f4) = L3)
    (h : decide (L1 < 0) = true ∨ (decide (L1 < 0) = false ∧ Aside0 (0 ≤ L1 ∧ L1 ≤ 1048576) ∧ decide (L2 < 0) = true) ∨ (decide (L1 < 0) = false ∧ Aside0 (0 ≤ L1 ∧ L1 ≤ 1048576) ∧ decide (L2 < 0) = false ∧ Aside0 (0 ≤ L2 ∧ L2 ≤ 1048576) ∧ decide (L3 < 0) = true))
    (hbd : a.f2.size ≤ 140737488351232 ∧ a.f4.length ≤ 140737488351232 ∧ (∀ s ∈ a.f4, s.size ≤ 140737488351232) ∧ Bnd d a.f3) (hpb : path.length ≤ 140737488351232 ∧ ∀ s ∈ path, s.size ≤ 140737488351232) (hbb : b.f2.size ≤ 140737488351232 ∧ b.f4.length ≤ 140737488351232 ∧ (∀ s ∈ b.f4, s.size ≤ 140737488351232) ∧ Bnd d b.f3)
    (w : World) (A4 : Option Addr) (c4 : Nat) (A5 : Option Addr) (c5 : Nat) (AP : Option Addr) (cP : Nat) (B4 : Option Addr) (b4 : Nat) (B5 : Option Addr) (b5 : Nat) (h4 : Kd.C k45 w A4 a.f3.length a.f3) (l4 : a.f3.length ≤ c4) (h5 : Kd.C Kd.string w A5 a.f4.length a.f4) (l5 : a.f4.length ≤ c5)
    (hp : Kd.C Kd.string w AP path.length path) (lp : path.length ≤ cP) (h6 : Kd.C k45 w B4 b.f3.length b.f3) (l6 : b.f3.length ≤ b4) (h7 : Kd.C Kd.string w B5 b.f4.length b.f4) (l7 : b.f4.length ≤ b5) :
    Calls Tryd.prog 9 #[.agg #[.int .i64 a.f0, .int .i64 a.f1.f0, .int .i64 a.f1.f1, .string a.f2, .slice A4 a.f3.length c4, .slice A5 a.f4.length c5], .slice AP path.length cP, .agg #[.int .i64 b.f0, .int .i64 b.f1.f0, .int .i64 b.f1.f1, .string b.f2, .slice B4 b.f3.length b4, .slice B5 b.f4.length b5]] w fun e w' => e = .returned (.bool true) ∧ Below w.heap.size w w' := by
  have H4 := Aside0.mk h4; have H5 := Aside0.mk h5; have HP := Aside0.mk hp; have H6 := Aside0.mk h6; have H7 := Aside0.mk h7
  have HB := Aside0.mk hbd; have HPB := Aside0.mk hpb; have HBB := Aside0.mk hbb
  have mk_ := Mk.mk (n := 0)
  clear h4 h5 hp h6 h7 hbd hpb hbb
  rcases h with d1 | ⟨d1, HL1, d2⟩ | ⟨d1, HL1, d2, HL2, d3⟩ <;> (
  go_enter Tryd.func9, Tryd.ntmps9
  go_wp2_with (first
    | ((with_reducible refine gate_dst (N := 3) rfl ?_); refine box_event ?hg (N := 3) ?hd (cs := #[.int .i64 a.f0, .int .i64 a.f1.f0, .int .i64 a.f1.f1, .string a.f2, .slice A4 a.f3.length c4, .slice A5 a.f4.length c5]) (t := 45) ?hr ?_; (case hd => rfl); (case hg => rfl); (case hr => first | (go_simp; done) | (go_simp; rfl))
       intro ga hg wk hbox hb
       have BA := Aside0.mk hbox
       have L := Aside0.mk hb
       clear hg hbox hb)
    | ((with_reducible refine gate_dst (N := 5) rfl ?_); refine box_event ?hg (N := 5) ?hd (cs := #[.int .i64 b.f0, .int .i64 b.f1.f0, .int .i64 b.f1.f1, .string b.f2, .slice B4 b.f3.length b4, .slice B5 b.f4.length b5]) (t := 45) ?hr ?_; (case hd => rfl); (case hg => rfl); (case hr => first | (go_simp; done) | (go_simp; rfl))
       intro gb hg wk hbox hb
       have BB := Aside0.mk hbox
       replace BA := Aside0.mk (blk_keep BA.out hb (blk_lt BA.out))
       replace L := Aside0.mk (below_step L.out hb)
       clear hg hbox hb
       obtain ⟨p0, p1, p2, p3, p4, p5, -⟩ := six_cells BA.out)
    | (go_at_call 22
       have _st : Mk 0 := mk_
       refine (szValue_of d (szValueS_calls d) _ a.f0 a.f1.f0 a.f1.f1 a.f2 A4 c4 a.f3 A5 c5 a.f4 1048576 (Kd.C_below H4.out L.out) l4 (Kd.C_below H5.out L.out) l5 (by decide) (by decide) HB.out.1 HB.out.2.1 HB.out.2.2.1 HB.out.2.2.2).mono ?_
       rintro e' wt ⟨rfl, hb⟩
       rw [hl1]
       replace BA := Aside0.mk (blk_keep BA.out hb (blk_lt BA.out))
       replace L := Aside0.mk (below_step L.out hb)
       replace BB := Aside0.mk (blk_keep BB.out hb (blk_lt BB.out))
       clear hb
       clear p0 p1 p2 p3 p4 p5
       replace mk_ := Mk.mk (n := 1))
    | (go_at_call 29
       have _st : Mk 1 := mk_
       refine (szStringS_calls _ AP cP path L1 (Kd.C_below HP.out L.out) lp HL1.out.1 HL1.out.2 HPB.out.1 HPB.out.2).mono ?_
       rintro e' wt ⟨rfl, hb⟩
       rw [hl2]
       replace BA := Aside0.mk (blk_keep BA.out hb (blk_lt BA.out))
       replace L := Aside0.mk (below_step L.out hb)
       replace BB := Aside0.mk (blk_keep BB.out hb (blk_lt BB.out))
       clear hb
       obtain ⟨q0, q1, q2, q3, q4, q5, -⟩ := six_cells BB.out
       replace mk_ := Mk.mk (n := 2))
    | (go_at_call 22
       have _st : Mk 2 := mk_
       refine (szValue_of d (szValueS_calls d) _ b.f0 b.f1.f0 b.f1.f1 b.f2 B4 b4 b.f3 B5 b5 b.f4 L2 (Kd.C_below H6.out L.out) l6 (Kd.C_below H7.out L.out) l7 HL2.out.1 HL2.out.2 HBB.out.1 HBB.out.2.1 HBB.out.2.2.1 HBB.out.2.2.2).mono ?_
       rintro e' wt ⟨rfl, hb⟩
       rw [hl3]
       replace BA := Aside0.mk (blk_keep BA.out hb (blk_lt BA.out))
       replace L := Aside0.mk (below_step L.out hb)
       replace BB := Aside0.mk (blk_keep BB.out hb (blk_lt BB.out))
       clear hb
       clear q0 q1 q2 q3 q4 q5
       replace mk_ := Mk.mk (n := 3)))
  go_ret
  exact ⟨rfl, L.out⟩)
end Go.Proofs.YtebcepbamlokcaaDoor.Q
namespace Go.Proofs.YtebcepbamlokcaaDoor.Q
open Go.RowKit Go.Proofs.YtebcepbamlokcaaDoorW.PrintWords Go.Proofs.YtebcepbamlokcaaDoorW.PrintLast
set_option linter.unusedVariables false
set_option linter.unusedSimpArgs false

theorem sizes_of (d n : Nat) (a : S45) (hb : Bnd d a.f3) (hW : a.f2.size + vw (d + n) a.f3 + nw a.f4 ≤ 1048576) : ∃ v, v = toV (toL (d + n)) a ∧ Sml d v ∧ szT d v ≤ 1099511627776 ∧ cnt d v.f3 + v.f4.length ≤ 1073741824 ∧ szT (d + n) v ≤ 1048577 ∧ cnt (d + n) v.f3 + v.f4.length ≤ 5242880 ∧ Fit45 (d + n) a.f3 ∧ a.f4.length ≤ 2097152 := by
  have h0 := vw_add d a.f3 n
  have h1 := nw_len a.f4
  have h2 : cnt (d + n) (toV (toL (d + n)) a).f3 ≤ 4 * vw (d + n) a.f3 := cnt_of (d + n) a.f3
  have h3 : (toV (toL (d + n)) a).f4.length ≤ nw a.f4 := nw_len a.f4
  have h4 := szT_of (d + n) a
  have h5 := fit45_of (d + n) a.f3 (Bnd.mono hb (Nat.le_add_right d n)) (by omega)
  refine ⟨_, rfl, ?_, ?_, ?_, by omega, by omega, h5, by omega⟩
  all_goals rw [toV_toL d n a hb]
  · exact sml_of d a hb (by omega)
  · have := szT_of d a; omega
  · have h6 : cnt d (toV (toL d) a).f3 ≤ 4 * vw d a.f3 := cnt_of d a.f3
    have h7 : (toV (toL d) a).f4.length ≤ nw a.f4 := nw_len a.f4
    omega
theorem lessW_or (left : Int) (n : Nat) (h : left ≤ 1048576) : lessW left n = -1 ∨ ((n : Int) ≤ left ∧ 0 ≤ lessW left n ∧ lessW left n ≤ 1048576) := by
  unfold lessW
  by_cases hn : (n : Int) ≤ left
  · rw [if_pos hn]; exact .inr ⟨hn, by omega, by omega⟩
  · rw [if_neg hn]; exact .inl rfl
theorem withC_all (d : Nat) (v u : S28) (path : List ByteArray) (hps : ∀ s ∈ path, s.size ≤ 281474976710656) (hs : Sml d v) (hz : szT d v ≤ 1099511627776) (hc : cnt d v.f3 + v.f4.length ≤ 1073741824) (hu : Sml d u) (huz : szT d u ≤ 1099511627776)
    (hyz : szT (d + path.length) (withT plP v path u) ≤ 1099511627776) (hyc : cnt (d + path.length) (withT plP v path u).f3 + (withT plP v path u).f4.length ≤ 1073741824) :
    ∃ res, FitV (d + path.length) (orZero res) ∧ ImplWithC (d + path.length) v path u res ∧ SpecWithC v path u res := by
  have hy := with_sml plP d u hu path v hs
  have hG0 : goodB d v = true → Gd d v := fun h => by
    unfold goodB at h
    rw [Bool.and_eq_true, Bool.and_eq_true] at h
    exact ⟨d, Nat.le_refl _, hs, h.1.1, hc⟩
  obtain ⟨K, hK⟩ := (((impl_good d v hs hz).and (spec_good d v hs hz)).and ((impl_good d u hu huz).and (spec_good d u hu huz))).and ((impl_good (d + path.length) _ hy hyz).and (spec_good (d + path.length) _ hy hyz))
  refine ⟨withRes plP (goodB d v) (goodB d u) (goodB (d + path.length) (withT plP v path u)) v path u, ?_, ?_, ?_⟩
  · unfold withRes
    split
    · exact ⟨hy.fit, hy.l4, hyc⟩
    · exact fit_zero _
  · have hk := hK K (Nat.le_refl _)
    exact implWith_calls (Gd d) d plP K _ _ _ v u path (fun _ => good_Gd d path) hG0 (fun _ => ⟨hu.fit, hu.l4⟩) hk.1.1.1 hk.1.2.1 (fun _ _ _ => ⟨hk.2.1, hy.fit, hy.l4⟩) (fun _ x hx s hm => impl_place_is x s (by obtain ⟨e, _, h, _⟩ := hx; exact Nat.le_trans h.l3 (by decide)) (by obtain ⟨e, _, h, _⟩ := hx; exact Nat.le_trans h.l4 (by decide)) (hps s hm))
  · have hk := hK (K + (d + 1) * 2097160 + 4194400) (by omega)
    exact specWith_calls (Gd d) d plP (K + (d + 1) * 2097160 + 4194400) _ _ _ v u path (fun _ => good_Gd d path) hG0 hk.1.1.2 hk.1.2.2 (fun _ _ _ => hk.2.2)
      (fun _ x hx s hm => by obtain ⟨e, _, h, ha, _⟩ := hx; exact spec_step_is x s (Nat.le_trans h.l3 (by decide)) (Nat.le_trans h.l4 (by decide)) (node_56 (allS_node ha)).2 _ (by have := h.l3; have := h.l4; omega))
      (fun _ x hx => by
        obtain ⟨e, he, h, ha, _⟩ := hx
        have : (e + 1) * 2097160 ≤ (d + 1) * 2097160 := Nat.mul_le_mul_right _ (by omega)
        exact copy_is e x h _ (by omega))
      (fun _ => copy_is d u hu _ (by omega))
theorem lawW_all (d : Nat) (a : S45) (path : List ByteArray) (b : S45)
    (hbd : a.f2.size ≤ 140737488351232 ∧ a.f4.length ≤ 140737488351232 ∧ (∀ s ∈ a.f4, s.size ≤ 140737488351232) ∧ Bnd d a.f3) (hpb : path.length ≤ 140737488351232 ∧ ∀ s ∈ path, s.size ≤ 140737488351232)
    (hbb : b.f2.size ≤ 140737488351232 ∧ b.f4.length ≤ 140737488351232 ∧ (∀ s ∈ b.f4, s.size ≤ 140737488351232) ∧ Bnd d b.f3)
    (w : World) (A4 : Option Addr) (c4 : Nat) (A5 : Option Addr) (c5 : Nat) (AP : Option Addr) (cP : Nat) (B4 : Option Addr) (b4 : Nat) (B5 : Option Addr) (b5 : Nat) (h4 : Kd.C k45 w A4 a.f3.length a.f3) (l4 : a.f3.length ≤ c4) (h5 : Kd.C Kd.string w A5 a.f4.length a.f4) (l5 : a.f4.length ≤ c5)
    (hp : Kd.C Kd.string w AP path.length path) (lp : path.length ≤ cP) (g4 : Kd.C k45 w B4 b.f3.length b.f3) (m4 : b.f3.length ≤ b4) (g5 : Kd.C Kd.string w B5 b.f4.length b.f4) (m5 : b.f4.length ≤ b5) (hG : LaidG 15 w) :
    Calls Tryd.prog 9 #[.agg #[.int .i64 a.f0, .int .i64 a.f1.f0, .int .i64 a.f1.f1, .string a.f2, .slice A4 a.f3.length c4, .slice A5 a.f4.length c5], .slice AP path.length cP, .agg #[.int .i64 b.f0, .int .i64 b.f1.f0, .int .i64 b.f1.f1, .string b.f2, .slice B4 b.f3.length b4, .slice B5 b.f4.length b5]] w fun e w' => e = .returned (.bool true) ∧ Below w.heap.size w w' := by
  have hA := hbd.2.2.2; have hB := hbb.2.2.2
  have hbd' : a.f2.size ≤ 140737488351232 ∧ a.f4.length ≤ 140737488351232 ∧ (∀ s ∈ a.f4, s.size ≤ 140737488351232) ∧ Bnd (d + path.length) a.f3 := ⟨hbd.1, hbd.2.1, hbd.2.2.1, Bnd.mono hA (Nat.le_add_right _ _)⟩
  have hbb' : b.f2.size ≤ 140737488351232 ∧ b.f4.length ≤ 140737488351232 ∧ (∀ s ∈ b.f4, s.size ≤ 140737488351232) ∧ Bnd (d + path.length) b.f3 := ⟨hbb.1, hbb.2.1, hbb.2.2.1, Bnd.mono hB (Nat.le_add_right _ _)⟩
  obtain ⟨L1, hl1⟩ : ∃ L, lessW 1048576 (a.f2.size + vw (d + path.length) a.f3 + nw a.f4) = L := ⟨_, rfl⟩
  obtain ⟨L2, hl2⟩ : ∃ L, lessW L1 (nw path) = L := ⟨_, rfl⟩
  obtain ⟨L3, hl3⟩ : ∃ L, lessW L2 (b.f2.size + vw (d + path.length) b.f3 + nw b.f4) = L := ⟨_, rfl⟩
  have much := fun h => lawW_much (d + path.length) a path b L1 L2 L3 hl1 hl2 hl3 h hbd' hpb hbb' w A4 c4 A5 c5 AP cP B4 b4 B5 b5 h4 l4 h5 l5 hp lp g4 m4 g5 m5
  rcases lessW_or 1048576 (a.f2.size + vw (d + path.length) a.f3 + nw a.f4) (by decide) with e1 | ⟨e1, e1a, e1b⟩
  · exact much (.inl (decide_eq_true (by rw [← hl1, e1]; decide)))
  rw [hl1] at e1a e1b
  rcases lessW_or L1 (nw path) e1b with e2 | ⟨e2, e2a, e2b⟩
  · exact much (.inr (.inl ⟨decide_eq_false (by omega), ⟨e1a, e1b⟩, decide_eq_true (by rw [← hl2, e2]; decide)⟩))
  rw [hl2] at e2a e2b
  rcases lessW_or L2 (b.f2.size + vw (d + path.length) b.f3 + nw b.f4) e2b with e3 | ⟨e3, e3a, e3b⟩
  · exact much (.inr (.inr ⟨decide_eq_false (by omega), ⟨e1a, e1b⟩, decide_eq_false (by omega), ⟨e2a, e2b⟩, decide_eq_true (by rw [← hl3, e3]; decide)⟩))
  rw [hl3] at e3a e3b
  clear much
  obtain ⟨v, hv, v1, v2, v3, v4, v5, v6, v7⟩ := sizes_of d path.length a hA (by omega)
  obtain ⟨u, hu, u1, u2, u3, u4, u5, u6, u7⟩ := sizes_of d path.length b hB (by omega)
  have hpl : path.length ≤ 2097152 := by have := nw_len path; omega
  have hps : ∀ s ∈ path, s.size ≤ 281474976710656 := fun s h => by have := nw_size h; omega
  have y1 := with_sz plP u path (d + path.length) v
  have y2 := with_cnt plP u path (d + path.length) v
  obtain ⟨res, hZ, hI, hS⟩ := withC_all d v u path hps v1 v2 v3 u1 u2 (by omega) (by omega)
  exact lawW_main (d + path.length) a path b v u (orZero res) res hv hu rfl L1 L2 L3 hl1 ⟨e1a, e1b⟩ hl2 ⟨e2a, e2b⟩ hl3 e3a hbd' hpb hbb' hpl ⟨v6, v7⟩ ⟨u6, u7⟩ ⟨Fit.mono d _ (Nat.le_add_right _ _) v1.fit, v1.l4, by omega⟩ ⟨Fit.mono d _ (Nat.le_add_right _ _) u1.fit, u1.l4, by omega⟩ hZ hI hS w A4 c4 A5 c5 AP cP B4 b4 B5 b5 h4 l4 h5 l5 hp lp g4 m4 g5 m5 hG
theorem lawW_row (d : Nat) (a : S45) (path : List ByteArray) (d' : Nat) (b : S45)
    (hbd : a.f2.size ≤ 140737488351232 ∧ a.f4.length ≤ 140737488351232 ∧ (∀ s ∈ a.f4, s.size ≤ 140737488351232) ∧ Bnd d a.f3) (hpb : path.length ≤ 140737488351232 ∧ ∀ s ∈ path, s.size ≤ 140737488351232)
    (hbb : b.f2.size ≤ 140737488351232 ∧ b.f4.length ≤ 140737488351232 ∧ (∀ s ∈ b.f4, s.size ≤ 140737488351232) ∧ Bnd d' b.f3)
    (w : World) (A4 : Option Addr) (c4 : Nat) (A5 : Option Addr) (c5 : Nat) (AP : Option Addr) (cP : Nat) (B4 : Option Addr) (b4 : Nat) (B5 : Option Addr) (b5 : Nat) (h4 : Kd.C k45 w A4 a.f3.length a.f3) (l4 : a.f3.length ≤ c4) (h5 : Kd.C Kd.string w A5 a.f4.length a.f4) (l5 : a.f4.length ≤ c5)
    (hp : Kd.C Kd.string w AP path.length path) (lp : path.length ≤ cP) (g4 : Kd.C k45 w B4 b.f3.length b.f3) (m4 : b.f3.length ≤ b4) (g5 : Kd.C Kd.string w B5 b.f4.length b.f4) (m5 : b.f4.length ≤ b5) (hG : LaidG 15 w) :
    Calls Tryd.prog 9 #[.agg #[.int .i64 a.f0, .int .i64 a.f1.f0, .int .i64 a.f1.f1, .string a.f2, .slice A4 a.f3.length c4, .slice A5 a.f4.length c5], .slice AP path.length cP, .agg #[.int .i64 b.f0, .int .i64 b.f1.f0, .int .i64 b.f1.f1, .string b.f2, .slice B4 b.f3.length b4, .slice B5 b.f4.length b5]] w fun e w' => e = .returned (.bool true) ∧ Below w.heap.size w w' :=
  lawW_all (d + d') a path b ⟨hbd.1, hbd.2.1, hbd.2.2.1, Bnd.mono hbd.2.2.2 (Nat.le_add_right _ _)⟩ hpb ⟨hbb.1, hbb.2.1, hbb.2.2.1, Bnd.mono hbb.2.2.2 (Nat.le_add_left _ _)⟩ w A4 c4 A5 c5 AP cP B4 b4 B5 b5 h4 l4 h5 l5 hp lp g4 m4 g5 m5 hG
end Go.Proofs.YtebcepbamlokcaaDoor.Q
namespace Go.Proofs.YtebcepbamlokcaaDoor.Q
open Go.RowKit Go.ChangeShapes Go.Proofs.YtebcepbamlokcaaDoorW.PrintWords
set_option linter.unusedVariables false

theorem gPow : Tryd.prog.globalNamed "internal/strconv.uint64pow10" = some 4 := by kernel_rfl
theorem gPowType : (Tryd.prog.globals[4]?).map (·.type) = some 166 := by kernel_rfl
theorem cellsU64 : Tryd.prog.cellsOf 135 = 1 := by kernel_rfl
theorem cellsPow : Tryd.prog.cellsOf 166 = 20 := by kernel_rfl
theorem gWords : Tryd.prog.globalNamed "loop.example/chancery/impl.words" = some 0 := by kernel_rfl
theorem gWordsType : (Tryd.prog.globals[0]?).map (·.type) = some 26 := by kernel_rfl
theorem strs_inj {H : Type} : ∀ {a b : List ByteArray}, strs (H := H) a = strs b → a = b
  | [], [], _ => rfl
  | [], _ :: _, h => by simp [strs] at h
  | _ :: _, [], h => by simp [strs] at h
  | x :: a, y :: b, h => by
    unfold strs at h
    rw [List.map_cons, List.map_cons] at h
    injection h with h1 h2
    injection h1 with h1
    injection h1 with h1
    rw [strs_inj (H := H) h2]
    congr 1
    cases x; cases y
    congr 1
    exact Array.toList_inj.1 h1
theorem words_of_head {rest : List (String × DataW Unit)} {W : World} (h : laidMet Tryd.prog (("loop.example/chancery/impl.words", Rows.laid_loop_example_chancery_impl_words) :: rest) W) : WordsAt W := by
  obtain ⟨ps, ⟨g', t', cs, fuel, p, q, hg', ht', hvar, hd, _, _⟩, _⟩ := h
  obtain rfl := Option.some.inj (gWords.symm.trans hg')
  obtain rfl := Option.some.inj (gWordsType.symm.trans ht')
  rcases open_strings Tryd.underlying26 Tryd.underlying9 (by kernel_rfl) hd with ⟨_, hx⟩ | ⟨a, len, cap, ss, hcs, _, hl, hm, hz, hx, hcell, hsz⟩
  · exact absurd (congrArg Prod.fst hx) (by unfold Rows.laid_loop_example_chancery_impl_words; simp)
  · have hz' : ss.length = cap := by simpa using hz
    have hw : Rows.laid_loop_example_chancery_impl_words (H := Unit) = DataW.slice (strs wordsL) (strs []) := rfl
    have hx' := congrArg Prod.fst hx
    rw [hw] at hx'
    injection hx' with h1 h2
    have e1 := strs_inj h1
    have hlen : len = 15 := by
      have := congrArg List.length e1
      rw [List.length_take] at this
      have h15 : wordsL.length = 15 := rfl
      omega
    subst hlen
    have hc : W.cell? ⟨0, 0, none⟩ = some (.slice (some a) 15 cap) := by
      rw [World.var?_cell gWords hvar 0, ← Array.getElem?_toList, hcs]; rfl
    refine ⟨a, cap, hc, hl, rfl, by decide, fun _ => ⟨a, rfl, fun j s hj => ⟨[.string s], rfl, rfl, fun i u hu => ?_⟩⟩⟩
    have hi : i = 0 := by
      rcases i with _ | i
      · rfl
      · simp at hu
    subst hi
    have hjl : j < 15 := by have h15 : wordsL.length = 15 := rfl
                            have := (List.getElem?_eq_some_iff.1 hj).1; omega
    have hcj := hcell j (by omega)
    have hp : ss.getD j ByteArray.empty = s := by
      rw [e1, List.getElem?_take_of_lt hjl] at hj
      rw [List.getD_eq_getElem?_getD, hj]; rfl
    rw [hp] at hcj
    have hu' : u = .string s := by simpa using hu.symm
    rw [hu']
    show W.cell? (a.add (j * 1 + 0)) = _
    rw [Nat.mul_one, Nat.add_zero]; exact hcj
theorem iface_of_head {rest : List (String × DataW Unit)} {W : World} {n nm : String} {d : DataW Unit} {g ti : Nat} {ms : Array (String × TypeId)} (h : laidMet Tryd.prog ((n, .iface nm d) :: rest) W)
    (hg : Tryd.prog.globalNamed n = some g) (ht : (Tryd.prog.globals[g]?).map (·.type) = some ti) (hi : Tryd.prog.underlying ti = some (.interface ms)) : ∃ te pe, W.cell? ⟨g, 0, none⟩ = some (.iface te pe) := by
  obtain ⟨ps, ⟨g', t', cs, fuel, p, q, hg', ht', hvar, hd, _, _⟩, _⟩ := h
  obtain rfl := Option.some.inj (hg.symm.trans hg')
  obtain rfl := Option.some.inj (ht.symm.trans ht')
  obtain ⟨f1, u, v, hcs, hn, h1⟩ := iface_of_trod hi hd
  exact ⟨u, v, by rw [World.var?_cell hg hvar 0, ← Array.getElem?_toList, hcs]; rfl⟩
theorem gErr0 : Tryd.prog.globalNamed "strconv.ErrRange" = some 3 := by kernel_rfl
theorem gErr1 : Tryd.prog.globalNamed "strconv.ErrSyntax" = some 2 := by kernel_rfl
theorem laid_value {W : World} (h : laidMetH Tryd.prog Rows.fnExactValueAtRow.laid W) (hs : W.ShapedOpen Tryd.prog) : LaidG 15 W := by
  have h' : laidMet Tryd.prog Rows.fnExactValueAtRow.laid W := h
  have h3 := h'.tail.tail
  have h4 := h3.tail
  have h5 := h4.tail
  have h6 := h5.tail
  have e0 := iface_of_head h4 gErr0 (ti := 92) (by kernel_rfl) Tryd.underlying92
  have e1 := iface_of_head h5 gErr1 (ti := 92) (by kernel_rfl) Tryd.underlying92
  exact LaidG.of_at ⟨hs, fun _ => Lib.tabIs_of_head gPow gPowType Tryd.underlying166 Tryd.underlying135 cellsU64 cellsPow h3, fun _ => words_of_head h6, fun _ => ⟨by first | exact e0 | exact e1, by first | exact e1 | exact e0⟩⟩
theorem vars_back {H : Type} {enc : TypeId × Value → H} {W W' : World} {gs : List (DataW H)} {ps : List MemPlace} (bel : Below W.heap.size W W') (hl : laidOutB Tryd.prog = true) (h : DataW.TrodVars enc Tryd.prog W (fun _ => true) ["loop.example/chancery/impl.words"] gs ps) :
    ∃ g0, gs = [g0] ∧ DataW.TrodVars enc Tryd.prog W' (fun b => decide (b < W.heap.size)) ["loop.example/chancery/impl.words"] gs ps := by
  have hb := bel.trodVars hl (by kernel_rfl) h
  match gs, h, hb with
  | [], h, _ => exact h.elim
  | [g0], _, hb => exact ⟨g0, rfl, hb⟩
  | _ :: _ :: _, h, _ =>
    obtain ⟨_, _, _, _, _, _, _, _, _, _, h, _⟩ := h
    exact h.elim
end Go.Proofs.YtebcepbamlokcaaDoor.Q
