/- GMark, GMarkV, GHeld, GLawPre, GLaw, PlainAll, GOpen, GRowV -/
import Derived.Deep.Slices
import Derived.SliceStrings
import Derived.Deep.Strs
import Derived.Lib.SmallJoins
import Derived.SizedLaws
import Derived.Test.YtebcepbamlokcaaDoorRows
import Derived.Stop.LaidErr
import Derived.OpenVars
import Derived.ChangeVars
import Derived.Test.YtebcepbamlokcaaDoorBAt2
namespace Go.Proofs.YtebcepbamlokcaaDoor.Q
open Go.RowKit Go.Proofs.YtebcepbamlokcaaDoorW.PrintWords Go.Proofs.YtebcepbamlokcaaDoorW.PrintLast Go.Proofs.YtebcepbamlokcaaDoorW.PrintMore
set_option linter.unusedVariables false
set_option linter.unusedSimpArgs false

/-- The text of a mark. -/
def MT (k : Int) : ByteArray := (laws_markText.f 40 k).getD ⟨#[]⟩
theorem w64' {n : Int} (h0 : -9223372036854775808 ≤ n) (h1 : n ≤ 9223372036854775807) : wrap64 n = n := by unfold wrap64; omega
theorem markText_l0 : ∀ (j : Nat) (k : Int) (x : ByteArray), 0 ≤ k → k < 10 ^ j → j ≤ 13 → x.size + j ≤ 100 → ∀ n, j < n → ∃ r, laws_markText.l0 n k x = some r
  | 0, k, x, h0, h1, _, hx, n, hn => by
    obtain ⟨n, rfl⟩ : ∃ m, n = m + 1 := ⟨n - 1, by omega⟩
    have hk : ¬ k > 0 := by simp at h1; omega
    simp only [laws_markText.l0]
    rw [if_neg hk, if_pos (by omega)]
    exact ⟨_, rfl⟩
  | j + 1, k, x, h0, h1, hj, hx, n, hn => by
    obtain ⟨n, rfl⟩ : ∃ m, n = m + 1 := ⟨n - 1, by omega⟩
    simp only [laws_markText.l0]
    by_cases hk : k > 0
    · rw [if_pos hk]
      simp only [Option.bind_some]
      have hs : (strOfNums ([(wrap64 (48 + (Int.tmod k 10))) % 256] : List Int)).size = 1 := by simp [strOfNums, ByteArray.size]
      rw [hs, if_pos (by omega)]
      have hd : Int.tdiv k 10 = k / 10 := Int.tdiv_eq_ediv_of_nonneg h0
      have hp : (10 : Int) ^ j ≤ 10 ^ 12 := by
        have := Nat.pow_le_pow_right (n := 10) (by omega) (show j ≤ 12 by omega)
        exact_mod_cast this
      have hb : k < 10 ^ 13 := by
        have : (10 : Int) ^ (j + 1) ≤ 10 ^ 13 := by rw [Int.pow_succ]; omega
        omega
      rw [hd, w64' (by omega) (by omega)]
      refine markText_l0 j (k / 10) _ (by omega) ?_ (by omega) (by rw [ByteArray.size_append, hs]; omega) n (by omega)
      rw [Int.pow_succ] at h1
      omega
    · rw [if_neg hk, if_pos (by omega)]
      exact ⟨_, rfl⟩
theorem markText_f (k : Int) (h : k ≤ 1099511627776) : laws_markText.f 40 k = some (MT k) := by
  unfold MT
  by_cases hk : k ≤ 0
  · unfold laws_markText.f; rw [if_pos hk]; rfl
  · obtain ⟨r, hr⟩ := markText_l0 13 k ⟨#[]⟩ (by omega) (by omega) (by omega) (by decide) 40 (by omega)
    have : laws_markText.f 40 k = some r := by unfold laws_markText.f; rw [if_neg hk]; exact hr
    rw [this]; rfl
theorem markText_calls (k : Int) (w : World) (h : k ≤ 1099511627776) : Calls Tryd.prog 74 #[.int .i64 k] w fun e w' => e = .returned (.string (MT k)) ∧ Below w.heap.size w w' :=
  laws_markText.calls 40 k _ w (markText_f k h)

def NMarks (ns : List ByteArray) (k : Int) : Prop := ∀ (j : Nat) (s : ByteArray), ns[j]? = some s → s = MT (k + j)

set_option maxHeartbeats 1000000 in
theorem markStringS_calls (w0 w : World) (A : Option Addr) (c : Nat) (ns : List ByteArray) (fp : List Nat) (k : Int) (hr : NRow w A ns fp) (hc : ns.length ≤ c) (h0 : 0 ≤ k) (h1 : k + ns.length ≤ 1099511627776)
    (hB : Below w0.heap.size w0 w) (hfp : ∀ b ∈ fp, w0.heap.size ≤ b) :
    Calls Tryd.prog 32 #[.slice A ns.length c, .int .i64 k] w fun e w' =>
      e = .returned (.int .i64 (k + ns.length)) ∧ (∃ ns', NRow w' A ns' fp ∧ ns'.length = ns.length ∧ NMarks ns' k) ∧ Below w0.heap.size w0 w' ∧ Kept w w' (fun b => b ∈ fp) := by
  go_enter Tryd.func32, Tryd.ntmps32
  go_wp2
  go_loopg [1, 5] ns.length (fun kq v1 v5 w' => ∃ (x1 x5 : Int) (cur : List ByteArray), v1 = .int .i64 x1 ∧ v5 = .int .i64 x5 ∧ Aside0 (x1 = k + x5) ∧ Aside0 (0 ≤ x5 ∧ x5 + kq = ns.length) ∧ Aside0 (NRow w' A cur fp) ∧ Aside0 (cur.length = ns.length) ∧
    Aside0 (∀ (j : Nat) (s : ByteArray), (j : Int) < x5 → cur[j]? = some s → s = MT (k + j)) ∧ Aside0 (Below w0.heap.size w0 w') ∧ Aside0 (Kept w w' (fun b => b ∈ fp)))
  case atStart => exact ⟨k, 0, ns, rfl, rfl, ⟨by omega⟩, ⟨by omega⟩, ⟨hr⟩, ⟨rfl⟩, ⟨fun j s hj _ => by omega⟩, ⟨hB⟩, ⟨Kept.refl _ _⟩⟩
  case round =>
    obtain ⟨x1, x5, cur, rfl, rfl, hx, hk, hn, hl, hm, hb, hkk⟩ := hrel
    cases gk with
    | zero =>
      have hd : decide (x5 < (ns.length : Int)) = false := decide_eq_false (by have := hk.out; omega)
      go_wp2
      go_ret
      have hx5 : x1 = k + ns.length := by have := hk.out; have := hx.out; omega
      refine ⟨by rw [← hx5]; rfl, ⟨cur, hn.out, hl.out, fun j s hj => hm.out j s (by have := (List.getElem?_eq_some_iff.1 hj).1; have := hl.out; have := hk.out; omega) hj⟩, hb.out, hkk.out⟩
    | succ k1 =>
      have hd : decide (x5 < (ns.length : Int)) = true := decide_eq_true (by have := hk.out; omega)
      have hp : (0 ≤ x5) = True := eq_true (by have := hk.out; omega)
      have hq : (x5 < (ns.length : Int)) = True := eq_true (by have := hk.out; omega)
      obtain ⟨b, rfl, hfb, hbl, hcell, hfro⟩ := hn.out.cell x5 (by have := hk.out; omega) (by have := hk.out; have := hl.out; omega)
      have HK := Aside0.mk hk.out
      clear hk
      go_wp2_with (go_at_call 74; refine (markText_calls x1 _ (by have := hx.out; have := HK.out; omega)).mono ?_; rintro e' w2 ⟨rfl, hb2⟩; have hcell2 := (hb2.cell hbl).trans hcell; have hfro2 : w2.frozen? ⟨b, x5.toNat, none⟩ = false := (fro_same (hb2.block b hbl) _).trans hfro)
      go_roundg k1
      case measure => omega
      case rel =>
        have hb2' := hb2.block b hbl
        have hn2 := hn.out.same (Same.below hn.out.lt hb2)
        have hx1 := hx.out
        have hk1 := HK.out
        have hl1 := hl.out
        have hge : w0.heap.size ≤ b := hfp b (by rw [hfb]; exact List.mem_singleton_self b)
        refine ⟨wrap64 (x1 + 1), wrap64 (x5 + 1), cur.set x5.toNat (MT x1), rfl, rfl, ⟨by rw [w64' (by omega) (by omega), w64' (by omega) (by omega)]; omega⟩, ⟨by rw [w64' (by omega) (by omega)]; omega⟩, ⟨hn2.put (by omega) _ _⟩, ⟨by rw [List.length_set]; exact hl1⟩,
          ⟨fun j s hj hs => ?_⟩, ⟨Below.setCell (below_step hb.out hb2) hge _⟩, ⟨(hkk.out.below hb2).setCell (.inl (by rw [hfb]; exact List.mem_singleton_self b)) _⟩⟩
        rw [w64' (by omega) (by omega)] at hj
        by_cases hji : j = x5.toNat
        · subst hji
          rw [List.getElem?_set_self (by omega)] at hs
          rw [← Option.some.inj hs, hx1]; congr 2; omega
        · rw [List.getElem?_set_ne (fun e => hji e.symm)] at hs
          exact hm.out j s (by omega) hs
end Go.Proofs.YtebcepbamlokcaaDoor.Q
namespace Go.Proofs.YtebcepbamlokcaaDoor.Q
open Go.RowKit Go.Proofs.YtebcepbamlokcaaDoorW.PrintWords Go.Proofs.YtebcepbamlokcaaDoorW.PrintLast Go.Proofs.YtebcepbamlokcaaDoorW.PrintMore
set_option linter.unusedVariables false
set_option linter.unusedSimpArgs false

def cntI (c : List S28 → Nat) (x : S28) : Nat := 4 + c x.f3 + x.f4.length
theorem len_le_cnt (c : List S28 → Nat) : ∀ xs : List S28, xs.length ≤ (xs.map (cntI c)).sum
  | [] => Nat.le_refl _
  | x :: r => by have := len_le_cnt c r; simp only [List.length_cons, List.map_cons, List.sum_cons, cntI] at this ⊢; omega
/-- How many marks a row takes. -/
def cnt : Nat → List S28 → Nat
  | 0, _ => 0
  | d + 1, xs => (xs.map (cntI (cnt d))).sum
def MItem (M : List S28 → Int → Prop) (c : List S28 → Nat) (x : S28) (k : Int) : Prop :=
  x.f0 = k ∧ x.f1.f0 = k + 1 ∧ x.f1.f1 = k + 2 ∧ x.f2 = MT (k + 3) ∧ M x.f3 (k + 4) ∧ NMarks x.f4 (k + 4 + (c x.f3 : Nat))
/-- A row whose marks begin at k. -/
def Marks : Nat → List S28 → Int → Prop
  | 0, _, _ => True
  | d + 1, xs, k => ∀ (i : Nat) (x : S28), xs[i]? = some x → MItem (Marks d) (cnt d) x (k + (((xs.map (cntI (cnt d))).take i).sum : Nat))

theorem take_sum_succ (l : List Nat) (i : Nat) (a : Nat) (h : l[i]? = some a) : (l.take (i + 1)).sum = (l.take i).sum + a := by
  rw [List.take_add_one, h]; simp
theorem take_sum_le (l : List Nat) : ∀ i, (l.take i).sum ≤ l.sum := by
  intro i
  have := List.take_append_drop i l
  have h2 : (l.take i ++ l.drop i).sum = l.sum := by rw [this]
  rw [List.sum_append] at h2
  omega

theorem VItem.cells {R : World → Option Addr → List S28 → List Nat → Prop} {w : World} {b o : Nat} {cs : Array Value} {x : S28} {f : List Nat} (hb : w.heap[b]? = some (.cells cs 28 (0, 0))) (h : VItem R w (fun j => cs[j]?) o x f) :
    ∃ A4 c4 A5 c5 f4 f5, f = f4 ++ f5 ∧ w.cell? ⟨b, o, none⟩ = some (.int .i64 x.f0) ∧ w.cell? ⟨b, o + 1, none⟩ = some (.int .i64 x.f1.f0) ∧ w.cell? ⟨b, o + 2, none⟩ = some (.int .i64 x.f1.f1) ∧ w.cell? ⟨b, o + 3, none⟩ = some (.string x.f2) ∧
      w.cell? ⟨b, o + 4, none⟩ = some (.slice A4 x.f3.length c4) ∧ w.cell? ⟨b, o + 5, none⟩ = some (.slice A5 x.f4.length c5) ∧ x.f3.length ≤ c4 ∧ x.f4.length ≤ c5 ∧ R w A4 x.f3 f4 ∧ NRow w A5 x.f4 f5 := by
  obtain ⟨A4, c4, A5, c5, f4, f5, hf, h0, h1, h2, h3, h4, h5, l4, l5, r4, r5⟩ := h
  exact ⟨A4, c4, A5, c5, f4, f5, hf, (blk_cell hb _).trans h0, (blk_cell hb _).trans h1, (blk_cell hb _).trans h2, (blk_cell hb _).trans h3, (blk_cell hb _).trans h4, (blk_cell hb _).trans h5, l4, l5, r4, r5⟩

/-- Three cells of a block are written, and something new is made. -/
theorem put3 {w0 wr w2 : World} {b o : Nat} {cs : Array Value} {v0 v1 v2 : Value} (hbk : wr.heap[b]? = some (.cells cs 28 (0, 0)))
    (hb2 : Below (((wr.setCell ⟨b, o, none⟩ v0).setCell ⟨b, o + 1, none⟩ v1).setCell ⟨b, o + 1 + 1, none⟩ v2).heap.size (((wr.setCell ⟨b, o, none⟩ v0).setCell ⟨b, o + 1, none⟩ v1).setCell ⟨b, o + 1 + 1, none⟩ v2) w2)
    (hs : o + 6 ≤ cs.size) (hB : Below w0.heap.size w0 wr) (hge : w0.heap.size ≤ b) :
    ∃ cs3, w2.heap[b]? = some (.cells cs3 28 (0, 0)) ∧ cs3.size = cs.size ∧ cs3[o]? = some v0 ∧ cs3[o + 1]? = some v1 ∧ cs3[o + 2]? = some v2 ∧ (∀ j, (j < o ∨ o + 3 ≤ j) → cs3[j]? = cs[j]?) ∧ Kept wr w2 (fun q => q = b) ∧ Below w0.heap.size w0 w2 := by
  have k1 := (Kept.refl wr (fun q => q = b)).setCell (p := ⟨b, o, none⟩) (.inl rfl) v0
  have k2 := k1.setCell (p := ⟨b, o + 1, none⟩) (.inl rfl) v1
  have k3 := k2.setCell (p := ⟨b, o + 1 + 1, none⟩) (.inl rfl) v2
  have b1 := Below.setCell (p := ⟨b, o, none⟩) hB hge v0
  have b2 := Below.setCell (p := ⟨b, o + 1, none⟩) b1 hge v1
  have b3 := Below.setCell (p := ⟨b, o + 1 + 1, none⟩) b2 hge v2
  have h3 := blk_set (blk_set (blk_set hbk o v0) (o + 1) v1) (o + 1 + 1) v2
  refine ⟨_, (hb2.block b (blk_lt h3)).trans h3, by simp, ?_, ?_, ?_, fun j hj => ?_, Kept.below k3 hb2, below_step b3 hb2⟩
  · rw [Array.getElem?_setIfInBounds_ne (by omega), Array.getElem?_setIfInBounds_ne (by omega), Array.getElem?_setIfInBounds_self_of_lt (by omega)]
  · rw [Array.getElem?_setIfInBounds_ne (by omega), Array.getElem?_setIfInBounds_self_of_lt (by rw [Array.size_setIfInBounds]; omega)]
  · exact Array.getElem?_setIfInBounds_self_of_lt (by rw [Array.size_setIfInBounds, Array.size_setIfInBounds]; omega)
  · rw [Array.getElem?_setIfInBounds_ne (by omega), Array.getElem?_setIfInBounds_ne (by omega), Array.getElem?_setIfInBounds_ne (by omega)]
theorem put1 {w0 wr w2 : World} {b o : Nat} {cs : Array Value} {v : Value} (hbk : w2.heap[b]? = some (.cells cs 28 (0, 0))) (hs : o < cs.size) (hK : Kept wr w2 (fun q => q = b)) (hB : Below w0.heap.size w0 w2) (hge : w0.heap.size ≤ b) :
    ∃ cs3, (w2.setCell ⟨b, o, none⟩ v).heap[b]? = some (.cells cs3 28 (0, 0)) ∧ cs3.size = cs.size ∧ cs3[o]? = some v ∧ (∀ j, j ≠ o → cs3[j]? = cs[j]?) ∧ Kept wr (w2.setCell ⟨b, o, none⟩ v) (fun q => q = b) ∧ Below w0.heap.size w0 (w2.setCell ⟨b, o, none⟩ v) :=
  ⟨_, blk_set hbk o v, by simp, Array.getElem?_setIfInBounds_self_of_lt hs, fun j hj => Array.getElem?_setIfInBounds_ne (by omega), hK.setCell (p := ⟨b, o, none⟩) (.inl rfl) v, Below.setCell (p := ⟨b, o, none⟩) hB hge v⟩

abbrev MarkC (d : Nat) : Prop := ∀ (w0 w : World) (A : Option Addr) (c : Nat) (xs : List S28) (fp : List Nat) (k : Int), VRow d w A xs fp → fp.Nodup → xs.length ≤ c → 0 ≤ k → k + (cnt d xs : Nat) ≤ 1099511627776 →
    Below w0.heap.size w0 w → (∀ b ∈ fp, w0.heap.size ≤ b) →
    Calls Tryd.prog 71 #[.slice A xs.length c, .int .i64 k] w fun e w' =>
      e = .returned (.int .i64 (k + (cnt d xs : Nat))) ∧ (∃ xs', VRow d w' A xs' fp ∧ xs'.length = xs.length ∧ cnt d xs' = cnt d xs ∧ Marks d xs' k) ∧ Below w0.heap.size w0 w' ∧ Kept w w' (fun b => b ∈ fp)

set_option maxHeartbeats 1000000 in
theorem markValueS_succ (d : Nat) (w0 w : World) (A : Option Addr) (c : Nat) (xs : List S28) (fp : List Nat) (k : Int) (ih : 0 < xs.length → MarkC d) (hr : VRow (d + 1) w A xs fp) (hnd : fp.Nodup) (hc : xs.length ≤ c) (h0 : 0 ≤ k) (h1 : k + (cnt (d + 1) xs : Nat) ≤ 1099511627776)
    (hB : Below w0.heap.size w0 w) (hfp : ∀ b ∈ fp, w0.heap.size ≤ b) :
    Calls Tryd.prog 71 #[.slice A xs.length c, .int .i64 k] w fun e w' =>
      e = .returned (.int .i64 (k + (cnt (d + 1) xs : Nat))) ∧ (∃ xs', VRow (d + 1) w' A xs' fp ∧ xs'.length = xs.length ∧ cnt (d + 1) xs' = cnt (d + 1) xs ∧ Marks (d + 1) xs' k) ∧ Below w0.heap.size w0 w' ∧ Kept w w' (fun b => b ∈ fp) := by
  have hcs : ((xs.map (cntI (cnt d))).sum : Nat) = cnt (d + 1) xs := rfl
  have H1 := Aside0.mk h1
  clear h1
  go_enter Tryd.func71, Tryd.ntmps71
  go_wp2
  go_loopg [1, 5] xs.length (fun kq v1 v5 w' => ∃ (x1 x5 : Int) (cur : List S28), v1 = .int .i64 x1 ∧ v5 = .int .i64 x5 ∧ Aside0 (x1 = k + (((xs.map (cntI (cnt d))).take x5.toNat).sum : Nat)) ∧ Aside0 (0 ≤ x5 ∧ x5 + kq = xs.length) ∧ Aside0 (VRow (d + 1) w' A cur fp) ∧ Aside0 (cur.map (cntI (cnt d)) = xs.map (cntI (cnt d))) ∧
    Aside0 (∀ (j : Nat) (x : S28), (j : Int) < x5 → cur[j]? = some x → MItem (Marks d) (cnt d) x (k + (((xs.map (cntI (cnt d))).take j).sum : Nat))) ∧ Aside0 (Below w0.heap.size w0 w') ∧ Aside0 (Kept w w' (fun b => b ∈ fp)))
  case atStart => exact ⟨k, 0, xs, rfl, rfl, ⟨by simp⟩, ⟨by omega⟩, ⟨hr⟩, ⟨rfl⟩, ⟨fun j s hj _ => by omega⟩, ⟨hB⟩, ⟨Kept.refl _ _⟩⟩
  case round =>
    obtain ⟨x1, x5, cur, rfl, rfl, hx, hk, hn, hl, hm, hb, hkk⟩ := hrel
    have hlen : cur.length = xs.length := by simpa using congrArg List.length hl.out
    cases gk with
    | zero =>
      have hd : decide (x5 < (xs.length : Int)) = false := decide_eq_false (by have := hk.out; omega)
      go_wp2
      go_ret
      have hx5 : x1 = k + (cnt (d + 1) xs : Nat) := by
        have h2 := hx.out
        rw [List.take_of_length_le (by rw [List.length_map]; have := hk.out; omega)] at h2
        exact h2
      refine ⟨by rw [← hx5]; rfl, ⟨cur, hn.out, hlen, congrArg List.sum hl.out, fun j x hj => ?_⟩, hb.out, hkk.out⟩
      rw [hl.out]
      exact hm.out j x (by have := (List.getElem?_eq_some_iff.1 hj).1; have := hk.out; omega) hj
    | succ k1 =>
      have HK := Aside0.mk hk.out
      clear hk
      have hd : decide (x5 < (xs.length : Int)) = true := decide_eq_true (by have := HK.out; omega)
      have hp : (0 ≤ x5) = True := eq_true (by have := HK.out; omega)
      have hq : (x5 < (xs.length : Int)) = True := eq_true (by have := HK.out; omega)
      have hi : x5.toNat < cur.length := by have := HK.out; omega
      rcases hn.out with ⟨h, _⟩ | ⟨b, cs, fps, rfl, hfe, hbk, hcl, hfl, hit⟩
      · rw [h] at hi; simp at hi
      have hcx := List.getElem?_eq_getElem hi
      have hfx := List.getElem?_eq_getElem (show x5.toNat < fps.length by omega)
      generalize cur[x5.toNat] = x at hcx
      generalize fps[x5.toNat]'(show x5.toNat < fps.length by omega) = f at hfx
      obtain ⟨A4, c4, A5, c5, f4, f5, rfl, g0, g1, g2, g3, g4, g5, l4, l5, r4, r5⟩ := VItem.cells hbk (hit x5.toNat x f hcx hfx)
      have z0 := blk_frozen hbk (x5.toNat * 6)
      have z1 := blk_frozen hbk (x5.toNat * 6 + 1)
      have z2 := blk_frozen hbk (x5.toNat * 6 + 2)
      have hblt := blk_lt hbk
      have hsz : x5.toNat * 6 + 6 ≤ cs.size := by omega
      -- the blocks are different
      rw [hfe] at hnd
      have hbn : b ∉ fps.flatten := (List.nodup_cons.1 hnd).1
      have hndf : fps.flatten.Nodup := (List.nodup_cons.1 hnd).2
      have hfm : f4 ++ f5 ∈ fps := List.mem_of_getElem? hfx
      have hnd45 : (f4 ++ f5).Nodup := (List.pairwise_flatten.1 hndf).1 _ hfm
      have hin4 : ∀ q ∈ f4, q ∈ fps.flatten := fun q hq => List.mem_flatten.2 ⟨_, hfm, List.mem_append_left _ hq⟩
      have hin5 : ∀ q ∈ f5, q ∈ fps.flatten := fun q hq => List.mem_flatten.2 ⟨_, hfm, List.mem_append_right _ hq⟩
      have hge : ∀ q ∈ fps.flatten, w0.heap.size ≤ q := fun q hq => hfp q (by rw [hfe]; exact List.mem_cons_of_mem _ hq)
      have hgeb : w0.heap.size ≤ b := hfp b (by rw [hfe]; exact List.mem_cons_self)
      have h45 : ∀ q ∈ f5, q ∉ f4 := fun q h5 h4 => (List.nodup_append.1 hnd45).2.2 q h4 q h5 rfl
      -- the bounds
      have hci : (xs.map (cntI (cnt d)))[x5.toNat]? = some (cntI (cnt d) x) := by rw [← hl.out, List.getElem?_map, hcx]; rfl
      have hstep := take_sum_succ _ _ _ hci
      have hle := take_sum_le (xs.map (cntI (cnt d))) (x5.toNat + 1)
      have hcI : cntI (cnt d) x = 4 + cnt d x.f3 + x.f4.length := rfl
      have hx1 := hx.out
      have h1' := H1.out
      have e1 : wrap64 (x1 + 1) = x1 + 1 := w64' (by omega) (by omega)
      have e2 : wrap64 (x1 + 1 + 1) = x1 + 2 := by rw [w64' (by omega) (by omega)]; omega
      have e3 : wrap64 (x1 + 2 + 1) = x1 + 3 := by rw [w64' (by omega) (by omega)]; omega
      have e4 : wrap64 (x1 + 3 + 1) = x1 + 4 := by rw [w64' (by omega) (by omega)]; omega
      have e0 : Aside0 (0 ≤ x1 ∧ x1 + cnt d x.f3 + x.f4.length + 4 ≤ 1099511627776) := ⟨by omega⟩
      have g4s := Aside0.mk g4
      clear hx1 h1' hcI hle
      go_wp2_with (first
        | (go_at_call 74
           refine (markText_calls (x1 + 3) _ (by have := e0.out; omega)).mono ?_
           rintro e' w2 ⟨rfl, hb2⟩
           obtain ⟨cs3, hk3, s3, p0, p1, p2, o3, hK2, hB2⟩ := put3 hbk hb2 hsz hb.out hgeb
           have g3' : w2.cell? ⟨b, x5.toNat * 6 + 3, none⟩ = some (.string x.f2) := (blk_cell hk3 _).trans ((o3 _ (by omega)).trans ((blk_cell hbk _).symm.trans g3))
           have g4' : w2.cell? ⟨b, x5.toNat * 6 + 4, none⟩ = some (.slice A4 x.f3.length c4) := (blk_cell hk3 _).trans ((o3 _ (by omega)).trans ((blk_cell hbk _).symm.trans g4))
           have z3' := blk_frozen hk3 (x5.toNat * 6 + 3)
           clear g0 g1 g2 g3 g4 z0 z1 z2)
        | (go_at_call 71
           obtain ⟨cs4, hk4, s4, p3, o4, hK4, hB4⟩ := put1 (v := .string (MT (x1 + 3))) hk3 (show x5.toNat * 6 + 3 < cs3.size by omega) hK2 hB2 hgeb
           have hr4 := VRow.same d r4 (Same.kept (VRow.lt d r4) hK4 (fun q hq e => hbn (by rw [← e]; exact hin4 q hq)))
           have hr5 := r5.same (Same.kept r5.lt hK4 (fun q hq e => hbn (by rw [← e]; exact hin5 q hq)))
           refine (ih (by omega) w0 _ A4 c4 x.f3 f4 (x1 + 4) hr4 (List.nodup_append.1 hnd45).1 l4 (by have := e0.out; omega) (by have := e0.out; omega) hB4 (fun q hq => hge q (hin4 q hq))).mono ?_
           rintro e' w5 ⟨rfl, ⟨y3, hy, hyl, hyc, hym⟩, hB5, hK5⟩
           have hk5 := (hK5.2 b (blk_lt hk4) (fun h => hbn (hin4 b h))).trans hk4
           have hr5' := hr5.same (Same.kept hr5.lt hK5 h45)
           have g5' : w5.cell? ⟨b, x5.toNat * 6 + 5, none⟩ = some (.slice A5 x.f4.length c5) := (blk_cell hk5 _).trans ((o4 _ (by omega)).trans ((o3 _ (by omega)).trans ((blk_cell hbk _).symm.trans g5)))
           have e5 : wrap64 (x1 + 4 + (cnt d x.f3 : Nat)) = x1 + 4 + (cnt d x.f3 : Nat) := w64' (by have := e0.out; omega) (by have := e0.out; omega)
           clear g3' g4' z3')
        | (go_at_call 32
           refine (markStringS_calls w0 _ A5 c5 x.f4 f5 (x1 + 4 + (cnt d x.f3 : Nat)) hr5' l5 (by have := e0.out; omega) (by have := e0.out; omega) hB5 (fun q hq => hge q (hin5 q hq))).mono ?_
           rintro e' w6 ⟨rfl, ⟨y4, hz, hzl, hzm⟩, hB6, hK6⟩
           have hk6 := (hK6.2 b (blk_lt hk5) (fun h => hbn (hin5 b h))).trans hk5))
      go_roundg k1
      case measure => omega
      case rel =>
        have hx1 := hx.out
        have h1' := H1.out
        have hHK := HK.out
        have hx0 := e0.out
        have hln : xs.length ≤ cnt (d + 1) xs := len_le_cnt (cnt d) xs
        have e6 : wrap64 (x5 + 1) = x5 + 1 := w64' (by omega) (by omega)
        have e7 : (x5 + 1).toNat = x5.toNat + 1 := by omega
        have hK6' : Kept wr w6 (fun q => q = b ∨ q ∈ f4 ++ f5) := ((hK4.mono (fun q hq => .inl hq)).then_ hK5 (fun q hq => .inl (.inr (List.mem_append_left _ hq)))).then_ hK6 (fun q hq => .inl (.inr (List.mem_append_right _ hq)))
        have hy6 := VRow.same d hy (Same.kept (VRow.lt d hy) hK6 (fun q hq h => h45 q h hq))
        have hmp : (cur.set x5.toNat ⟨x1, ⟨x1 + 1, x1 + 2⟩, MT (x1 + 3), y3, y4⟩).map (cntI (cnt d)) = cur.map (cntI (cnt d)) := by
          rw [List.map_set]
          have hcq : cntI (cnt d) (⟨x1, ⟨x1 + 1, x1 + 2⟩, MT (x1 + 3), y3, y4⟩ : S28) = cntI (cnt d) x := by show 4 + cnt d y3 + y4.length = 4 + cnt d x.f3 + x.f4.length; rw [hyc, hzl]
          rw [hcq]
          apply List.ext_getElem?
          intro j
          by_cases hj : j = x5.toNat
          · subst hj
            rw [List.getElem?_set_self (by rw [List.length_map]; exact hi), List.getElem?_map, hcx]; rfl
          · rw [List.getElem?_set_ne (fun e => hj e.symm)]
        refine ⟨x1 + 4 + (cnt d x.f3 : Nat) + (x.f4.length : Nat), wrap64 (x5 + 1), cur.set x5.toNat ⟨x1, ⟨x1 + 1, x1 + 2⟩, MT (x1 + 3), y3, y4⟩, rfl, rfl, ⟨?_⟩, ⟨by rw [e6]; omega⟩, ⟨?_⟩, ⟨hmp.trans hl.out⟩, ⟨?_⟩, ⟨hB6⟩,
          ⟨hkk.out.then_ hK6' (fun q hq => .inl (by rw [hfe]; exact hq.elim (fun e => by rw [e]; exact List.mem_cons_self) (fun h => List.mem_cons_of_mem _ (List.mem_flatten.2 ⟨_, hfm, h⟩))))⟩⟩
        · rw [e6, e7, hstep]
          show _ = k + ((_ + (4 + cnt d x.f3 + x.f4.length) : Nat) : Int)
          omega
        · refine .inr ⟨b, cs4, fps, rfl, hfe, hk6, by rw [List.length_set]; omega, VItems.put (fun A xs fp => VRow.same d) ⟨hfl, hit⟩ hfx (fun j hj => ?_) ?_ (fun j f' hj hf' => ?_)⟩
          · exact (o4 j (by omega)).trans (o3 j (by omega))
          · exact ⟨A4, c4, A5, c5, f4, f5, rfl, (o4 _ (by omega)).trans p0, (o4 _ (by omega)).trans p1, (o4 _ (by omega)).trans p2, p3,
              (by rw [hyl]; exact (o4 _ (by omega)).trans ((o3 _ (by omega)).trans ((blk_cell hbk _).symm.trans g4s.out))), (by rw [hzl]; exact (o4 _ (by omega)).trans ((o3 _ (by omega)).trans ((blk_cell hbk _).symm.trans g5))), by rw [hyl]; exact l4, by rw [hzl]; exact l5, hy6, hz⟩
          · refine Same.kept (fun q hq => ?_) hK6' (fun q hq h => ?_)
            · exact VRow.lt (d + 1) hn.out q (by rw [hfe]; exact List.mem_cons_of_mem _ (List.mem_flatten.2 ⟨f', List.mem_of_getElem? hf', hq⟩))
            · rcases h with rfl | h
              · exact hbn (List.mem_flatten.2 ⟨f', List.mem_of_getElem? hf', hq⟩)
              · exact apart_of_nodup hndf hj hfx hf' q hq h
        · intro j x' hj hx'
          rw [e6] at hj
          by_cases hji : j = x5.toNat
          · subst hji
            rw [List.getElem?_set_self hi] at hx'
            rw [← Option.some.inj hx', ← hx1]
            exact ⟨rfl, rfl, rfl, rfl, hym, by rw [hyc]; exact hzm⟩
          · rw [List.getElem?_set_ne (fun e => hji e.symm)] at hx'
            exact hm.out j x' (by omega) hx'

theorem markValueS_calls : ∀ d, MarkC d
  | d + 1 => fun w0 w A c xs fp k hr hnd hc h0 h1 hB hfp => markValueS_succ d w0 w A c xs fp k (fun _ => markValueS_calls d) hr hnd hc h0 h1 hB hfp
  | 0 => by
    intro w0 w A c xs fp k hr hnd hc h0 h1 hB hfp
    have h := markValueS_succ 0 w0 w A c xs fp k (fun h => by rw [hr.1] at h; simp at h) (.inl hr) hnd hc h0 (by rw [hr.1]; simpa [cnt] using h1) hB hfp
    refine h.mono ?_
    rintro e w' ⟨rfl, ⟨xs', h2, h3, h4, h5⟩, h6, h7⟩
    have hx : xs' = [] := List.length_eq_zero_iff.1 (by rw [h3, hr.1]; rfl)
    exact ⟨by rw [hr.1]; rfl, ⟨xs', ⟨hx, hr.2⟩, h3, rfl, trivial⟩, h6, h7⟩

/-- A value's rows, marked from k on. -/
theorem markValue_calls (d : Nat) (w0 w : World) (n m e : Int) (s : ByteArray) (A4 : Option Addr) (c4 : Nat) (xs : List S28) (A5 : Option Addr) (c5 : Nat) (ns : List ByteArray) (f4 f5 : List Nat) (k : Int) (h4 : VRow d w A4 xs f4) (h5 : NRow w A5 ns f5)
    (hnd : (f4 ++ f5).Nodup) (l4 : xs.length ≤ c4) (l5 : ns.length ≤ c5) (h0 : 0 ≤ k) (h1 : k + (cnt d xs : Nat) + ns.length ≤ 1099511627776) (hB : Below w0.heap.size w0 w) (hfp : ∀ b ∈ f4 ++ f5, w0.heap.size ≤ b) :
    Calls Tryd.prog 27 #[.agg #[.int .i64 n, .int .i64 m, .int .i64 e, .string s, .slice A4 xs.length c4, .slice A5 ns.length c5], .int .i64 k] w fun e w' =>
      e = .returned (.int .i64 (k + (cnt d xs : Nat) + ns.length)) ∧ (∃ xs' ns', VRow d w' A4 xs' f4 ∧ NRow w' A5 ns' f5 ∧ xs'.length = xs.length ∧ cnt d xs' = cnt d xs ∧ ns'.length = ns.length ∧ Marks d xs' k ∧ NMarks ns' (k + (cnt d xs : Nat))) ∧
        Below w0.heap.size w0 w' ∧ Kept w w' (fun b => b ∈ f4 ++ f5) := by
  have H1 := Aside0.mk h1
  clear h1
  have h45 : ∀ q ∈ f5, q ∉ f4 := fun q h5 h4 => (List.nodup_append.1 hnd).2.2 q h4 q h5 rfl
  go_enter Tryd.func27, Tryd.ntmps27
  go_wp2_with (first
    | (go_at_call 71
       have hb1 := below_alloc (Below.refl w.heap.size w) (.cells #[.int .i64 n, .int .i64 m, .int .i64 e, .string s, .slice A4 xs.length c4, .slice A5 ns.length c5] 28)
       have bx := heap_alloc_new w (.cells #[.int .i64 n, .int .i64 m, .int .i64 e, .string s, .slice A4 xs.length c4, .slice A5 ns.length c5] 28)
       refine (markValueS_calls d w0 _ A4 c4 xs f4 k (VRow.same d h4 (Same.below (VRow.lt d h4) hb1)) (List.nodup_append.1 hnd).1 l4 h0 (by have := H1.out; omega) (below_step hB hb1) (fun q hq => hfp q (List.mem_append_left _ hq))).mono ?_
       rintro e' w2 ⟨rfl, ⟨xs', r4, rl, rc, rm⟩, hB2, hK2⟩
       have bx2 := (hK2.2 w.heap.size (blk_lt bx) (fun hq => absurd (VRow.lt d h4 _ hq) (Nat.lt_irrefl _))).trans bx
       have g5 : w2.cell? ⟨w.heap.size, 5, none⟩ = some (.slice A5 ns.length c5) := blk_cell bx2 5
       have hn2 := (h5.same (Same.below h5.lt hb1)).same (Same.kept (h5.same (Same.below h5.lt hb1)).lt hK2 h45))
    | (go_at_call 32
       refine (markStringS_calls w0 _ A5 c5 ns f5 (k + (cnt d xs : Nat)) hn2 l5 (by omega) (by have := H1.out; omega) hB2 (fun q hq => hfp q (List.mem_append_right _ hq))).mono ?_
       rintro e' w3 ⟨rfl, ⟨ns', r5, rl5, rm5⟩, hB3, hK3⟩))
  go_ret
  refine ⟨rfl, ⟨xs', ns', VRow.same d r4 (Same.kept (VRow.lt d r4) hK3 (fun q hq h => h45 q h hq)), r5, rl, rc, rl5, rm, rm5⟩, hB3, ?_⟩
  exact (((Kept.of_below hb1 _).then_ hK2 (fun q hq => .inl (List.mem_append_left _ hq))).then_ hK3 (fun q hq => .inl (List.mem_append_right _ hq)))
end Go.Proofs.YtebcepbamlokcaaDoor.Q
namespace Go.Proofs.YtebcepbamlokcaaDoor.Q
open Go.RowKit Go.Proofs.YtebcepbamlokcaaDoorW.PrintWords Go.Proofs.YtebcepbamlokcaaDoorW.PrintLast Go.Proofs.YtebcepbamlokcaaDoorW.PrintMore
set_option linter.unusedVariables false
set_option linter.unusedSimpArgs false

set_option maxHeartbeats 1000000 in
set_option maxRecDepth 100000 in
theorem heldStringS_calls (w : World) (A : Option Addr) (c : Nat) (ns : List ByteArray) (fp : List Nat) (k : Int) (hr : NRow w A ns fp) (hc : ns.length ≤ c) (h0 : 0 ≤ k) (h1 : k + ns.length ≤ 1099511627776) (hm : NMarks ns k) :
    Calls Tryd.prog 73 #[.slice A ns.length c, .int .i64 k] w fun e w' => e = .returned (.int .i64 (k + ns.length)) ∧ Below w.heap.size w w' := by
  go_enter Tryd.func73, Tryd.ntmps73
  go_wp2
  go_loopg [1, 5] ns.length (fun kq v1 v5 w' => ∃ (x1 x5 : Int), v1 = .int .i64 x1 ∧ v5 = .int .i64 x5 ∧ Aside0 (x1 = k + x5 ∧ 0 ≤ x5 ∧ x5 + kq = ns.length) ∧ Aside0 (Below w.heap.size w w'))
  case atStart => exact ⟨k, 0, rfl, rfl, ⟨by omega⟩, ⟨Below.refl _ _⟩⟩
  case round =>
    obtain ⟨x1, x5, rfl, rfl, hk, hb⟩ := hrel
    cases gk with
    | zero =>
      have hd : decide (x5 < (ns.length : Int)) = false := decide_eq_false (by have := hk.out; omega)
      go_wp2
      go_ret
      have hx5 : x1 = k + ns.length := by have := hk.out; omega
      exact ⟨by rw [← hx5]; rfl, hb.out⟩
    | succ k1 =>
      have HX : Aside0 (0 ≤ x1 ∧ x1 ≤ 1099511627775) := ⟨by have := hk.out; omega⟩
      have hd : decide (x5 < (ns.length : Int)) = true := decide_eq_true (by have := hk.out; omega)
      have hp : (0 ≤ x5) = True := eq_true (by have := hk.out; omega)
      have hq : (x5 < (ns.length : Int)) = True := eq_true (by have := hk.out; omega)
      obtain ⟨b, rfl, hfb, hbl, hcell, -⟩ := hr.cell x5 (by have := hk.out; omega) (by have := hk.out; omega)
      have hrd : rdOf ByteArray.empty ns x5 = MT x1 := by
        have hk' := hk.out
        have hil : x5.toNat < ns.length := by omega
        have := hm x5.toNat ns[x5.toNat] (List.getElem?_eq_getElem hil)
        unfold rdOf
        rw [List.getD_eq_getElem?_getD, List.getElem?_eq_getElem hil]
        show ns[x5.toNat] = _
        rw [this]; congr 1; omega
      rw [hrd] at hcell
      replace hcell : wr.drew.cell? ⟨b, x5.toNat, none⟩ = some (.string (MT x1)) := (hb.out.cell hbl).trans hcell
      have hB7 := below_drew1 hb.out
      have HK := Aside0.mk hk.out
      clear hk
      go_wp2
      refine start_ (n := 7) (S := fun w' => w'.cell? ⟨b, x5.toNat, none⟩ = some (.string (MT x1))) (ds := []) #[false, false, false, false, false, false, false] (by kernel_rfl) rfl rfl (hcell) (fun hHeld => ?_)
      generalize wr.drew = w7 at hB7 hcell hHeld ⊢
      refine pure_ (i := 0) (N := some 12) (v := ?_) (a' := ?_) #[true, false, false, false, false, false, false] rfl rfl (by kernel_rfl) (fun _ _ _ h => h) (Or.inl ⟨by rfl, ?_⟩) ?_ ?_
      rotate_left
      · intro w'
        go_simp; with_reducible rfl
      rotate_left
      · simp only [Act.put, List.setIfInBounds_toArray, List.set_cons_zero, List.set_cons_succ, i64_w, i32_w]; rfl
      refine pure_ (i := 1) (N := some 13) (v := ?_) (a' := ?_) #[true, true, false, false, false, false, false] rfl rfl (by kernel_rfl) (fun _ _ _ h => h) (Or.inl ⟨by rfl, ?_⟩) ?_ ?_
      rotate_left
      · intro w'
        go_simp; with_reducible rfl
      rotate_left
      · simp only [Act.put, List.setIfInBounds_toArray, List.set_cons_zero, List.set_cons_succ, i64_w, i32_w]; rfl
      refine pure_ (i := 2) (N := some 14) (v := ?_) (a' := ?_) #[true, true, true, false, false, false, false] rfl rfl (by kernel_rfl) (fun _ _ _ h => h) (Or.inl ⟨by rfl, ?_⟩) ?_ ?_
      rotate_left
      · intro w'
        go_simp; with_reducible rfl
      rotate_left
      · simp only [Act.put, List.setIfInBounds_toArray, List.set_cons_zero, List.set_cons_succ, i64_w, i32_w]; rfl
      refine pure_ (i := 4) (N := some 16) (v := ?_) (a' := ?_) #[true, true, true, false, true, false, false] rfl rfl (by kernel_rfl) (fun _ _ _ h => h) (Or.inl ⟨by rfl, ?_⟩) ?_ ?_
      rotate_left
      · intro w'
        go_simp; with_reducible rfl
      rotate_left
      · simp only [Act.put, List.setIfInBounds_toArray, List.set_cons_zero, List.set_cons_succ, i64_w, i32_w]; rfl
      refine take_ (i := 3) (N := some 15) (v := ?_) (a' := ?_) #[true, true, true, true, true, false, false] rfl rfl (by kernel_rfl) (fun _ _ _ h => h) (Or.inl ⟨by rfl, ?_⟩) hHeld ?_ ?_
      rotate_left
      · intro w' s0
        go_simp; with_reducible rfl
      rotate_left
      · simp only [Act.put, List.setIfInBounds_toArray, List.set_cons_zero, List.set_cons_succ, i64_w, i32_w]; rfl
      refine one_ (i := 5) (N := some 17) #[true, true, true, true, true, true, false] rfl rfl (by kernel_rfl) (by decide) (fun K hK => ?_)
      refine goes_ Tryd.func74 (by kernel_rfl) rfl #[.int .i64 x1] (by rfl) rfl rfl (by (try simp only [List.map_toArray, List.map_cons, List.map_nil]); first | done | rfl) ?_
      with_reducible refine (markText_calls x1 _ (by have := HX.out; omega)).mono ?_
      rintro e w8 ⟨rfl, hb8⟩
      refine ⟨_, rfl, hK.out _ _ ((hb8.cell (World.block_lt_of_cell? w7 _ hcell)).trans hcell) (fun hHeld => ?_)⟩
      clear hK K
      refine norm_ (a' := ?_) ?_ ?_
      rotate_left
      · show Act.put _ (some 17) _ = _
        simp only [Act.put, List.setIfInBounds_toArray, List.set_cons_zero, List.set_cons_succ, i64_w, i32_w]; rfl
      refine pure_ (i := 6) (N := some 18) (v := ?_) (a' := ?_) #[true, true, true, true, true, true, true] rfl rfl (by kernel_rfl) (fun _ _ _ h => h) (Or.inl ⟨by rfl, ?_⟩) ?_ ?_
      rotate_left
      · intro w'
        go_simp; with_reducible rfl
      rotate_left
      · simp only [Act.put, List.setIfInBounds_toArray, List.set_cons_zero, List.set_cons_succ, i64_w, i32_w]; rfl
      refine done_ (by kernel_rfl) ?_
      go_wp2
      go_roundg k1
      case measure => omega
      case rel =>
        have h2 := HK.out
        exact ⟨wrap64 (x1 + 1), wrap64 (x5 + 1), rfl, rfl, ⟨by rw [w64' (by omega) (by omega), w64' (by omega) (by omega)]; omega⟩, ⟨below_step hB7 hb8⟩⟩

abbrev HeldC (d : Nat) : Prop := ∀ (w : World) (A : Option Addr) (c : Nat) (xs : List S28) (fp : List Nat) (k : Int), VRow d w A xs fp → xs.length ≤ c → 0 ≤ k → k + (cnt d xs : Nat) ≤ 1099511627776 → Marks d xs k →
    Calls Tryd.prog 72 #[.slice A xs.length c, .int .i64 k] w fun e w' => e = .returned (.int .i64 (k + (cnt d xs : Nat))) ∧ Below w.heap.size w w'

set_option maxHeartbeats 2000000 in
set_option maxRecDepth 100000 in
theorem heldValueS_succ (d : Nat) (w : World) (A : Option Addr) (c : Nat) (xs : List S28) (fp : List Nat) (k : Int) (ih : 0 < xs.length → HeldC d) (hr : VRow (d + 1) w A xs fp) (hc : xs.length ≤ c) (h0 : 0 ≤ k) (h1 : k + (cnt (d + 1) xs : Nat) ≤ 1099511627776) (hm : Marks (d + 1) xs k) :
    Calls Tryd.prog 72 #[.slice A xs.length c, .int .i64 k] w fun e w' => e = .returned (.int .i64 (k + (cnt (d + 1) xs : Nat))) ∧ Below w.heap.size w w' := by
  have hcs : ((xs.map (cntI (cnt d))).sum : Nat) = cnt (d + 1) xs := rfl
  have hln : xs.length ≤ cnt (d + 1) xs := len_le_cnt (cnt d) xs
  have H1 := Aside0.mk h1
  have HM := Aside0.mk hm
  clear h1 hm
  go_enter Tryd.func72, Tryd.ntmps72
  go_wp2
  go_loopg [1, 5] xs.length (fun kq v1 v5 w' => ∃ (x1 x5 : Int), v1 = .int .i64 x1 ∧ v5 = .int .i64 x5 ∧ Aside0 (x1 = k + (((xs.map (cntI (cnt d))).take x5.toNat).sum : Nat) ∧ 0 ≤ x5 ∧ x5 + kq = xs.length) ∧ Aside0 (Below w.heap.size w w'))
  case atStart => exact ⟨k, 0, rfl, rfl, ⟨by simp⟩, ⟨Below.refl _ _⟩⟩
  case round =>
    obtain ⟨x1, x5, rfl, rfl, hk, hb⟩ := hrel
    cases gk with
    | zero =>
      have hd : decide (x5 < (xs.length : Int)) = false := decide_eq_false (by have := hk.out; omega)
      go_wp2
      go_ret
      have hx5 : x1 = k + (cnt (d + 1) xs : Nat) := by
        have h2 := hk.out
        rw [List.take_of_length_le (by rw [List.length_map]; omega)] at h2
        exact h2.1
      exact ⟨by rw [← hx5]; rfl, hb.out⟩
    | succ k1 =>
      have HK := Aside0.mk hk.out
      clear hk
      have hd : decide (x5 < (xs.length : Int)) = true := decide_eq_true (by have := HK.out; omega)
      have hp : (0 ≤ x5) = True := eq_true (by have := HK.out; omega)
      have hq : (x5 < (xs.length : Int)) = True := eq_true (by have := HK.out; omega)
      have hi : x5.toNat < xs.length := by have := HK.out; omega
      rcases VRow.same (d + 1) hr (Same.below (VRow.lt (d + 1) hr) hb.out) with ⟨h, _⟩ | ⟨b, cs, fps, rfl, hfe, hbk, hcl, hfl, hit⟩
      · rw [h] at hi; simp at hi
      have hcx := List.getElem?_eq_getElem hi
      have hfx := List.getElem?_eq_getElem (show x5.toNat < fps.length by omega)
      generalize xs[x5.toNat] = x at hcx
      generalize fps[x5.toNat]'(show x5.toNat < fps.length by omega) = f at hfx
      obtain ⟨A4, c4, A5, c5, f4, f5, rfl, g0, g1, g2, g3, g4, g5, l4, l5, r4, r5⟩ := VItem.cells hbk (hit x5.toNat x f hcx hfx)
      have hblt := blk_lt hbk
      -- the bounds
      have hci : (xs.map (cntI (cnt d)))[x5.toNat]? = some (cntI (cnt d) x) := by rw [List.getElem?_map, hcx]; rfl
      have hstep := take_sum_succ _ _ _ hci
      have hle := take_sum_le (xs.map (cntI (cnt d))) (x5.toNat + 1)
      have hcI : cntI (cnt d) x = 4 + cnt d x.f3 + x.f4.length := rfl
      obtain ⟨m0, m1, m2, m3, m4, m5⟩ := HM.out x5.toNat x hcx
      rw [← HK.out.1] at m0 m1 m2 m3 m4 m5
      rw [m0] at g0
      rw [m1] at g1
      rw [m2] at g2
      rw [m3] at g3
      have hx1 := HK.out.1
      have h1' := H1.out
      have e1 : wrap64 (x1 + 1) = x1 + 1 := w64' (by omega) (by omega)
      have e2 : wrap64 (x1 + 1 + 1) = x1 + 2 := by rw [w64' (by omega) (by omega)]; omega
      have e3 : wrap64 (x1 + 2 + 1) = x1 + 3 := by rw [w64' (by omega) (by omega)]; omega
      have e4 : wrap64 (x1 + 3 + 1) = x1 + 4 := by rw [w64' (by omega) (by omega)]; omega
      have HX : Aside0 (0 ≤ x1 ∧ x1 + cnt d x.f3 + x.f4.length + 4 ≤ 1099511627776) := ⟨by omega⟩
      have n5 : decide (x1 + 4 + (cnt d x.f3 : Nat) < 0) = false := decide_eq_false (by omega)
      have n6 : decide (x1 + 4 + (cnt d x.f3 : Nat) + (x.f4.length : Nat) < 0) = false := decide_eq_false (by omega)
      have M4 := Aside0.mk m4
      have M5 := Aside0.mk m5
      have hB7 := below_drew1 hb.out
      have hlt7 : b < wr.drew.heap.size := hblt
      replace g3 : wr.drew.cell? ⟨b, x5.toNat * 6 + 3, none⟩ = some (.string (MT (x1 + 3))) := g3
      have hk7 : wr.drew.heap[b]? = some (.cells cs 28 (0, 0)) := hbk
      have r47 := VRow.same d (w1 := wr.drew) r4 (fun _ _ => rfl)
      have r57 := r5.same (w1 := wr.drew) (fun _ _ => rfl)
      have G4 := Aside0.mk ((blk_cell hbk _).symm.trans g4)
      have G5 := Aside0.mk ((blk_cell hbk _).symm.trans g5)
      clear hx1 h1' hcI hle m0 m1 m2 m3 m4 m5 hit
      go_wp2
      refine start_ (n := 8) (S := fun w' => w'.cell? ⟨b, x5.toNat * 6 + 3, none⟩ = some (.string (MT (x1 + 3)))) (ds := []) #[false, false, false, false, false, false, false, false] (by kernel_rfl) rfl rfl (g3) (fun hHeld => ?_)
      generalize wr.drew = w7 at hB7 g3 hlt7 hk7 r47 r57 hHeld ⊢
      refine pure_ (i := 0) (N := some 41) (v := ?_) (a' := ?_) #[true, false, false, false, false, false, false, false] rfl rfl (by kernel_rfl) (fun _ _ _ h => h) (Or.inl ⟨by rfl, ?_⟩) ?_ ?_
      rotate_left
      · intro w'
        go_simp; with_reducible rfl
      rotate_left
      · simp only [Act.put, List.setIfInBounds_toArray, List.set_cons_zero, List.set_cons_succ, i64_w, i32_w]; rfl
      refine pure_ (i := 1) (N := some 42) (v := ?_) (a' := ?_) #[true, true, false, false, false, false, false, false] rfl rfl (by kernel_rfl) (fun _ _ _ h => h) (Or.inl ⟨by rfl, ?_⟩) ?_ ?_
      rotate_left
      · intro w'
        go_simp; with_reducible rfl
      rotate_left
      · simp only [Act.put, List.setIfInBounds_toArray, List.set_cons_zero, List.set_cons_succ, i64_w, i32_w]; rfl
      refine pure_ (i := 2) (N := some 43) (v := ?_) (a' := ?_) #[true, true, true, false, false, false, false, false] rfl rfl (by kernel_rfl) (fun _ _ _ h => h) (Or.inl ⟨by rfl, ?_⟩) ?_ ?_
      rotate_left
      · intro w'
        go_simp; with_reducible rfl
      rotate_left
      · simp only [Act.put, List.setIfInBounds_toArray, List.set_cons_zero, List.set_cons_succ, i64_w, i32_w]; rfl
      refine pure_ (i := 3) (N := some 44) (v := ?_) (a' := ?_) #[true, true, true, true, false, false, false, false] rfl rfl (by kernel_rfl) (fun _ _ _ h => h) (Or.inl ⟨by rfl, ?_⟩) ?_ ?_
      rotate_left
      · intro w'
        go_simp; with_reducible rfl
      rotate_left
      · simp only [Act.put, List.setIfInBounds_toArray, List.set_cons_zero, List.set_cons_succ, i64_w, i32_w]; rfl
      refine pure_ (i := 5) (N := some 46) (v := ?_) (a' := ?_) #[true, true, true, true, false, true, false, false] rfl rfl (by kernel_rfl) (fun _ _ _ h => h) (Or.inl ⟨by rfl, ?_⟩) ?_ ?_
      rotate_left
      · intro w'
        go_simp; with_reducible rfl
      rotate_left
      · simp only [Act.put, List.setIfInBounds_toArray, List.set_cons_zero, List.set_cons_succ, i64_w, i32_w]; rfl
      refine take_ (i := 4) (N := some 45) (v := ?_) (a' := ?_) #[true, true, true, true, true, true, false, false] rfl rfl (by kernel_rfl) (fun _ _ _ h => h) (Or.inl ⟨by rfl, ?_⟩) hHeld ?_ ?_
      rotate_left
      · intro w' s0
        go_simp; with_reducible rfl
      rotate_left
      · simp only [Act.put, List.setIfInBounds_toArray, List.set_cons_zero, List.set_cons_succ, i64_w, i32_w]; rfl
      refine one_ (i := 6) (N := some 47) #[true, true, true, true, true, true, true, false] rfl rfl (by kernel_rfl) (by decide) (fun K hK => ?_)
      refine goes_ Tryd.func74 (by kernel_rfl) rfl #[.int .i64 (x1 + 3)] (by rfl) rfl rfl (by (try simp only [List.map_toArray, List.map_cons, List.map_nil]); first | done | rfl) ?_
      with_reducible refine (markText_calls (x1 + 3) _ (by have := HX.out; omega)).mono ?_
      rintro e w8 ⟨rfl, hb8⟩
      refine ⟨_, rfl, hK.out _ _ ((hb8.cell (World.block_lt_of_cell? w7 _ g3)).trans g3) (fun hHeld => ?_)⟩
      clear hK K
      refine norm_ (a' := ?_) ?_ ?_
      rotate_left
      · show Act.put _ (some 47) _ = _
        simp only [Act.put, List.setIfInBounds_toArray, List.set_cons_zero, List.set_cons_succ, i64_w, i32_w]; rfl
      refine pure_ (i := 7) (N := some 48) (v := ?_) (a' := ?_) #[true, true, true, true, true, true, true, true] rfl rfl (by kernel_rfl) (fun _ _ _ h => h) (Or.inl ⟨by rfl, ?_⟩) ?_ ?_
      rotate_left
      · intro w'
        go_simp; with_reducible rfl
      rotate_left
      · simp only [Act.put, List.setIfInBounds_toArray, List.set_cons_zero, List.set_cons_succ, i64_w, i32_w]; rfl
      refine done_ (by kernel_rfl) ?_
      have hk8 := (hb8.block b hlt7).trans hk7
      have g4' : w8.cell? ⟨b, x5.toNat * 6 + 4, none⟩ = some (.slice A4 x.f3.length c4) := (blk_cell hk8 _).trans G4.out
      clear g0 g1 g2 g3 g4
      go_wp2_with (first
        | (go_at_call 72
           refine (ih (by omega) _ A4 c4 x.f3 f4 (x1 + 4) (VRow.same d r47 (Same.below (VRow.lt d r47) hb8)) l4 (by have := HX.out; omega) (by have := HX.out; omega) M4.out).mono ?_
           rintro e' w5 ⟨rfl, hb5⟩
           have hk5 := (hb5.block b (blk_lt hk8)).trans hk8
           have g5' : w5.cell? ⟨b, x5.toNat * 6 + 5, none⟩ = some (.slice A5 x.f4.length c5) := (blk_cell hk5 _).trans G5.out
           clear g4')
        | (go_at_call 73
           have r58 := r57.same (Same.below r57.lt hb8)
           refine (heldStringS_calls _ A5 c5 x.f4 f5 (x1 + 4 + (cnt d x.f3 : Nat)) (r58.same (Same.below r58.lt hb5)) l5 (by have := HX.out; omega) (by have := HX.out; omega) M5.out).mono ?_
           rintro e' w6 ⟨rfl, hb6⟩))
      go_roundg k1
      case measure => omega
      case rel =>
        have h2 := HK.out
        have h3 := H1.out
        have e6 : wrap64 (x5 + 1) = x5 + 1 := w64' (by omega) (by omega)
        have e7 : (x5 + 1).toNat = x5.toNat + 1 := by omega
        refine ⟨x1 + 4 + (cnt d x.f3 : Nat) + (x.f4.length : Nat), wrap64 (x5 + 1), rfl, rfl, ⟨?_, by rw [e6]; omega, by rw [e6]; omega⟩, ⟨below_step (below_step (below_step hB7 hb8) hb5) hb6⟩⟩
        rw [e6, e7, hstep]
        show _ = k + ((_ + (4 + cnt d x.f3 + x.f4.length) : Nat) : Int)
        omega

theorem heldValueS_calls : ∀ d, HeldC d
  | d + 1 => fun w A c xs fp k hr hc h0 h1 hm => heldValueS_succ d w A c xs fp k (fun _ => heldValueS_calls d) hr hc h0 h1 hm
  | 0 => by
    intro w A c xs fp k hr hc h0 h1 hm
    have h := heldValueS_succ 0 w A c xs fp k (fun h => by rw [hr.1] at h; simp at h) (.inl hr) hc h0 (by rw [hr.1]; simpa [cnt] using h1) (fun i x hx => by rw [hr.1] at hx; simp at hx)
    refine h.mono ?_
    rintro e w' ⟨rfl, h6⟩
    exact ⟨by rw [hr.1]; rfl, h6⟩

set_option maxHeartbeats 1000000 in
theorem heldValue_calls (d : Nat) (w : World) (n m e : Int) (s : ByteArray) (A4 : Option Addr) (c4 : Nat) (xs : List S28) (A5 : Option Addr) (c5 : Nat) (ns : List ByteArray) (f4 f5 : List Nat) (k : Int) (h4 : VRow d w A4 xs f4) (h5 : NRow w A5 ns f5)
    (l4 : xs.length ≤ c4) (l5 : ns.length ≤ c5) (h0 : 0 ≤ k) (h1 : k + (cnt d xs : Nat) + ns.length ≤ 1099511627776) (hm : Marks d xs k) (hm5 : NMarks ns (k + (cnt d xs : Nat))) :
    Calls Tryd.prog 28 #[.agg #[.int .i64 n, .int .i64 m, .int .i64 e, .string s, .slice A4 xs.length c4, .slice A5 ns.length c5], .int .i64 k] w fun e w' =>
      e = .returned (.int .i64 (k + (cnt d xs : Nat) + ns.length)) ∧ Below w.heap.size w w' := by
  have H1 := Aside0.mk h1
  have n5 : decide (k + (cnt d xs : Nat) < 0) = false := decide_eq_false (by omega)
  have n6 : decide (k + (cnt d xs : Nat) + (ns.length : Nat) < 0) = false := decide_eq_false (by omega)
  clear h1
  go_enter Tryd.func28, Tryd.ntmps28
  go_wp2_with (first
    | (go_at_call 72
       have hb1 := below_alloc (Below.refl w.heap.size w) (.cells #[.int .i64 n, .int .i64 m, .int .i64 e, .string s, .slice A4 xs.length c4, .slice A5 ns.length c5] 28)
       have bx := heap_alloc_new w (.cells #[.int .i64 n, .int .i64 m, .int .i64 e, .string s, .slice A4 xs.length c4, .slice A5 ns.length c5] 28)
       refine (heldValueS_calls d _ A4 c4 xs f4 k (VRow.same d h4 (Same.below (VRow.lt d h4) hb1)) l4 h0 (by have := H1.out; omega) hm).mono ?_
       rintro e' w2 ⟨rfl, hb2⟩
       have g5 : w2.cell? ⟨w.heap.size, 5, none⟩ = some (.slice A5 ns.length c5) := blk_cell ((hb2.block _ (blk_lt bx)).trans bx) 5
       have hbB := below_step hb1 hb2
       have hn2 := h5.same (Same.below h5.lt hbB))
    | (go_at_call 73
       refine (heldStringS_calls _ A5 c5 ns f5 (k + (cnt d xs : Nat)) hn2 l5 (by omega) (by have := H1.out; omega) hm5).mono ?_
       rintro e' w3 ⟨rfl, hb3⟩))
  go_ret
  exact ⟨rfl, below_step hbB hb3⟩
end Go.Proofs.YtebcepbamlokcaaDoor.Q
namespace Go.Proofs.YtebcepbamlokcaaDoor.Q
open Go.RowKit Go.Proofs.YtebcepbamlokcaaDoorW.PrintWords Go.Proofs.YtebcepbamlokcaaDoorW.PrintLast Go.Proofs.YtebcepbamlokcaaDoorW.PrintMore
set_option linter.unusedVariables false
set_option linter.unusedSimpArgs false

/-- Where a walk stands. -/
structure Mk (n : Nat) : Prop where mk ::

structure FitV (d : Nat) (v : S28) : Prop where
  f3 : Fit d v.f3
  f4 : v.f4.length ≤ 2097152
  cn : cnt d v.f3 + v.f4.length ≤ 1073741824

/-- A value's rows, its own. -/
structure TreeAt (d : Nat) (W : World) (v : S28) (B4 : Option Addr) (b4 : Nat) (B5 : Option Addr) (b5 : Nat) (f4 f5 : List Nat) : Prop where
  l4 : v.f3.length ≤ b4
  l5 : v.f4.length ≤ b5
  V : VRow d W B4 v.f3 f4
  N : NRow W B5 v.f4 f5
  nd : (f4 ++ f5).Nodup
section
variable {d : Nat} {W W' : World} {v : S28} {B4 B5 : Option Addr} {b4 b5 : Nat} {f4 f5 : List Nat}
theorem TreeAt.lt (h : TreeAt d W v B4 b4 B5 b5 f4 f5) : ∀ q ∈ f4 ++ f5, q < W.heap.size := fun q hq => (List.mem_append.1 hq).elim (VRow.lt d h.V q) (h.N.lt q)
theorem TreeAt.below (h : TreeAt d W v B4 b4 B5 b5 f4 f5) (hb : Below W.heap.size W W') : TreeAt d W' v B4 b4 B5 b5 f4 f5 := ⟨h.l4, h.l5, VRow.same d h.V (Same.below (VRow.lt d h.V) hb), h.N.same (Same.below h.N.lt hb), h.nd⟩
theorem TreeAt.kept {S : Nat → Prop} (h : TreeAt d W v B4 b4 B5 b5 f4 f5) (hk : Kept W W' S) (hn : ∀ q ∈ f4 ++ f5, ¬ S q) : TreeAt d W' v B4 b4 B5 b5 f4 f5 :=
  ⟨h.l4, h.l5, VRow.same d h.V (Same.kept (VRow.lt d h.V) hk (fun q hq => hn q (List.mem_append_left _ hq))), h.N.same (Same.kept h.N.lt hk (fun q hq => hn q (List.mem_append_right _ hq))), h.nd⟩
theorem TreeAt.c4 (h : TreeAt d W v B4 b4 B5 b5 f4 f5) (hf : FitV d v) : Kd.C k28 W B4 v.f3.length v.f3 := VRow.reads d h.V (Fit.long d hf.f3)
theorem TreeAt.c5 (h : TreeAt d W v B4 b4 B5 b5 f4 f5) (hf : FitV d v) : Kd.C Kd.string W B5 v.f4.length v.f4 := h.N.reads (Nat.le_trans hf.f4 (by decide))

/-- A value's rows that are read alone; they lie below hi. -/
structure ReadAt (W : World) (v : S28) (A4 : Option Addr) (c4 : Nat) (A5 : Option Addr) (c5 : Nat) (hi : Nat) : Prop where
  l4 : v.f3.length ≤ c4
  l5 : v.f4.length ≤ c5
  r4 : Kd.R k28 28 W 0 (fun k => k < hi) (.slice A4 v.f3.length c4) v.f3
  r5 : Kd.R Kd.string 9 W 0 (fun k => k < hi) (.slice A5 v.f4.length c5) v.f4
variable {A4 A5 : Option Addr} {c4 c5 hi : Nat}
theorem ReadAt.of {base : Nat} {v4 v5 : Value} (h4 : Kd.R k28 28 W base (fun _ => True) v4 v.f3) (h5 : Kd.R Kd.string 9 W base (fun _ => True) v5 v.f4) (hh : W.heap.size ≤ hi) :
    ∃ A4 c4 A5 c5, v4 = .slice A4 v.f3.length c4 ∧ v5 = .slice A5 v.f4.length c5 ∧ ReadAt W v A4 c4 A5 c5 hi := by
  obtain ⟨A4, c4, rfl, l4, _⟩ := Kd.R_reads h4
  obtain ⟨A5, c5, rfl, l5, _⟩ := Kd.R_reads h5
  exact ⟨A4, c4, A5, c5, rfl, rfl, l4, l5, Kd.R_lower (Kd.R_mono (Kd.R_bound h4) (fun k hk => Nat.lt_of_lt_of_le hk.2.2.1 hh)) (Nat.zero_le _), Kd.R_lower (Kd.R_mono (Kd.R_bound h5) (fun k hk => Nat.lt_of_lt_of_le hk.2.2.1 hh)) (Nat.zero_le _)⟩
theorem ReadAt.below (h : ReadAt W v A4 c4 A5 c5 hi) (hb : Below W.heap.size W W') : ReadAt W' v A4 c4 A5 c5 hi := ⟨h.l4, h.l5, Kd.R_below h.r4 hb, Kd.R_below h.r5 hb⟩
theorem ReadAt.kept {S : Nat → Prop} (h : ReadAt W v A4 c4 A5 c5 hi) (hk : Kept W W' S) (hn : ∀ q, S q → hi ≤ q) : ReadAt W' v A4 c4 A5 c5 hi :=
  ⟨h.l4, h.l5, Kd.R_kept h.r4 hk (fun k hk' hs => Nat.lt_irrefl _ (Nat.lt_of_lt_of_le hk' (hn k hs))), Kd.R_kept h.r5 hk (fun k hk' hs => Nat.lt_irrefl _ (Nat.lt_of_lt_of_le hk' (hn k hs)))⟩
theorem ReadAt.c4_ (h : ReadAt W v A4 c4 A5 c5 hi) : Kd.C k28 W A4 v.f3.length v.f3 := (Kd.R_reads' h.r4).2.2
theorem ReadAt.c5_ (h : ReadAt W v A4 c4 A5 c5 hi) : Kd.C Kd.string W A5 v.f4.length v.f4 := (Kd.R_reads' h.r5).2.2
end

/-- The argument as the program's value. -/
theorem toValue_v (d : Nat) (a : S45) (w : World) (A4 : Option Addr) (c4 : Nat) (A5 : Option Addr) (c5 : Nat) (h4 : Kd.C k45 w A4 a.f3.length a.f3) (l4 : a.f3.length ≤ c4) (h5 : Kd.C Kd.string w A5 a.f4.length a.f4) (l5 : a.f4.length ≤ c5) (hf : Fit45 d a.f3) (hn : a.f4.length ≤ 2097152) (v : S28) (hv : v = toV (toL d) a) :
    Calls Tryd.prog 24 #[.agg #[.int .i64 a.f0, .int .i64 a.f1.f0, .int .i64 a.f1.f1, .string a.f2, .slice A4 a.f3.length c4, .slice A5 a.f4.length c5]] w fun e' w' => ∃ B4 b4 B5 b5 f4 f5,
      e' = .returned (.agg #[.int .i64 v.f0, .int .i64 v.f1.f0, .int .i64 v.f1.f1, .string v.f2, .slice B4 v.f3.length b4, .slice B5 v.f4.length b5]) ∧ TreeAt d w' v B4 b4 B5 b5 f4 f5 ∧ (∀ q ∈ f4 ++ f5, w.heap.size ≤ q) ∧ Below w.heap.size w w' := by
  refine (toValue_of d (toValueS_calls d) w a.f0 a.f1.f0 a.f1.f1 a.f2 A4 c4 a.f3 A5 c5 a.f4 h4 l4 h5 l5 hf hn).mono ?_
  rintro e' w' ⟨B4, b4, B5, b5, f4, f5, rfl, m4, m5, V, N, nd, F, hb⟩
  have hl : v.f3.length = a.f3.length := by rw [hv]; exact toL_length d a.f3 hf
  subst hv
  exact ⟨B4, b4, B5, b5, f4, f5, by rw [hl]; rfl, ⟨by rw [hl]; exact m4, m5, V, N, nd⟩, F, hb⟩

theorem eqValue_v (d : Nat) (v : S28) (hf : FitV d v) (w : World) (A4 B4 : Option Addr) (c4 d4 : Nat) (A5 B5 : Option Addr) (c5 d5 : Nat) (h4 : Kd.C k28 w A4 v.f3.length v.f3) (g4 : Kd.C k28 w B4 v.f3.length v.f3) (l4 : v.f3.length ≤ c4) (m4 : v.f3.length ≤ d4)
    (h5 : Kd.C Kd.string w A5 v.f4.length v.f4) (g5 : Kd.C Kd.string w B5 v.f4.length v.f4) (l5 : v.f4.length ≤ c5) (m5 : v.f4.length ≤ d5) :
    Calls Tryd.prog 26 #[.agg #[.int .i64 v.f0, .int .i64 v.f1.f0, .int .i64 v.f1.f1, .string v.f2, .slice A4 v.f3.length c4, .slice A5 v.f4.length c5], .agg #[.int .i64 v.f0, .int .i64 v.f1.f0, .int .i64 v.f1.f1, .string v.f2, .slice B4 v.f3.length d4, .slice B5 v.f4.length d5]] w fun e' w' =>
      e' = .returned (.bool true) ∧ Below w.heap.size w w' :=
  eqValue_of d (eqValueS_calls d) w v.f0 v.f1.f0 v.f1.f1 v.f2 A4 B4 c4 d4 v.f3 A5 B5 c5 d5 v.f4 h4 g4 l4 m4 h5 g5 l5 m5 hf.f3

theorem markValue_v (d : Nat) (x : S28) (hf : FitV d x) (w0 w : World) (B4 : Option Addr) (b4 : Nat) (B5 : Option Addr) (b5 : Nat) (f4 f5 : List Nat) (h : TreeAt d w x B4 b4 B5 b5 f4 f5) (hB : Below w0.heap.size w0 w) (hfp : ∀ b ∈ f4 ++ f5, w0.heap.size ≤ b) :
    Calls Tryd.prog 27 #[.agg #[.int .i64 x.f0, .int .i64 x.f1.f0, .int .i64 x.f1.f1, .string x.f2, .slice B4 x.f3.length b4, .slice B5 x.f4.length b5], .int .i64 1] w fun e w' =>
      e = .returned (.int .i64 (1 + (cnt d x.f3 : Nat) + x.f4.length)) ∧ (∃ v' : S28, TreeAt d w' v' B4 b4 B5 b5 f4 f5 ∧ v'.f3.length = x.f3.length ∧ v'.f4.length = x.f4.length ∧ cnt d v'.f3 = cnt d x.f3 ∧ Marks d v'.f3 1 ∧ NMarks v'.f4 (1 + (cnt d x.f3 : Nat))) ∧
        Below w0.heap.size w0 w' ∧ Kept w w' (fun b => b ∈ f4 ++ f5) := by
  refine (markValue_calls d w0 w x.f0 x.f1.f0 x.f1.f1 x.f2 B4 b4 x.f3 B5 b5 x.f4 f4 f5 1 h.V h.N h.nd h.l4 h.l5 (by omega) (by have := hf.cn; omega) hB hfp).mono ?_
  rintro e w' ⟨rfl, ⟨xs', ns', V, N, l3, lc, l4, m, mn⟩, hb, hk⟩
  exact ⟨rfl, ⟨⟨x.f0, x.f1, x.f2, xs', ns'⟩, ⟨by rw [show (⟨x.f0, x.f1, x.f2, xs', ns'⟩ : S28).f3 = xs' from rfl, l3]; exact h.l4, by rw [show (⟨x.f0, x.f1, x.f2, xs', ns'⟩ : S28).f4 = ns' from rfl, l4]; exact h.l5, V, N, h.nd⟩, l3, l4, lc, m, mn⟩, hb, hk⟩
theorem heldValue_v (d : Nat) (x v' : S28) (hf : FitV d x) (w : World) (B4 : Option Addr) (b4 : Nat) (B5 : Option Addr) (b5 : Nat) (f4 f5 : List Nat) (h : TreeAt d w v' B4 b4 B5 b5 f4 f5) (l3 : v'.f3.length = x.f3.length) (l4 : v'.f4.length = x.f4.length) (lc : cnt d v'.f3 = cnt d x.f3)
    (m : Marks d v'.f3 1) (mn : NMarks v'.f4 (1 + (cnt d x.f3 : Nat))) :
    Calls Tryd.prog 28 #[.agg #[.int .i64 x.f0, .int .i64 x.f1.f0, .int .i64 x.f1.f1, .string x.f2, .slice B4 x.f3.length b4, .slice B5 x.f4.length b5], .int .i64 1] w fun e w' =>
      e = .returned (.int .i64 (1 + (cnt d x.f3 : Nat) + x.f4.length)) ∧ Below w.heap.size w w' := by
  have hc := heldValue_calls d w x.f0 x.f1.f0 x.f1.f1 x.f2 B4 b4 v'.f3 B5 b5 v'.f4 f4 f5 1 h.V h.N h.l4 h.l5 (by omega) (by have := hf.cn; omega) m (by rw [lc]; exact mn)
  rw [l3, l4, lc] at hc
  exact hc

/-- Six cells of a box are written: all else stays. -/
theorem six_kept (w : World) (g : Nat) (v0 v1 v2 v3 v4 v5 : Value) :
    Kept w ((((((w.setCell ⟨g, 0, none⟩ v0).setCell ⟨g, 1, none⟩ v1).setCell ⟨g, 2, none⟩ v2).setCell ⟨g, 3, none⟩ v3).setCell ⟨g, 4, none⟩ v4).setCell ⟨g, 5, none⟩ v5) (fun q => q = g) :=
  ⟨by simp only [World.setCell, Array.size_modify]; exact Nat.le_refl _, fun q _ hq => six_same q hq⟩

/-- What ValueAt answers: the program's, in rows of its own .. -/
abbrev ImplAtC (d : Nat) (v : S28) (path : List ByteArray) (res : Option S28) : Prop := ∀ (w : World) (A4 : Option Addr) (c4 : Nat) (A5 : Option Addr) (c5 : Nat) (AP : Option Addr) (cP : Nat), Kd.C k28 w A4 v.f3.length v.f3 → v.f3.length ≤ c4 → Kd.C Kd.string w A5 v.f4.length v.f4 → v.f4.length ≤ c5 →
    Kd.C Kd.string w AP path.length path → path.length ≤ cP → LaidG 15 w →
    Calls Tryd.prog 11 #[.agg #[.int .i64 v.f0, .int .i64 v.f1.f0, .int .i64 v.f1.f1, .string v.f2, .slice A4 v.f3.length c4, .slice A5 v.f4.length c5], .slice AP path.length cP] w fun e' w' => ∃ (x : S28) (B4 : Option Addr) (b4 : Nat) (B5 : Option Addr) (b5 : Nat) (f4 f5 : List Nat),
      x = orZero res ∧ e' = .returned (.tuple #[.agg #[.int .i64 x.f0, .int .i64 x.f1.f0, .int .i64 x.f1.f1, .string x.f2, .slice B4 x.f3.length b4, .slice B5 x.f4.length b5], .bool res.isSome]) ∧
      x.f3.length ≤ b4 ∧ x.f4.length ≤ b5 ∧ VRow d w' B4 x.f3 f4 ∧ NRow w' B5 x.f4 f5 ∧ (f4 ++ f5).Nodup ∧ (∀ q ∈ f4 ++ f5, w.heap.size ≤ q) ∧ Below w.heap.size w w'
/-- .. and the reference's. -/
abbrev SpecAtC (v : S28) (path : List ByteArray) (res : Option S28) : Prop := ∀ (w : World) (A4 : Option Addr) (c4 : Nat) (A5 : Option Addr) (c5 : Nat) (AP : Option Addr) (cP : Nat), Kd.C k28 w A4 v.f3.length v.f3 → v.f3.length ≤ c4 → Kd.C Kd.string w A5 v.f4.length v.f4 → v.f4.length ≤ c5 →
    Kd.C Kd.string w AP path.length path → path.length ≤ cP →
    Calls Tryd.prog 12 #[.agg #[.int .i64 v.f0, .int .i64 v.f1.f0, .int .i64 v.f1.f1, .string v.f2, .slice A4 v.f3.length c4, .slice A5 v.f4.length c5], .slice AP path.length cP] w fun e' w' => ∃ (x : S28) (v4 v5 : Value),
      x = orZero res ∧ e' = .returned (.tuple #[.agg #[.int .i64 x.f0, .int .i64 x.f1.f0, .int .i64 x.f1.f1, .string x.f2, v4, v5], .bool res.isSome]) ∧
      Kd.R k28 28 w' w.heap.size (fun _ => True) v4 x.f3 ∧ Kd.R Kd.string 9 w' w.heap.size (fun _ => True) v5 x.f4 ∧ Below w.heap.size w w'
end Go.Proofs.YtebcepbamlokcaaDoor.Q
namespace Go.Proofs.YtebcepbamlokcaaDoor.Q
open Go.RowKit Go.Proofs.YtebcepbamlokcaaDoorW.PrintWords Go.Proofs.YtebcepbamlokcaaDoorW.PrintLast Go.Proofs.YtebcepbamlokcaaDoorW.PrintMore
set_option linter.unusedVariables false
set_option linter.unusedSimpArgs false

set_option maxHeartbeats 8000000 in
set_option maxRecDepth 100000 in
theorem law_main (d : Nat) (a : S45) (path : List ByteArray) (v x : S28) (res : Option S28) (hv : v = toV (toL d) a) (hx : x = orZero res) (L1 L2 : Int)
    (hl1 : lessW 1048576 (a.f2.size + vw d a.f3 + nw a.f4) = L1) (h1 : 0 ≤ L1 ∧ L1 ≤ 1048576) (hl2 : lessW L1 (nw path) = L2) (h2 : 0 ≤ L2)
    (hbd : a.f2.size ≤ 140737488351232 ∧ a.f4.length ≤ 140737488351232 ∧ (∀ s ∈ a.f4, s.size ≤ 140737488351232) ∧ Bnd d a.f3) (hpb : path.length ≤ 140737488351232 ∧ ∀ s ∈ path, s.size ≤ 140737488351232) (hpl : path.length ≤ 2097152)
    (hf : Fit45 d a.f3 ∧ a.f4.length ≤ 2097152) (hV : FitV d v) (hX : FitV d x) (HI : ImplAtC d v path res) (HS : SpecAtC v path res)
    (w : World) (A4 : Option Addr) (c4 : Nat) (A5 : Option Addr) (c5 : Nat) (AP : Option Addr) (cP : Nat) (h4 : Kd.C k45 w A4 a.f3.length a.f3) (l4 : a.f3.length ≤ c4) (h5 : Kd.C Kd.string w A5 a.f4.length a.f4) (l5 : a.f4.length ≤ c5)
    (hp : Kd.C Kd.string w AP path.length path) (lp : path.length ≤ cP) (hG : LaidG 15 w) :
    Calls Tryd.prog 7 #[.agg #[.int .i64 a.f0, .int .i64 a.f1.f0, .int .i64 a.f1.f1, .string a.f2, .slice A4 a.f3.length c4, .slice A5 a.f4.length c5], .slice AP path.length cP] w fun e w' => e = .returned (.bool true) ∧ Below w.heap.size w w' := by
  have H4 := Aside0.mk h4; have H5 := Aside0.mk h5; have HP := Aside0.mk hp; have HG := Aside0.mk hG
  have HB := Aside0.mk hbd; have HPB := Aside0.mk hpb; have HPL := Aside0.mk hpl; have HF := Aside0.mk hf; have HV := Aside0.mk hV; have HX := Aside0.mk hX; have HL1 := Aside0.mk h1
  have d1 : decide (L1 < 0) = false := decide_eq_false (by omega)
  have d2 : decide (L2 < 0) = false := decide_eq_false (by omega)
  have HK1 : Aside0 (1 + (cnt d v.f3 : Nat) + v.f4.length + path.length ≤ (1099511627776 : Int)) := ⟨by have := hV.cn; omega⟩
  have d3 : decide (1 + ((cnt d v.f3 : Nat) : Int) + (v.f4.length : Int) + (path.length : Int) < 0) = false := decide_eq_false (by omega)
  have d4 : decide (1 + ((cnt d x.f3 : Nat) : Int) + (x.f4.length : Int) < 0) = false := decide_eq_false (by omega)
  have HVE := Aside0.mk hv; have HXE := Aside0.mk hx
  have mk_ := Mk.mk (n := 0)
  clear hv hx h4 h5 hp hG hbd hpb hpl hf hV hX h1 h2
  go_enter Tryd.func7, Tryd.ntmps7
  go_wp2_with (first
    | ((with_reducible refine gate_dst (N := 2) rfl ?_); refine box_event ?hg (N := 2) ?hd (cs := #[.int .i64 a.f0, .int .i64 a.f1.f0, .int .i64 a.f1.f1, .string a.f2, .slice A4 a.f3.length c4, .slice A5 a.f4.length c5]) (t := 45) ?hr ?_; (case hd => rfl); (case hg => rfl); (case hr => first | (go_simp; done) | (go_simp; rfl))
       intro ga hg wk hbox hb
       have BA := Aside0.mk hbox
       have L := Aside0.mk hb
       have gaw : w.heap.size ≤ ga := Nat.le_of_eq hg.symm
       clear hg hbox hb
       obtain ⟨p0, p1, p2, p3, p4, p5, -⟩ := six_cells BA.out)
    | (go_at_call 22
       have _st : Mk 0 := mk_
       refine (szValue_of d (szValueS_calls d) _ a.f0 a.f1.f0 a.f1.f1 a.f2 A4 c4 a.f3 A5 c5 a.f4 1048576 (Kd.C_below H4.out L.out) l4 (Kd.C_below H5.out L.out) l5 (by decide) (by decide) HB.out.1 HB.out.2.1 HB.out.2.2.1 HB.out.2.2.2).mono ?_
       rintro e' w2 ⟨rfl, hb⟩
       rw [hl1]
       replace BA := Aside0.mk (blk_keep BA.out hb (blk_lt BA.out))
       replace L := Aside0.mk (below_step L.out hb)
       clear hb
       clear p0 p1 p2 p3 p4 p5
       replace mk_ := Mk.mk (n := 1))
    | (go_at_call 29
       have _st : Mk 1 := mk_
       refine (szStringS_calls _ AP cP path L1 (Kd.C_below HP.out L.out) lp HL1.out.1 HL1.out.2 HPB.out.1 HPB.out.2).mono ?_
       rintro e' w3 ⟨rfl, hb⟩
       rw [hl2]
       replace BA := Aside0.mk (blk_keep BA.out hb (blk_lt BA.out))
       replace L := Aside0.mk (below_step L.out hb)
       clear hb
       obtain ⟨p0, p1, p2, p3, p4, p5, -⟩ := six_cells BA.out
       replace mk_ := Mk.mk (n := 2))
    | (go_at_call 24
       have _st : Mk 2 := mk_
       refine (toValue_v d a _ A4 c4 A5 c5 (Kd.C_below H4.out L.out) l4 (Kd.C_below H5.out L.out) l5 HF.out.1 HF.out.2 v HVE.out).mono ?_
       rintro e' wt ⟨E0, e0, E0', e0', k0, k0', rfl, tt, hF, hb⟩
       replace BA := Aside0.mk (blk_keep BA.out hb (blk_lt BA.out))
       replace L := Aside0.mk (below_step L.out hb)
       have T0 := Aside0.mk tt
       have F0 := Aside0.mk hF
       clear hb tt hF
       clear p0 p1 p2 p3 p4 p5
       replace mk_ := Mk.mk (n := 3))
    | (go_at_call 30
       have _st : Mk 3 := mk_
       refine (toStringS_calls _ AP cP path (Kd.C_below HP.out L.out) lp HPL.out).mono ?_
       rintro e' wt ⟨Q0, q0, m0, rfl, lq0, nn, nd, hF, hb⟩
       replace BA := Aside0.mk (blk_keep BA.out hb (blk_lt BA.out))
       replace L := Aside0.mk (below_step L.out hb)
       replace T0 := Aside0.mk (T0.out.below hb)
       have R0 := Aside0.mk nn
       have G0 := Aside0.mk hF
       clear hb nn nd hF
       replace mk_ := Mk.mk (n := 4))
    | (go_at_call 12
       have _st : Mk 4 := mk_
       have hn0 : Kd.C Kd.string _ Q0 path.length path := R0.out.reads (Nat.le_trans HPL.out (by decide))
       refine (HS _ E0 e0 E0' e0' Q0 q0 (T0.out.c4 HV.out) T0.out.l4 (T0.out.c5 HV.out) T0.out.l5 hn0 lq0).mono ?_
       rintro e' w6 ⟨y, v4, v5, hy, rfl, r4, r5, hb⟩
       obtain rfl : x = y := HXE.out.trans hy.symm
       obtain ⟨A6, c6, A6', c6', rfl, rfl, ra⟩ := ReadAt.of (hi := w6.heap.size) r4 r5 (Nat.le_refl _)
       replace BA := Aside0.mk (blk_keep BA.out hb (blk_lt BA.out))
       replace L := Aside0.mk (below_step L.out hb)
       have RA := Aside0.mk ra
       have HI := Aside0.mk (Nat.le_refl w6.heap.size)
       obtain ⟨hi, hhi⟩ : ∃ n, n = w6.heap.size := ⟨_, rfl⟩
       rw [← hhi] at RA
       have hwhi : w.heap.size ≤ hi := by rw [hhi]; exact L.out.size
       have HHI := Aside0.mk hhi
       clear hhi
       clear hb ra r4 r5 hn0 T0 R0 F0 G0 HI hy
       replace mk_ := Mk.mk (n := 5))
    | ((with_reducible refine gate_dst (N := 6) rfl ?_); refine box_event ?hg (N := 6) ?hd (cs := #[.int .i64 0, .int .i64 0, .int .i64 0, .string (⟨#[]⟩ : ByteArray), .slice none 0 0, .slice none 0 0]) (t := 28) ?hr ?_; (case hd => rfl); (case hg => rfl); (case hr => first | (go_simp; done) | (go_simp; rfl))
       intro g6 hg wk hbox hb
       have hgag6 : ga ≠ g6 := by have := blk_lt BA.out; omega
       have hg6ga := hgag6.symm
       have hig6 : hi ≤ g6 := by have := HHI.out; omega
       skip
       have gwg6 : w.heap.size ≤ g6 := by have := L.out.size; omega
       replace BA := Aside0.mk (blk_keep BA.out hb (blk_lt BA.out))
       replace L := Aside0.mk (below_step L.out hb)
       replace RA := Aside0.mk (RA.out.below hb)
       have B6 := Aside0.mk hbox
       clear hg hbox hb
       obtain ⟨r0, r1, r2, r3, r4, r5, zr0, zr1, zr2, zr3, zr4, zr5⟩ := six_cells B6.out
       obtain ⟨p0, p1, p2, p3, p4, p5, -⟩ := six_cells BA.out)
    | (go_at_call 24
       have _st : Mk 5 := mk_
       have hk := six_kept wk g6 (.int .i64 x.f0) (.int .i64 x.f1.f0) (.int .i64 x.f1.f1) (.string x.f2) (.slice A6 x.f3.length c6) (.slice A6' x.f4.length c6')
       have b_ := six_put (v0 := .int .i64 x.f0) (v1 := .int .i64 x.f1.f0) (v2 := .int .i64 x.f1.f1) (v3 := .string x.f2) (v4 := .slice A6 x.f3.length c6) (v5 := .slice A6' x.f4.length c6') B6.out
       have l_ := six_below (v0 := .int .i64 x.f0) (v1 := .int .i64 x.f1.f0) (v2 := .int .i64 x.f1.f1) (v3 := .string x.f2) (v4 := .slice A6 x.f3.length c6) (v5 := .slice A6' x.f4.length c6') L.out gwg6
       clear r0 r1 r2 r3 r4 r5 zr0 zr1 zr2 zr3 zr4 zr5
       generalize (((((wk.setCell ⟨g6, 0, none⟩ (.int .i64 x.f0)).setCell ⟨g6, 1, none⟩ (.int .i64 x.f1.f0)).setCell ⟨g6, 2, none⟩ (.int .i64 x.f1.f1)).setCell ⟨g6, 3, none⟩ (.string x.f2)).setCell ⟨g6, 4, none⟩ (.slice A6 x.f3.length c6)).setCell ⟨g6, 5, none⟩ (.slice A6' x.f4.length c6') = w8 at *
       replace BA := Aside0.mk (blk_kept BA.out hk (fun h => hgag6 h))
       replace RA := Aside0.mk (RA.out.kept hk (fun q h => by rw [h]; exact hig6))
       replace B6 := Aside0.mk b_
       replace L := Aside0.mk l_
       clear hk b_ l_
       clear p0 p1 p2 p3 p4 p5
       have blk_lt_b8 := blk_lt BA.out
       have blk_lt_b6 := blk_lt B6.out
       refine (toValue_v d a _ A4 c4 A5 c5 (Kd.C_below H4.out L.out) l4 (Kd.C_below H5.out L.out) l5 HF.out.1 HF.out.2 v HVE.out).mono ?_
       rintro e' wt ⟨E1, e1, E1', e1', k1, k1', rfl, tt, hF, hb⟩
       replace BA := Aside0.mk (blk_keep BA.out hb (blk_lt BA.out))
       replace L := Aside0.mk (below_step L.out hb)
       replace RA := Aside0.mk (RA.out.below hb)
       replace B6 := Aside0.mk (blk_keep B6.out hb (blk_lt B6.out))
       have T1 := Aside0.mk tt
       have F1 := Aside0.mk hF
       clear hb tt hF
       have hF1 : ∀ q ∈ k1 ++ k1', hi ≤ q ∧ ga ≠ q ∧ g6 ≠ q := fun q hq => by have h1 := F1.out q hq; have := blk_lt_b8; have := blk_lt_b6; have := hig6; omega
       clear blk_lt_b8 blk_lt_b6
       replace mk_ := Mk.mk (n := 6))
    | ((with_reducible refine gate_dst (N := 8) rfl ?_); refine box_event ?hg (N := 8) ?hd (cs := #[.int .i64 0, .int .i64 0, .int .i64 0, .string (⟨#[]⟩ : ByteArray), .slice none 0 0, .slice none 0 0]) (t := 28) ?hr ?_; (case hd => rfl); (case hg => rfl); (case hr => first | (go_simp; done) | (go_simp; rfl))
       intro g8 hg wk hbox hb
       have hgag8 : ga ≠ g8 := by have := blk_lt BA.out; omega
       have hg8ga := hgag8.symm
       have hg6g8 : g6 ≠ g8 := by have := blk_lt B6.out; omega
       have hg8g6 := hg6g8.symm
       have hig8 : hi ≤ g8 := by have := hig6; have := blk_lt B6.out; omega
       have hT1g8 : ∀ q ∈ k1 ++ k1', q ≠ g8 := fun q hq => by have := TreeAt.lt T1.out q hq; omega
       have gwg8 : w.heap.size ≤ g8 := by have := L.out.size; omega
       replace BA := Aside0.mk (blk_keep BA.out hb (blk_lt BA.out))
       replace L := Aside0.mk (below_step L.out hb)
       replace RA := Aside0.mk (RA.out.below hb)
       replace B6 := Aside0.mk (blk_keep B6.out hb (blk_lt B6.out))
       replace T1 := Aside0.mk (T1.out.below hb)
       have B8 := Aside0.mk hbox
       clear hg hbox hb
       obtain ⟨r0, r1, r2, r3, r4, r5, zr0, zr1, zr2, zr3, zr4, zr5⟩ := six_cells B8.out)
    | (go_at_call 30
       have _st : Mk 6 := mk_
       have hk := six_kept wk g8 (.int .i64 v.f0) (.int .i64 v.f1.f0) (.int .i64 v.f1.f1) (.string v.f2) (.slice E1 v.f3.length e1) (.slice E1' v.f4.length e1')
       have b_ := six_put (v0 := .int .i64 v.f0) (v1 := .int .i64 v.f1.f0) (v2 := .int .i64 v.f1.f1) (v3 := .string v.f2) (v4 := .slice E1 v.f3.length e1) (v5 := .slice E1' v.f4.length e1') B8.out
       have l_ := six_below (v0 := .int .i64 v.f0) (v1 := .int .i64 v.f1.f0) (v2 := .int .i64 v.f1.f1) (v3 := .string v.f2) (v4 := .slice E1 v.f3.length e1) (v5 := .slice E1' v.f4.length e1') L.out gwg8
       clear r0 r1 r2 r3 r4 r5 zr0 zr1 zr2 zr3 zr4 zr5
       generalize (((((wk.setCell ⟨g8, 0, none⟩ (.int .i64 v.f0)).setCell ⟨g8, 1, none⟩ (.int .i64 v.f1.f0)).setCell ⟨g8, 2, none⟩ (.int .i64 v.f1.f1)).setCell ⟨g8, 3, none⟩ (.string v.f2)).setCell ⟨g8, 4, none⟩ (.slice E1 v.f3.length e1)).setCell ⟨g8, 5, none⟩ (.slice E1' v.f4.length e1') = w10 at *
       replace BA := Aside0.mk (blk_kept BA.out hk (fun h => hgag8 h))
       replace RA := Aside0.mk (RA.out.kept hk (fun q h => by rw [h]; exact hig8))
       replace B6 := Aside0.mk (blk_kept B6.out hk (fun h => hg6g8 h))
       replace T1 := Aside0.mk (T1.out.kept hk (fun q hq h => hT1g8 q hq h))
       replace B8 := Aside0.mk b_
       replace L := Aside0.mk l_
       clear hk b_ l_
       have laa := blk_lt BA.out
       have la6 := blk_lt B6.out
       have la8 := blk_lt B8.out
       have lat := TreeAt.lt T1.out
       refine (toStringS_calls _ AP cP path (Kd.C_below HP.out L.out) lp HPL.out).mono ?_
       rintro e' wt ⟨Q1, q1, m1, rfl, lq1, nn, nd, hF, hb⟩
       replace BA := Aside0.mk (blk_keep BA.out hb (blk_lt BA.out))
       replace L := Aside0.mk (below_step L.out hb)
       replace RA := Aside0.mk (RA.out.below hb)
       replace B6 := Aside0.mk (blk_keep B6.out hb (blk_lt B6.out))
       replace T1 := Aside0.mk (T1.out.below hb)
       replace B8 := Aside0.mk (blk_keep B8.out hb (blk_lt B8.out))
       have R1 := Aside0.mk nn
       have G1 := Aside0.mk hF
       clear hb nn nd hF
       obtain ⟨s0, s1, s2, s3, s4, s5, -⟩ := six_cells B8.out
       have hG1 : ∀ q ∈ m1, hi ≤ q ∧ ga ≠ q ∧ g6 ≠ q ∧ g8 ≠ q ∧ q ∉ k1 ++ k1' := fun q hq => by have h1 := G1.out q hq; have h2 := la8; have h3 := la6; have h4 := laa; have h5 := hig6; exact ⟨by omega, by omega, by omega, by omega, fun hm => by have := lat q hm; omega⟩
       clear la8 la6 laa lat
       replace mk_ := Mk.mk (n := 7))
    | (go_at_call 11
       have _st : Mk 7 := mk_
       have laa := blk_lt BA.out
       have la6 := blk_lt B6.out
       have la8 := blk_lt B8.out
       have lat := TreeAt.lt T1.out
       have lar := NRow.lt R1.out
       have hn0 := R1.out.reads (Nat.le_trans HPL.out (by decide))
       refine (HI _ E1 e1 E1' e1' Q1 q1 (T1.out.c4 HV.out) T1.out.l4 (T1.out.c5 HV.out) T1.out.l5 hn0 lq1 (LaidG.below (m := 15) (by decide) HG.out L.out)).mono ?_
       rintro e' wt ⟨y, E2, e2, E2', e2', k2, k2', hy, rfl, u4, u5, uV, uN, uD, hF, hb⟩
       obtain rfl : x = y := HXE.out.trans hy.symm
       replace BA := Aside0.mk (blk_keep BA.out hb (blk_lt BA.out))
       replace L := Aside0.mk (below_step L.out hb)
       replace RA := Aside0.mk (RA.out.below hb)
       replace B6 := Aside0.mk (blk_keep B6.out hb (blk_lt B6.out))
       replace T1 := Aside0.mk (T1.out.below hb)
       replace B8 := Aside0.mk (blk_keep B8.out hb (blk_lt B8.out))
       replace R1 := Aside0.mk (NRow.same R1.out (Same.below (NRow.lt R1.out) hb))
       have T2 := Aside0.mk (TreeAt.mk u4 u5 uV uN uD)
       have F2 := Aside0.mk hF
       clear hb u4 u5 uV uN uD hF hn0 hy
       clear s0 s1 s2 s3 s4 s5
       have hF2 : ∀ q ∈ k2 ++ k2', hi ≤ q ∧ ga ≠ q ∧ g6 ≠ q ∧ g8 ≠ q ∧ q ∉ k1 ++ k1' ∧ q ∉ m1 := fun q hq => by have h1 := F2.out q hq; have h2 := la8; have h3 := la6; have h4 := laa; have h5 := hig6; exact ⟨by omega, by omega, by omega, by omega, fun hm => (by have := lat q hm; omega), fun hm => (by have := lar q hm; omega)⟩
       clear la8 la6 laa lat lar
       replace mk_ := Mk.mk (n := 8))
    | ((with_reducible refine gate_dst (N := 10) rfl ?_); refine box_event ?hg (N := 10) ?hd (cs := #[.int .i64 0, .int .i64 0, .int .i64 0, .string (⟨#[]⟩ : ByteArray), .slice none 0 0, .slice none 0 0]) (t := 28) ?hr ?_; (case hd => rfl); (case hg => rfl); (case hr => first | (go_simp; done) | (go_simp; rfl))
       intro g10 hg wk hbox hb
       have hgag10 : ga ≠ g10 := by have := blk_lt BA.out; omega
       have hg10ga := hgag10.symm
       have hg6g10 : g6 ≠ g10 := by have := blk_lt B6.out; omega
       have hg10g6 := hg6g10.symm
       have hg8g10 : g8 ≠ g10 := by have := blk_lt B8.out; omega
       have hg10g8 := hg8g10.symm
       have hig10 : hi ≤ g10 := by have := hig6; have := blk_lt B6.out; omega
       have hT1g10 : ∀ q ∈ k1 ++ k1', q ≠ g10 := fun q hq => by have := TreeAt.lt T1.out q hq; omega
       have hR1g10 : ∀ q ∈ m1, q ≠ g10 := fun q hq => by have := NRow.lt R1.out q hq; omega
       have hT2g10 : ∀ q ∈ k2 ++ k2', q ≠ g10 := fun q hq => by have := TreeAt.lt T2.out q hq; omega
       have gwg10 : w.heap.size ≤ g10 := by have := L.out.size; omega
       replace BA := Aside0.mk (blk_keep BA.out hb (blk_lt BA.out))
       replace L := Aside0.mk (below_step L.out hb)
       replace RA := Aside0.mk (RA.out.below hb)
       replace B6 := Aside0.mk (blk_keep B6.out hb (blk_lt B6.out))
       replace T1 := Aside0.mk (T1.out.below hb)
       replace B8 := Aside0.mk (blk_keep B8.out hb (blk_lt B8.out))
       replace R1 := Aside0.mk (NRow.same R1.out (Same.below (NRow.lt R1.out) hb))
       replace T2 := Aside0.mk (T2.out.below hb)
       have B10 := Aside0.mk hbox
       clear hg hbox hb
       obtain ⟨r0, r1, r2, r3, r4, r5, zr0, zr1, zr2, zr3, zr4, zr5⟩ := six_cells B10.out
       obtain ⟨s0, s1, s2, s3, s4, s5, -⟩ := six_cells B6.out)
    | (go_at_call 26
       have _st : Mk 8 := mk_
       have hk := six_kept wk g10 (.int .i64 x.f0) (.int .i64 x.f1.f0) (.int .i64 x.f1.f1) (.string x.f2) (.slice E2 x.f3.length e2) (.slice E2' x.f4.length e2')
       have b_ := six_put (v0 := .int .i64 x.f0) (v1 := .int .i64 x.f1.f0) (v2 := .int .i64 x.f1.f1) (v3 := .string x.f2) (v4 := .slice E2 x.f3.length e2) (v5 := .slice E2' x.f4.length e2') B10.out
       have l_ := six_below (v0 := .int .i64 x.f0) (v1 := .int .i64 x.f1.f0) (v2 := .int .i64 x.f1.f1) (v3 := .string x.f2) (v4 := .slice E2 x.f3.length e2) (v5 := .slice E2' x.f4.length e2') L.out gwg10
       clear r0 r1 r2 r3 r4 r5 zr0 zr1 zr2 zr3 zr4 zr5
       generalize (((((wk.setCell ⟨g10, 0, none⟩ (.int .i64 x.f0)).setCell ⟨g10, 1, none⟩ (.int .i64 x.f1.f0)).setCell ⟨g10, 2, none⟩ (.int .i64 x.f1.f1)).setCell ⟨g10, 3, none⟩ (.string x.f2)).setCell ⟨g10, 4, none⟩ (.slice E2 x.f3.length e2)).setCell ⟨g10, 5, none⟩ (.slice E2' x.f4.length e2') = w13 at *
       replace BA := Aside0.mk (blk_kept BA.out hk (fun h => hgag10 h))
       replace RA := Aside0.mk (RA.out.kept hk (fun q h => by rw [h]; exact hig10))
       replace B6 := Aside0.mk (blk_kept B6.out hk (fun h => hg6g10 h))
       replace T1 := Aside0.mk (T1.out.kept hk (fun q hq h => hT1g10 q hq h))
       replace B8 := Aside0.mk (blk_kept B8.out hk (fun h => hg8g10 h))
       replace R1 := Aside0.mk (NRow.same R1.out (Same.kept (NRow.lt R1.out) hk (fun q hq h => hR1g10 q hq h)))
       replace T2 := Aside0.mk (T2.out.kept hk (fun q hq h => hT2g10 q hq h))
       replace B10 := Aside0.mk b_
       replace L := Aside0.mk l_
       clear hk b_ l_
       clear s0 s1 s2 s3 s4 s5
       refine (eqValue_v d x HX.out _ E2 A6 e2 c6 E2' A6' e2' c6' (T2.out.c4 HX.out) RA.out.c4_ T2.out.l4 RA.out.l4 (T2.out.c5 HX.out) RA.out.c5_ T2.out.l5 RA.out.l5).mono ?_
       rintro e' wt ⟨rfl, hb⟩
       replace BA := Aside0.mk (blk_keep BA.out hb (blk_lt BA.out))
       replace L := Aside0.mk (below_step L.out hb)
       replace RA := Aside0.mk (RA.out.below hb)
       replace B6 := Aside0.mk (blk_keep B6.out hb (blk_lt B6.out))
       replace T1 := Aside0.mk (T1.out.below hb)
       replace B8 := Aside0.mk (blk_keep B8.out hb (blk_lt B8.out))
       replace R1 := Aside0.mk (NRow.same R1.out (Same.below (NRow.lt R1.out) hb))
       replace T2 := Aside0.mk (T2.out.below hb)
       replace B10 := Aside0.mk (blk_keep B10.out hb (blk_lt B10.out))
       clear hb
       replace mk_ := Mk.mk (n := 9)))
  obtain ⟨s0, s1, s2, s3, s4, s5, -⟩ := six_cells B8.out
  obtain ⟨p0, p1, p2, p3, p4, p5, -⟩ := six_cells BA.out
  refine start_ (n := 5) (S := fun w' => w'.cell? ⟨g8, 0, none⟩ = some (.int .i64 v.f0) ∧ w'.cell? ⟨g8, 1, none⟩ = some (.int .i64 v.f1.f0) ∧ w'.cell? ⟨g8, 2, none⟩ = some (.int .i64 v.f1.f1) ∧ w'.cell? ⟨g8, 3, none⟩ = some (.string v.f2) ∧ w'.cell? ⟨g8, 4, none⟩ = some (.slice E1 v.f3.length e1) ∧ w'.cell? ⟨g8, 5, none⟩ = some (.slice E1' v.f4.length e1') ∧ w'.cell? ⟨ga, 0, none⟩ = some (.int .i64 a.f0) ∧ w'.cell? ⟨ga, 1, none⟩ = some (.int .i64 a.f1.f0) ∧ w'.cell? ⟨ga, 2, none⟩ = some (.int .i64 a.f1.f1) ∧ w'.cell? ⟨ga, 3, none⟩ = some (.string a.f2) ∧ w'.cell? ⟨ga, 4, none⟩ = some (.slice A4 a.f3.length c4) ∧ w'.cell? ⟨ga, 5, none⟩ = some (.slice A5 a.f4.length c5)) (ds := []) #[false, false, false, false, false] (by kernel_rfl) rfl rfl (⟨s0, s1, s2, s3, s4, s5, p0, p1, p2, p3, p4, p5⟩) (fun hHeld => ?_)
  replace L := Aside0.mk (below_drew1 L.out)
  replace BA := Aside0.mk (show wt.drew.heap[ga]? = _ from BA.out)
  replace RA := Aside0.mk (ReadAt.below (W' := wt.drew) RA.out (below_drew1 (Below.refl _ _)))
  replace B6 := Aside0.mk (show wt.drew.heap[g6]? = _ from B6.out)
  replace T1 := Aside0.mk (TreeAt.below (W' := wt.drew) T1.out (below_drew1 (Below.refl _ _)))
  replace B8 := Aside0.mk (show wt.drew.heap[g8]? = _ from B8.out)
  replace R1 := Aside0.mk (NRow.same (w1 := wt.drew) R1.out (fun _ _ => rfl))
  replace T2 := Aside0.mk (TreeAt.below (W' := wt.drew) T2.out (below_drew1 (Below.refl _ _)))
  replace B10 := Aside0.mk (show wt.drew.heap[g10]? = _ from B10.out)
  clear hHeld
  generalize wt.drew = wd at *
  obtain ⟨s0, s1, s2, s3, s4, s5, -⟩ := six_cells B8.out
  obtain ⟨p0, p1, p2, p3, p4, p5, -⟩ := six_cells BA.out
  have hHeld := (⟨s0, s1, s2, s3, s4, s5, p0, p1, p2, p3, p4, p5⟩ : wd.cell? ⟨g8, 0, none⟩ = some (.int .i64 v.f0) ∧ wd.cell? ⟨g8, 1, none⟩ = some (.int .i64 v.f1.f0) ∧ wd.cell? ⟨g8, 2, none⟩ = some (.int .i64 v.f1.f1) ∧ wd.cell? ⟨g8, 3, none⟩ = some (.string v.f2) ∧ wd.cell? ⟨g8, 4, none⟩ = some (.slice E1 v.f3.length e1) ∧ wd.cell? ⟨g8, 5, none⟩ = some (.slice E1' v.f4.length e1') ∧ wd.cell? ⟨ga, 0, none⟩ = some (.int .i64 a.f0) ∧ wd.cell? ⟨ga, 1, none⟩ = some (.int .i64 a.f1.f0) ∧ wd.cell? ⟨ga, 2, none⟩ = some (.int .i64 a.f1.f1) ∧ wd.cell? ⟨ga, 3, none⟩ = some (.string a.f2) ∧ wd.cell? ⟨ga, 4, none⟩ = some (.slice A4 a.f3.length c4) ∧ wd.cell? ⟨ga, 5, none⟩ = some (.slice A5 a.f4.length c5))
  refine take_ (i := 0) (N := some 54) (v := ?_) (a' := ?_) #[true, false, false, false, false] rfl rfl (by kernel_rfl) (fun _ _ _ h => h) (Or.inl ⟨by rfl, ?_⟩) hHeld ?_ ?_
  rotate_left
  · intro w' s0
    obtain ⟨t0, t1, t2, t3, t4, t5, t6, t7, t8, t9, t10, t11⟩ := s0
    go_simp; with_reducible rfl
  rotate_left
  · simp only [Act.put, List.setIfInBounds_toArray, List.set_cons_zero, List.set_cons_succ, i64_w, i32_w]; rfl
  refine take_ (i := 1) (N := some 55) (v := ?_) (a' := ?_) #[true, true, false, false, false] rfl rfl (by kernel_rfl) (fun _ _ _ h => h) (Or.inl ⟨by rfl, ?_⟩) hHeld ?_ ?_
  rotate_left
  · intro w' s0
    obtain ⟨t0, t1, t2, t3, t4, t5, t6, t7, t8, t9, t10, t11⟩ := s0
    go_simp; with_reducible rfl
  rotate_left
  · simp only [Act.put, List.setIfInBounds_toArray, List.set_cons_zero, List.set_cons_succ, i64_w, i32_w]; rfl
  refine one_ (i := 2) (N := some 56) #[true, true, true, false, false] rfl rfl (by kernel_rfl) (by decide) (fun K hK => ?_)
  refine goes_ Tryd.func24 (by kernel_rfl) rfl #[.agg #[.int .i64 a.f0, .int .i64 a.f1.f0, .int .i64 a.f1.f1, .string a.f2, .slice A4 a.f3.length c4, .slice A5 a.f4.length c5]] (by rfl) rfl rfl (by (try simp only [List.map_toArray, List.map_cons, List.map_nil]); first | done | rfl) ?_
  with_reducible refine (toValue_v d a _ A4 c4 A5 c5 (Kd.C_below H4.out L.out) l4 (Kd.C_below H5.out L.out) l5 HF.out.1 HF.out.2 v HVE.out).mono ?_
  rintro e' wt1 ⟨E3, e3, E3', e3', k3, k3', rfl, tt, hF, hb⟩
  replace BA := Aside0.mk (blk_keep BA.out hb (blk_lt BA.out))
  replace L := Aside0.mk (below_step L.out hb)
  replace RA := Aside0.mk (RA.out.below hb)
  replace B6 := Aside0.mk (blk_keep B6.out hb (blk_lt B6.out))
  replace T1 := Aside0.mk (T1.out.below hb)
  replace B8 := Aside0.mk (blk_keep B8.out hb (blk_lt B8.out))
  replace R1 := Aside0.mk (NRow.same R1.out (Same.below (NRow.lt R1.out) hb))
  replace T2 := Aside0.mk (T2.out.below hb)
  replace B10 := Aside0.mk (blk_keep B10.out hb (blk_lt B10.out))
  have T3 := Aside0.mk tt
  clear tt hF
  have hH1 := (⟨(hb.cell (World.block_lt_of_cell? _ _ s0)).trans s0, (hb.cell (World.block_lt_of_cell? _ _ s1)).trans s1, (hb.cell (World.block_lt_of_cell? _ _ s2)).trans s2, (hb.cell (World.block_lt_of_cell? _ _ s3)).trans s3, (hb.cell (World.block_lt_of_cell? _ _ s4)).trans s4, (hb.cell (World.block_lt_of_cell? _ _ s5)).trans s5, (hb.cell (World.block_lt_of_cell? _ _ p0)).trans p0, (hb.cell (World.block_lt_of_cell? _ _ p1)).trans p1, (hb.cell (World.block_lt_of_cell? _ _ p2)).trans p2, (hb.cell (World.block_lt_of_cell? _ _ p3)).trans p3, (hb.cell (World.block_lt_of_cell? _ _ p4)).trans p4, (hb.cell (World.block_lt_of_cell? _ _ p5)).trans p5⟩ : wt1.cell? ⟨g8, 0, none⟩ = some (.int .i64 v.f0) ∧ wt1.cell? ⟨g8, 1, none⟩ = some (.int .i64 v.f1.f0) ∧ wt1.cell? ⟨g8, 2, none⟩ = some (.int .i64 v.f1.f1) ∧ wt1.cell? ⟨g8, 3, none⟩ = some (.string v.f2) ∧ wt1.cell? ⟨g8, 4, none⟩ = some (.slice E1 v.f3.length e1) ∧ wt1.cell? ⟨g8, 5, none⟩ = some (.slice E1' v.f4.length e1') ∧ wt1.cell? ⟨ga, 0, none⟩ = some (.int .i64 a.f0) ∧ wt1.cell? ⟨ga, 1, none⟩ = some (.int .i64 a.f1.f0) ∧ wt1.cell? ⟨ga, 2, none⟩ = some (.int .i64 a.f1.f1) ∧ wt1.cell? ⟨ga, 3, none⟩ = some (.string a.f2) ∧ wt1.cell? ⟨ga, 4, none⟩ = some (.slice A4 a.f3.length c4) ∧ wt1.cell? ⟨ga, 5, none⟩ = some (.slice A5 a.f4.length c5))
  clear s0 s1 s2 s3 s4 s5 p0 p1 p2 p3 p4 p5
  obtain ⟨s0, s1, s2, s3, s4, s5, p0, p1, p2, p3, p4, p5⟩ := id hH1
  refine ⟨_, rfl, hK.out _ _ (hH1) (fun hHeld => ?_)⟩
  clear hK K
  refine norm_ (a' := ?_) ?_ ?_
  rotate_left
  · show Act.put _ (some 56) _ = _
    simp only [Act.put, List.setIfInBounds_toArray, List.set_cons_zero, List.set_cons_succ, i64_w, i32_w]; rfl
  refine one_ (i := 3) (N := some 57) #[true, true, true, true, false] rfl rfl (by kernel_rfl) (by decide) (fun K hK => ?_)
  refine goes_ Tryd.func26 (by kernel_rfl) rfl #[.agg #[.int .i64 v.f0, .int .i64 v.f1.f0, .int .i64 v.f1.f1, .string v.f2, .slice E1 v.f3.length e1, .slice E1' v.f4.length e1'], .agg #[.int .i64 v.f0, .int .i64 v.f1.f0, .int .i64 v.f1.f1, .string v.f2, .slice E3 v.f3.length e3, .slice E3' v.f4.length e3']] (by rfl) rfl rfl (by (try simp only [List.map_toArray, List.map_cons, List.map_nil]); first | done | rfl) ?_
  with_reducible refine (eqValue_v d v HV.out _ E1 E3 e1 e3 E1' E3' e1' e3' (T1.out.c4 HV.out) (T3.out.c4 HV.out) T1.out.l4 T3.out.l4 (T1.out.c5 HV.out) (T3.out.c5 HV.out) T1.out.l5 T3.out.l5).mono ?_
  clear hb
  rintro e' wt2 ⟨rfl, hb⟩
  replace BA := Aside0.mk (blk_keep BA.out hb (blk_lt BA.out))
  replace L := Aside0.mk (below_step L.out hb)
  replace RA := Aside0.mk (RA.out.below hb)
  replace B6 := Aside0.mk (blk_keep B6.out hb (blk_lt B6.out))
  replace T1 := Aside0.mk (T1.out.below hb)
  replace B8 := Aside0.mk (blk_keep B8.out hb (blk_lt B8.out))
  replace R1 := Aside0.mk (NRow.same R1.out (Same.below (NRow.lt R1.out) hb))
  replace T2 := Aside0.mk (T2.out.below hb)
  replace B10 := Aside0.mk (blk_keep B10.out hb (blk_lt B10.out))
  have hH2 := (⟨(hb.cell (World.block_lt_of_cell? _ _ s0)).trans s0, (hb.cell (World.block_lt_of_cell? _ _ s1)).trans s1, (hb.cell (World.block_lt_of_cell? _ _ s2)).trans s2, (hb.cell (World.block_lt_of_cell? _ _ s3)).trans s3, (hb.cell (World.block_lt_of_cell? _ _ s4)).trans s4, (hb.cell (World.block_lt_of_cell? _ _ s5)).trans s5, (hb.cell (World.block_lt_of_cell? _ _ p0)).trans p0, (hb.cell (World.block_lt_of_cell? _ _ p1)).trans p1, (hb.cell (World.block_lt_of_cell? _ _ p2)).trans p2, (hb.cell (World.block_lt_of_cell? _ _ p3)).trans p3, (hb.cell (World.block_lt_of_cell? _ _ p4)).trans p4, (hb.cell (World.block_lt_of_cell? _ _ p5)).trans p5⟩ : wt2.cell? ⟨g8, 0, none⟩ = some (.int .i64 v.f0) ∧ wt2.cell? ⟨g8, 1, none⟩ = some (.int .i64 v.f1.f0) ∧ wt2.cell? ⟨g8, 2, none⟩ = some (.int .i64 v.f1.f1) ∧ wt2.cell? ⟨g8, 3, none⟩ = some (.string v.f2) ∧ wt2.cell? ⟨g8, 4, none⟩ = some (.slice E1 v.f3.length e1) ∧ wt2.cell? ⟨g8, 5, none⟩ = some (.slice E1' v.f4.length e1') ∧ wt2.cell? ⟨ga, 0, none⟩ = some (.int .i64 a.f0) ∧ wt2.cell? ⟨ga, 1, none⟩ = some (.int .i64 a.f1.f0) ∧ wt2.cell? ⟨ga, 2, none⟩ = some (.int .i64 a.f1.f1) ∧ wt2.cell? ⟨ga, 3, none⟩ = some (.string a.f2) ∧ wt2.cell? ⟨ga, 4, none⟩ = some (.slice A4 a.f3.length c4) ∧ wt2.cell? ⟨ga, 5, none⟩ = some (.slice A5 a.f4.length c5))
  clear s0 s1 s2 s3 s4 s5 p0 p1 p2 p3 p4 p5
  refine ⟨_, rfl, hK.out _ _ (hH2) (fun hHeld => ?_)⟩
  clear hK K
  refine norm_ (a' := ?_) ?_ ?_
  rotate_left
  · show Act.put _ (some 57) _ = _
    simp only [Act.put, List.setIfInBounds_toArray, List.set_cons_zero, List.set_cons_succ, i64_w, i32_w]; rfl
  refine pure_ (i := 4) (N := some 58) (v := ?_) (a' := ?_) #[true, true, true, true, true] rfl rfl (by kernel_rfl) (fun _ _ _ h => h) (Or.inl ⟨by rfl, ?_⟩) ?_ ?_
  rotate_left
  · intro w'
    go_simp; with_reducible rfl
  rotate_left
  · simp only [Act.put, List.setIfInBounds_toArray, List.set_cons_zero, List.set_cons_succ, i64_w, i32_w]; rfl
  refine done_ (by kernel_rfl) ?_
  clear hH1 hH2 hHeld T3
  replace mk_ := Mk.mk (n := 10)
  go_wp2_with (first
    | (go_at_call 30
       have _st : Mk 10 := mk_
       refine (toStringS_calls _ AP cP path (Kd.C_below HP.out L.out) lp HPL.out).mono ?_
       rintro e' wt ⟨Q2, q2, m2, rfl, lq2, nn, nd, hF, hb⟩
       replace BA := Aside0.mk (blk_keep BA.out hb (blk_lt BA.out))
       replace L := Aside0.mk (below_step L.out hb)
       replace RA := Aside0.mk (RA.out.below hb)
       replace B6 := Aside0.mk (blk_keep B6.out hb (blk_lt B6.out))
       replace T1 := Aside0.mk (T1.out.below hb)
       replace B8 := Aside0.mk (blk_keep B8.out hb (blk_lt B8.out))
       replace R1 := Aside0.mk (NRow.same R1.out (Same.below (NRow.lt R1.out) hb))
       replace T2 := Aside0.mk (T2.out.below hb)
       replace B10 := Aside0.mk (blk_keep B10.out hb (blk_lt B10.out))
       have R2 := Aside0.mk nn
       have G2 := Aside0.mk hF
       clear hb nn nd hF
       replace mk_ := Mk.mk (n := 11))
    | (go_at_call 31
       have _st : Mk 11 := mk_
       refine (eqStringS_calls _ Q1 Q2 q1 q2 path (R1.out.reads (Nat.le_trans HPL.out (by decide))) (R2.out.reads (Nat.le_trans HPL.out (by decide))) lq1 lq2).mono ?_
       rintro e' wt ⟨rfl, hb⟩
       replace BA := Aside0.mk (blk_keep BA.out hb (blk_lt BA.out))
       replace L := Aside0.mk (below_step L.out hb)
       replace RA := Aside0.mk (RA.out.below hb)
       replace B6 := Aside0.mk (blk_keep B6.out hb (blk_lt B6.out))
       replace T1 := Aside0.mk (T1.out.below hb)
       replace B8 := Aside0.mk (blk_keep B8.out hb (blk_lt B8.out))
       replace R1 := Aside0.mk (NRow.same R1.out (Same.below (NRow.lt R1.out) hb))
       replace T2 := Aside0.mk (T2.out.below hb)
       replace B10 := Aside0.mk (blk_keep B10.out hb (blk_lt B10.out))
       clear hb R2 G2
       obtain ⟨s0, s1, s2, s3, s4, s5, -⟩ := six_cells B8.out
       replace mk_ := Mk.mk (n := 12))
    | (go_at_call 27
       have _st : Mk 12 := mk_
       refine (markValue_v d v HV.out w _ E1 e1 E1' e1' k1 k1' T1.out L.out (fun q hq => Nat.le_trans hwhi (hF1 q hq).1)).mono ?_
       rintro e' wt ⟨rfl, ⟨vm1, tm, d3, d4, dc, dm, dn⟩, hl, hk⟩
       replace BA := Aside0.mk (blk_kept BA.out hk (fun h => (hF1 _ h).2.1 rfl))
       replace RA := Aside0.mk (RA.out.kept hk (fun q h => (hF1 q h).1))
       replace B6 := Aside0.mk (blk_kept B6.out hk (fun h => (hF1 _ h).2.2 rfl))
       replace B8 := Aside0.mk (blk_kept B8.out hk (fun h => hT1g8 _ h rfl))
       replace R1 := Aside0.mk (NRow.same R1.out (Same.kept (NRow.lt R1.out) hk (fun q hq h => (hG1 q hq).2.2.2.2 h)))
       replace T2 := Aside0.mk (T2.out.kept hk (fun q hq h => (hF2 q hq).2.2.2.2.1 h))
       replace B10 := Aside0.mk (blk_kept B10.out hk (fun h => hT1g10 _ h rfl))
       replace L := Aside0.mk hl
       clear tm d3 d4 dc dm dn T1
       clear s0 s1 s2 s3 s4 s5
       clear hk hl
       replace mk_ := Mk.mk (n := 13))
    | (go_at_call 32
       have _st : Mk 13 := mk_
       refine (markStringS_calls w _ Q1 q1 path m1 (1 + (cnt d v.f3 : Nat) + v.f4.length) R1.out lq1 (by omega) HK1.out L.out (fun q hq => Nat.le_trans hwhi (hG1 q hq).1)).mono ?_
       rintro e' wt ⟨rfl, -, hl, hk⟩
       replace BA := Aside0.mk (blk_kept BA.out hk (fun h => (hG1 _ h).2.1 rfl))
       replace RA := Aside0.mk (RA.out.kept hk (fun q h => (hG1 q h).1))
       replace B6 := Aside0.mk (blk_kept B6.out hk (fun h => (hG1 _ h).2.2.1 rfl))
       replace B8 := Aside0.mk (blk_kept B8.out hk (fun h => (hG1 _ h).2.2.2.1 rfl))
       replace T2 := Aside0.mk (T2.out.kept hk (fun q hq h => (hF2 q hq).2.2.2.2.2 h))
       replace B10 := Aside0.mk (blk_kept B10.out hk (fun h => hR1g10 _ h rfl))
       replace L := Aside0.mk hl
       clear hk hl R1
       obtain ⟨s0, s1, s2, s3, s4, s5, -⟩ := six_cells B10.out
       obtain ⟨p0, p1, p2, p3, p4, p5, -⟩ := six_cells B6.out
       replace mk_ := Mk.mk (n := 14))
    | (go_at_call 26
       have _st : Mk 14 := mk_
       refine (eqValue_v d x HX.out _ E2 A6 e2 c6 E2' A6' e2' c6' (T2.out.c4 HX.out) RA.out.c4_ T2.out.l4 RA.out.l4 (T2.out.c5 HX.out) RA.out.c5_ T2.out.l5 RA.out.l5).mono ?_
       rintro e' wt ⟨rfl, hb⟩
       replace BA := Aside0.mk (blk_keep BA.out hb (blk_lt BA.out))
       replace L := Aside0.mk (below_step L.out hb)
       replace RA := Aside0.mk (RA.out.below hb)
       replace B6 := Aside0.mk (blk_keep B6.out hb (blk_lt B6.out))
       replace B8 := Aside0.mk (blk_keep B8.out hb (blk_lt B8.out))
       replace T2 := Aside0.mk (T2.out.below hb)
       replace B10 := Aside0.mk (blk_keep B10.out hb (blk_lt B10.out))
       clear hb
       clear s0 s1 s2 s3 s4 s5
       clear p0 p1 p2 p3 p4 p5
       obtain ⟨s0, s1, s2, s3, s4, s5, -⟩ := six_cells B10.out
       replace mk_ := Mk.mk (n := 15))
    | (go_at_call 27
       have _st : Mk 15 := mk_
       refine (markValue_v d x HX.out w _ E2 e2 E2' e2' k2 k2' T2.out L.out (fun q hq => Nat.le_trans hwhi (hF2 q hq).1)).mono ?_
       rintro e' wt ⟨rfl, ⟨vm2, tm, d3, d4, dc, dm, dn⟩, hl, hk⟩
       replace BA := Aside0.mk (blk_kept BA.out hk (fun h => (hF2 _ h).2.1 rfl))
       replace RA := Aside0.mk (RA.out.kept hk (fun q h => (hF2 q h).1))
       replace B6 := Aside0.mk (blk_kept B6.out hk (fun h => (hF2 _ h).2.2.1 rfl))
       replace B8 := Aside0.mk (blk_kept B8.out hk (fun h => (hF2 _ h).2.2.2.1 rfl))
       replace B10 := Aside0.mk (blk_kept B10.out hk (fun h => hT2g10 _ h rfl))
       replace L := Aside0.mk hl
       clear s0 s1 s2 s3 s4 s5
       obtain ⟨s0, s1, s2, s3, s4, s5, -⟩ := six_cells B10.out
       have TM := Aside0.mk tm
       have M3 := Aside0.mk d3
       have M4 := Aside0.mk d4
       have MC := Aside0.mk dc
       have MM := Aside0.mk dm
       have MN := Aside0.mk dn
       clear tm d3 d4 dc dm dn T2
       clear hk hl
       replace mk_ := Mk.mk (n := 16))
    | (go_at_call 28
       have _st : Mk 16 := mk_
       refine (heldValue_v d x vm2 HX.out _ E2 e2 E2' e2' k2 k2' TM.out M3.out M4.out MC.out MM.out MN.out).mono ?_
       rintro e' wt ⟨rfl, hb⟩
       replace BA := Aside0.mk (blk_keep BA.out hb (blk_lt BA.out))
       replace L := Aside0.mk (below_step L.out hb)
       replace RA := Aside0.mk (RA.out.below hb)
       replace B6 := Aside0.mk (blk_keep B6.out hb (blk_lt B6.out))
       replace B8 := Aside0.mk (blk_keep B8.out hb (blk_lt B8.out))
       replace B10 := Aside0.mk (blk_keep B10.out hb (blk_lt B10.out))
       replace TM := Aside0.mk (TM.out.below hb)
       clear hb
       clear s0 s1 s2 s3 s4 s5
       obtain ⟨p0, p1, p2, p3, p4, p5, -⟩ := six_cells BA.out
       replace mk_ := Mk.mk (n := 17))
    | (go_at_call 24
       have _st : Mk 17 := mk_
       refine (toValue_v d a _ A4 c4 A5 c5 (Kd.C_below H4.out L.out) l4 (Kd.C_below H5.out L.out) l5 HF.out.1 HF.out.2 v HVE.out).mono ?_
       rintro e' wt ⟨E4, e4, E4', e4', k4, k4', rfl, tt, hF, hb⟩
       replace BA := Aside0.mk (blk_keep BA.out hb (blk_lt BA.out))
       replace L := Aside0.mk (below_step L.out hb)
       replace RA := Aside0.mk (RA.out.below hb)
       replace B6 := Aside0.mk (blk_keep B6.out hb (blk_lt B6.out))
       replace B8 := Aside0.mk (blk_keep B8.out hb (blk_lt B8.out))
       replace B10 := Aside0.mk (blk_keep B10.out hb (blk_lt B10.out))
       replace TM := Aside0.mk (TM.out.below hb)
       have T4 := Aside0.mk tt
       have F4 := Aside0.mk hF
       clear hb tt hF
       clear p0 p1 p2 p3 p4 p5
       replace mk_ := Mk.mk (n := 18))
    | (go_at_call 30
       have _st : Mk 18 := mk_
       refine (toStringS_calls _ AP cP path (Kd.C_below HP.out L.out) lp HPL.out).mono ?_
       rintro e' wt ⟨Q4, q4, m4, rfl, lq4, nn, nd, hF, hb⟩
       replace BA := Aside0.mk (blk_keep BA.out hb (blk_lt BA.out))
       replace L := Aside0.mk (below_step L.out hb)
       replace RA := Aside0.mk (RA.out.below hb)
       replace B6 := Aside0.mk (blk_keep B6.out hb (blk_lt B6.out))
       replace B8 := Aside0.mk (blk_keep B8.out hb (blk_lt B8.out))
       replace B10 := Aside0.mk (blk_keep B10.out hb (blk_lt B10.out))
       replace TM := Aside0.mk (TM.out.below hb)
       replace T4 := Aside0.mk (T4.out.below hb)
       have R4 := Aside0.mk nn
       have G4 := Aside0.mk hF
       clear hb nn nd hF
       replace mk_ := Mk.mk (n := 19))
    | (go_at_call 11
       have _st : Mk 19 := mk_
       have hn0 := R4.out.reads (Nat.le_trans HPL.out (by decide))
       refine (HI _ E4 e4 E4' e4' Q4 q4 (T4.out.c4 HV.out) T4.out.l4 (T4.out.c5 HV.out) T4.out.l5 hn0 lq4 (LaidG.below (m := 15) (by decide) HG.out L.out)).mono ?_
       rintro e' wt ⟨y, E5, e5, E5', e5', k5, k5', hy, rfl, u4, u5, uV, uN, uD, hF, hb⟩
       obtain rfl : x = y := HXE.out.trans hy.symm
       replace BA := Aside0.mk (blk_keep BA.out hb (blk_lt BA.out))
       replace L := Aside0.mk (below_step L.out hb)
       replace RA := Aside0.mk (RA.out.below hb)
       replace B6 := Aside0.mk (blk_keep B6.out hb (blk_lt B6.out))
       replace B8 := Aside0.mk (blk_keep B8.out hb (blk_lt B8.out))
       replace B10 := Aside0.mk (blk_keep B10.out hb (blk_lt B10.out))
       replace TM := Aside0.mk (TM.out.below hb)
       have T5 := Aside0.mk (TreeAt.mk u4 u5 uV uN uD)
       have F5 := Aside0.mk hF
       clear hb u4 u5 uV uN uD hF hn0 hy
       clear T4 R4 F4 G4
       replace mk_ := Mk.mk (n := 20))
    | ((with_reducible refine gate_dst (N := 15) rfl ?_); refine box_event ?hg (N := 15) ?hd (cs := #[.int .i64 0, .int .i64 0, .int .i64 0, .string (⟨#[]⟩ : ByteArray), .slice none 0 0, .slice none 0 0]) (t := 28) ?hr ?_; (case hd => rfl); (case hg => rfl); (case hr => first | (go_simp; done) | (go_simp; rfl))
       intro g15 hg wk hbox hb
       have hgag15 : ga ≠ g15 := by have := blk_lt BA.out; omega
       have hg15ga := hgag15.symm
       have hg6g15 : g6 ≠ g15 := by have := blk_lt B6.out; omega
       have hg15g6 := hg6g15.symm
       have hg8g15 : g8 ≠ g15 := by have := blk_lt B8.out; omega
       have hg15g8 := hg8g15.symm
       have hg10g15 : g10 ≠ g15 := by have := blk_lt B10.out; omega
       have hg15g10 := hg10g15.symm
       have hig15 : hi ≤ g15 := by have := hig6; have := blk_lt B6.out; omega
       have hTMg15 : ∀ q ∈ k2 ++ k2', q ≠ g15 := fun q hq => by have := TreeAt.lt TM.out q hq; omega
       have hT5g15 : ∀ q ∈ k5 ++ k5', q ≠ g15 := fun q hq => by have := TreeAt.lt T5.out q hq; omega
       have gwg15 : w.heap.size ≤ g15 := by have := L.out.size; omega
       replace BA := Aside0.mk (blk_keep BA.out hb (blk_lt BA.out))
       replace L := Aside0.mk (below_step L.out hb)
       replace RA := Aside0.mk (RA.out.below hb)
       replace B6 := Aside0.mk (blk_keep B6.out hb (blk_lt B6.out))
       replace B8 := Aside0.mk (blk_keep B8.out hb (blk_lt B8.out))
       replace B10 := Aside0.mk (blk_keep B10.out hb (blk_lt B10.out))
       replace TM := Aside0.mk (TM.out.below hb)
       replace T5 := Aside0.mk (T5.out.below hb)
       have B15 := Aside0.mk hbox
       clear hg hbox hb
       obtain ⟨r0, r1, r2, r3, r4, r5, zr0, zr1, zr2, zr3, zr4, zr5⟩ := six_cells B15.out
       obtain ⟨p0, p1, p2, p3, p4, p5, -⟩ := six_cells B6.out)
    | (go_at_call 26
       have _st : Mk 20 := mk_
       have hk := six_kept wk g15 (.int .i64 x.f0) (.int .i64 x.f1.f0) (.int .i64 x.f1.f1) (.string x.f2) (.slice E5 x.f3.length e5) (.slice E5' x.f4.length e5')
       have b_ := six_put (v0 := .int .i64 x.f0) (v1 := .int .i64 x.f1.f0) (v2 := .int .i64 x.f1.f1) (v3 := .string x.f2) (v4 := .slice E5 x.f3.length e5) (v5 := .slice E5' x.f4.length e5') B15.out
       have l_ := six_below (v0 := .int .i64 x.f0) (v1 := .int .i64 x.f1.f0) (v2 := .int .i64 x.f1.f1) (v3 := .string x.f2) (v4 := .slice E5 x.f3.length e5) (v5 := .slice E5' x.f4.length e5') L.out gwg15
       clear r0 r1 r2 r3 r4 r5 zr0 zr1 zr2 zr3 zr4 zr5
       generalize (((((wk.setCell ⟨g15, 0, none⟩ (.int .i64 x.f0)).setCell ⟨g15, 1, none⟩ (.int .i64 x.f1.f0)).setCell ⟨g15, 2, none⟩ (.int .i64 x.f1.f1)).setCell ⟨g15, 3, none⟩ (.string x.f2)).setCell ⟨g15, 4, none⟩ (.slice E5 x.f3.length e5)).setCell ⟨g15, 5, none⟩ (.slice E5' x.f4.length e5') = w15 at *
       replace BA := Aside0.mk (blk_kept BA.out hk (fun h => hgag15 h))
       replace RA := Aside0.mk (RA.out.kept hk (fun q h => by rw [h]; exact hig15))
       replace B6 := Aside0.mk (blk_kept B6.out hk (fun h => hg6g15 h))
       replace B8 := Aside0.mk (blk_kept B8.out hk (fun h => hg8g15 h))
       replace B10 := Aside0.mk (blk_kept B10.out hk (fun h => hg10g15 h))
       replace TM := Aside0.mk (TM.out.kept hk (fun q hq h => hTMg15 q hq h))
       replace T5 := Aside0.mk (T5.out.kept hk (fun q hq h => hT5g15 q hq h))
       replace B15 := Aside0.mk b_
       replace L := Aside0.mk l_
       clear hk b_ l_
       clear p0 p1 p2 p3 p4 p5
       refine (eqValue_v d x HX.out _ E5 A6 e5 c6 E5' A6' e5' c6' (T5.out.c4 HX.out) RA.out.c4_ T5.out.l4 RA.out.l4 (T5.out.c5 HX.out) RA.out.c5_ T5.out.l5 RA.out.l5).mono ?_
       rintro e' wt ⟨rfl, hb⟩
       replace BA := Aside0.mk (blk_keep BA.out hb (blk_lt BA.out))
       replace L := Aside0.mk (below_step L.out hb)
       replace RA := Aside0.mk (RA.out.below hb)
       replace B6 := Aside0.mk (blk_keep B6.out hb (blk_lt B6.out))
       replace B8 := Aside0.mk (blk_keep B8.out hb (blk_lt B8.out))
       replace B10 := Aside0.mk (blk_keep B10.out hb (blk_lt B10.out))
       replace TM := Aside0.mk (TM.out.below hb)
       replace T5 := Aside0.mk (T5.out.below hb)
       replace B15 := Aside0.mk (blk_keep B15.out hb (blk_lt B15.out))
       clear hb
       obtain ⟨s0, s1, s2, s3, s4, s5, -⟩ := six_cells B10.out
       replace mk_ := Mk.mk (n := 21))
    | (go_at_call 28
       have _st : Mk 21 := mk_
       refine (heldValue_v d x vm2 HX.out _ E2 e2 E2' e2' k2 k2' TM.out M3.out M4.out MC.out MM.out MN.out).mono ?_
       rintro e' wt ⟨rfl, hb⟩
       replace BA := Aside0.mk (blk_keep BA.out hb (blk_lt BA.out))
       replace L := Aside0.mk (below_step L.out hb)
       replace RA := Aside0.mk (RA.out.below hb)
       replace B6 := Aside0.mk (blk_keep B6.out hb (blk_lt B6.out))
       replace B8 := Aside0.mk (blk_keep B8.out hb (blk_lt B8.out))
       replace B10 := Aside0.mk (blk_keep B10.out hb (blk_lt B10.out))
       replace TM := Aside0.mk (TM.out.below hb)
       replace T5 := Aside0.mk (T5.out.below hb)
       replace B15 := Aside0.mk (blk_keep B15.out hb (blk_lt B15.out))
       clear hb
       clear s0 s1 s2 s3 s4 s5
       replace mk_ := Mk.mk (n := 22)))

  go_ret
  exact ⟨rfl, L.out⟩

/-- Where it is too much, it answers true at once. -/
theorem law_much (d : Nat) (a : S45) (path : List ByteArray) (L1 : Int) (hl1 : lessW 1048576 (a.f2.size + vw d a.f3 + nw a.f4) = L1) (h1 : L1 < 0 ∨ 0 ≤ L1 ∧ L1 ≤ 1048576 ∧ lessW L1 (nw path) = -1)
    (hbd : a.f2.size ≤ 140737488351232 ∧ a.f4.length ≤ 140737488351232 ∧ (∀ s ∈ a.f4, s.size ≤ 140737488351232) ∧ Bnd d a.f3) (hpb : path.length ≤ 140737488351232 ∧ ∀ s ∈ path, s.size ≤ 140737488351232)
    (w : World) (A4 : Option Addr) (c4 : Nat) (A5 : Option Addr) (c5 : Nat) (AP : Option Addr) (cP : Nat) (h4 : Kd.C k45 w A4 a.f3.length a.f3) (l4 : a.f3.length ≤ c4) (h5 : Kd.C Kd.string w A5 a.f4.length a.f4) (l5 : a.f4.length ≤ c5)
    (hp : Kd.C Kd.string w AP path.length path) (lp : path.length ≤ cP) :
    Calls Tryd.prog 7 #[.agg #[.int .i64 a.f0, .int .i64 a.f1.f0, .int .i64 a.f1.f1, .string a.f2, .slice A4 a.f3.length c4, .slice A5 a.f4.length c5], .slice AP path.length cP] w fun e w' => e = .returned (.bool true) ∧ Below w.heap.size w w' := by
  have H4 := Aside0.mk h4; have H5 := Aside0.mk h5; have HP := Aside0.mk hp
  have HB := Aside0.mk hbd; have HPB := Aside0.mk hpb
  have LA := below_alloc (Below.refl w.heap.size w) (.cells #[.int .i64 a.f0, .int .i64 a.f1.f0, .int .i64 a.f1.f1, .string a.f2, .slice A4 a.f3.length c4, .slice A5 a.f4.length c5] 45)
  clear h4 h5 hp hbd hpb
  rcases h1 with h1 | ⟨h0, h1, h2⟩
  · have d1 : decide (L1 < 0) = true := decide_eq_true h1
    clear h1
    go_enter Tryd.func7, Tryd.ntmps7
    go_wp2_with (
      go_at_call 22
      refine (szValue_of d (szValueS_calls d) _ a.f0 a.f1.f0 a.f1.f1 a.f2 A4 c4 a.f3 A5 c5 a.f4 1048576 (Kd.C_below H4.out LA) l4 (Kd.C_below H5.out LA) l5 (by decide) (by decide) HB.out.1 HB.out.2.1 HB.out.2.2.1 HB.out.2.2.2).mono ?_
      rintro e' w2 ⟨rfl, hb⟩
      rw [hl1])
    go_ret
    exact ⟨rfl, below_step LA hb⟩
  · have d1 : decide (L1 < 0) = false := decide_eq_false (by omega)
    have d2 : decide ((-1 : Int) < 0) = true := by decide
    have H0 := Aside0.mk h0
    have H1 := Aside0.mk h1
    clear h0 h1
    go_enter Tryd.func7, Tryd.ntmps7
    go_wp2_with (first
      | (go_at_call 22
         refine (szValue_of d (szValueS_calls d) _ a.f0 a.f1.f0 a.f1.f1 a.f2 A4 c4 a.f3 A5 c5 a.f4 1048576 (Kd.C_below H4.out LA) l4 (Kd.C_below H5.out LA) l5 (by decide) (by decide) HB.out.1 HB.out.2.1 HB.out.2.2.1 HB.out.2.2.2).mono ?_
         rintro e' w2 ⟨rfl, hb⟩
         rw [hl1])
      | (go_at_call 29
         refine (szStringS_calls _ AP cP path L1 (Kd.C_below HP.out (below_step LA hb)) lp H0.out H1.out HPB.out.1 HPB.out.2).mono ?_
         rintro e' w3 ⟨rfl, hb3⟩
         rw [h2]))
    go_ret
    exact ⟨rfl, below_step (below_step LA hb) hb3⟩
end Go.Proofs.YtebcepbamlokcaaDoor.Q
namespace Go.Proofs.YtebcepbamlokcaaDoor.Q
open Go.RowKit Go.Proofs.YtebcepbamlokcaaDoorW.PrintWords Go.Proofs.YtebcepbamlokcaaDoorW.PrintLast Go.Proofs.YtebcepbamlokcaaDoorW.PrintMore
set_option linter.unusedVariables false
set_option linter.unusedSimpArgs false

/-! ### The copy -/
theorem copy_step (x : S28) (F : Nat) (hl : x.f3.length ≤ 2097152) (h4 : x.f4.length ≤ 2097152) (hk : ∀ y ∈ x.f3, ∀ k, F ≤ k → spec_l13Copy.f k y.f0 y.f1.f0 y.f1.f1 y.f2 y.f3 y.f4 = some (y.f0, y.f1.f0, y.f1.f1, y.f2, y.f3, y.f4)) :
  ∀ k, F + 2097160 ≤ k → spec_l13Copy.f k x.f0 x.f1.f0 x.f1.f1 x.f2 x.f3 x.f4 = some (x.f0, x.f1.f0, x.f1.f1, x.f2, x.f3, x.f4) := by
 have hloop : ∀ (n i : Nat), i + n = x.f3.length → ∀ k, F + n + 1 ≤ k → spec_l13Copy.l0 k (i : Int) x.f0 x.f1.f0 x.f1.f1 x.f2 x.f3 x.f4 x.f0 x.f1.f0 x.f1.f1 x.f2 (x.f3.take i) x.f4 = some (x.f0, x.f1.f0, x.f1.f1, x.f2, x.f3, x.f4) := by
  intro n
  induction n with
  | zero =>
   intro i hi k hk'
   obtain ⟨k, rfl⟩ : ∃ m, k = m + 1 := ⟨k - 1, (by omega)⟩
   rw [spec_l13Copy.l0, if_neg (by omega), List.take_of_length_le (by omega)]
  | succ n ih =>
   intro i hi k hk'
   obtain ⟨k, rfl⟩ : ∃ m, k = m + 1 := ⟨k - 1, (by omega)⟩
   have hlt : i < x.f3.length := by omega
   rw [spec_l13Copy.l0, if_pos (by omega), if_pos (by omega), rdT hlt, hk _ (List.getElem_mem hlt) k (by omega)]
   simp only [Option.bind_some]
   rw [if_pos (by rw [List.length_take]; omega), w64s (by omega)]
   refine Eq.trans ?_ (ih (i + 1) (by omega) k (by omega))
   rw [List.take_succ_eq_append_getElem hlt]
   generalize x.f3[i] = y
   obtain ⟨y0, ⟨ym, ye⟩, yt, ys, yn⟩ := y
   rfl
 intro k hk'
 obtain ⟨k, rfl⟩ : ∃ m, k = m + 1 := ⟨k - 1, (by omega)⟩
 have := hloop x.f3.length 0 (by omega) k (by omega)
 rw [List.take_zero] at this
 rw [spec_l13Copy.f, Option.bind_some, List.nil_append, if_pos (by simp; omega)]
 exact this
theorem copy_is : ∀ (e : Nat) (x : S28), Sml e x → ∀ k, (e + 1) * 2097160 ≤ k → spec_l13Copy.f k x.f0 x.f1.f0 x.f1.f1 x.f2 x.f3 x.f4 = some (x.f0, x.f1.f0, x.f1.f1, x.f2, x.f3, x.f4)
 | 0, x, h => fun k hk => copy_step x 0 h.l3 h.l4 (fun y hy => by rw [h.1] at hy; cases hy) k (by omega)
 | e + 1, x, h => by
  have ih : ∀ y ∈ x.f3, ∀ k, (e + 1) * 2097160 ≤ k → spec_l13Copy.f k y.f0 y.f1.f0 y.f1.f1 y.f2 y.f3 y.f4 = some (y.f0, y.f1.f0, y.f1.f1, y.f2, y.f3, y.f4) := fun y hy => copy_is e y (h.2.2.2 y hy)
  intro k hk
  rw [Nat.succ_mul] at hk
  generalize (e + 1) * 2097160 = F at ih hk
  exact copy_step x F h.l3 h.l4 ih k hk

/-! ### Sizes -/
theorem nw_len (ns : List ByteArray) : ns.length ≤ nw ns := by unfold nw; omega
theorem nw_size {ns : List ByteArray} {s : ByteArray} (h : s ∈ ns) : s.size ≤ nw ns := by
 have := le_sum_map (α := ByteArray) ByteArray.size h; unfold nw; omega
theorem fit45_of : ∀ (d : Nat) (xs : List S45), Bnd d xs → vw d xs ≤ 1048576 → Fit45 d xs
 | 0, xs, h, _ => h
 | d + 1, xs, h, hw => by
  have hw' : xs.length + (xs.map (xw (vw d))).sum ≤ 1048576 := hw
  refine ⟨by omega, fun x hx => ?_⟩
  have h1 := le_sum_map (xw (vw d)) hx
  have h2 := nw_len x.f4
  unfold xw at h1
  have h3 : x.f2.size + vw d x.f3 + nw x.f4 ≤ (xs.map (xw (vw d))).sum := h1
  exact ⟨by omega, fit45_of d x.f3 (h.2 x hx).2.2.2 (by omega)⟩
theorem sml_of : ∀ (d : Nat) (x : S45), Bnd d x.f3 → x.f2.size + vw d x.f3 + nw x.f4 ≤ 1048576 → Sml d (toV (toL d) x)
 | 0, x, h, hw => ⟨rfl, (by have := nw_len x.f4; show x.f4.length ≤ _; omega), fun s hs => by have := nw_size (ns := x.f4) hs; omega⟩
 | d + 1, x, h, hw => by
  have hw' : x.f2.size + (x.f3.length + (x.f3.map (xw (vw d))).sum) + nw x.f4 ≤ 1048576 := hw
  refine ⟨?_, (by have := nw_len x.f4; show x.f4.length ≤ _; omega), fun s hs => by have := nw_size (ns := x.f4) hs; omega, ?_⟩
  ·show (x.f3.map (toV (toL d))).length ≤ _; rw [List.length_map]; omega
  ·intro y hy
   obtain ⟨z, hz, rfl⟩ := List.mem_map.1 (show y ∈ x.f3.map (toV (toL d)) from hy)
   have h1 : z.f2.size + vw d z.f3 + nw z.f4 ≤ (x.f3.map (xw (vw d))).sum := le_sum_map (xw (vw d)) hz
   exact sml_of d z (h.2 z hz).2.2.2 (by omega)
theorem sum_le_sum {α : Type} {f g : α → Nat} : ∀ {l : List α}, (∀ x ∈ l, f x ≤ g x) → (l.map f).sum ≤ (l.map g).sum
 | [], _ => Nat.le_refl _
 | x :: r, h => by
  rw [List.map_cons, List.sum_cons, List.map_cons, List.sum_cons]
  have h1 := h x List.mem_cons_self
  have h2 := sum_le_sum (l := r) (fun y hy => h y (List.mem_cons_of_mem _ hy))
  omega
theorem sum_lin {α : Type} (f : α → Nat) (a b : Nat) : ∀ (l : List α), (l.map (fun x => a + b * f x)).sum = a * l.length + b * (l.map f).sum
 | [] => rfl
 | x :: r => by
  rw [List.map_cons, List.sum_cons, sum_lin f a b r, List.map_cons, List.sum_cons, List.length_cons, Nat.mul_succ, Nat.mul_add]; omega
theorem cnt_of : ∀ (d : Nat) (xs : List S45), cnt d (toL d xs) ≤ 4 * vw d xs
 | 0, xs => Nat.zero_le _
 | d + 1, xs => by
  show ((xs.map (toV (toL d))).map (cntI (cnt d))).sum ≤ 4 * (xs.length + (xs.map (xw (vw d))).sum)
  rw [List.map_map]
  have h : ∀ x ∈ xs, (cntI (cnt d) ∘ toV (toL d)) x ≤ 4 + 4 * xw (vw d) x := fun x _ => by
   show 4 + cnt d (toL d x.f3) + x.f4.length ≤ 4 + 4 * (x.f2.size + vw d x.f3 + nw x.f4)
   have := cnt_of d x.f3
   have := nw_len x.f4
   omega
  refine Nat.le_trans (sum_le_sum h) ?_
  rw [sum_lin]; omega
theorem szT_of : ∀ (d : Nat) (x : S45), szT d (toV (toL d) x) ≤ 1 + vw d x.f3
 | 0, x => Nat.le_add_right _ _
 | d + 1, x => by
  show 1 + ((x.f3.map (toV (toL d))).map (szT d)).sum ≤ 1 + (x.f3.length + (x.f3.map (xw (vw d))).sum)
  rw [List.map_map]
  have h : ∀ z ∈ x.f3, (szT d ∘ toV (toL d)) z ≤ 1 + 1 * xw (vw d) z := fun z _ => by
   have := szT_of d z
   show szT d (toV (toL d) z) ≤ 1 + 1 * (z.f2.size + vw d z.f3 + nw z.f4)
   omega
  have := sum_le_sum h
  rw [sum_lin] at this; omega
theorem Fit.mono : ∀ (e d : Nat) {xs : List S28}, e ≤ d → Fit e xs → Fit d xs
 | 0, 0, xs, _, h => h
 | 0, d + 1, xs, _, h => by rw [show xs = [] from h]; exact ⟨Nat.zero_le _, fun x hx => by cases hx⟩
 | e + 1, 0, _, hd, _ => absurd hd (by omega)
 | e + 1, d + 1, xs, hd, h => ⟨h.1, fun x hx => ⟨(h.2 x hx).1, Fit.mono e d (by omega) (h.2 x hx).2⟩⟩
theorem cnt_mono : ∀ (e d : Nat) {xs : List S28}, e ≤ d → Fit e xs → cnt d xs = cnt e xs
 | 0, 0, xs, _, h => rfl
 | 0, d + 1, xs, _, h => by rw [show xs = [] from h]; rfl
 | e + 1, 0, _, hd, _ => absurd hd (by omega)
 | e + 1, d + 1, xs, hd, h => by
  show (xs.map (cntI (cnt d))).sum = (xs.map (cntI (cnt e))).sum
  refine congrArg List.sum (List.map_congr_left fun x hx => ?_)
  show 4 + cnt d x.f3 + x.f4.length = 4 + cnt e x.f3 + x.f4.length
  rw [cnt_mono e d (by omega) (h.2 x hx).2]

/-! ### Good values -/
def Gd (d : Nat) (y : S28) : Prop := ∃ e, e ≤ d ∧ Sml e y ∧ allS e y = true ∧ cnt e y.f3 + y.f4.length ≤ 1073741824
theorem allS_node {e : Nat} {y : S28} (h : allS e y = true) : nodeB y = true := by
 cases e with
 | zero => exact h
 | succ e => exact (Bool.and_eq_true _ _ ▸ h).1
theorem Gd.kid {d : Nat} {x y : S28} (h : Gd d x) (hy : y ∈ x.f3) : Gd d y := by
 obtain ⟨e, he, hs, ha, hc⟩ := h
 cases e with
 | zero => rw [hs.1] at hy; cases hy
 | succ e =>
  have ha2 : (nodeB x && x.f3.all (allS e)) = true := ha
  rw [Bool.and_eq_true, List.all_eq_true] at ha2
  have hc2 : (x.f3.map (cntI (cnt e))).sum + x.f4.length ≤ 1073741824 := hc
  have h1 : 4 + cnt e y.f3 + y.f4.length ≤ (x.f3.map (cntI (cnt e))).sum := le_sum_map (cntI (cnt e)) hy
  exact ⟨e, (by omega), hs.2.2.2 y hy, ha2.2 y hy, (by omega)⟩
theorem Gd.fit {d : Nat} {x : S28} (h : Gd d x) : FitV d x := by
 obtain ⟨e, he, hs, ha, hc⟩ := h
 exact ⟨Fit.mono e d he hs.fit, hs.l4, (by rw [cnt_mono e d he hs.fit]; exact hc)⟩
theorem node_56 {x : S28} (h : nodeB x = true) : (x.f0 = 6 → x.f4.length = x.f3.length) ∧ (x.f0 ≠ 5 → x.f0 ≠ 6 → x.f3.length = 0) := by
 unfold nodeB at h
 have hz : iz x = true → x.f3.length = 0 := fun h => by have := beq_iff_eq.1 h; omega
 constructor
 ·intro h6
  rw [if_neg (by rw [h6]; decide), if_neg (by rw [h6]; decide), if_neg (by rw [h6]; decide), if_neg (by rw [h6]; decide), if_pos h6] at h
  simp only [Bool.and_eq_true, decide_eq_true_iff] at h
  omega
 ·intro h5 h6
  split at h
  ·simp only [Bool.and_eq_true] at h; exact hz h.1.2
  ·split at h
   ·simp only [Bool.and_eq_true] at h; exact hz h.1.2
   ·split at h
    ·simp only [Bool.and_eq_true] at h; exact hz h.1.2
    ·first | (cases h; done) | (rw [if_neg h5, if_neg h6] at h; cases h)
theorem Gd.lt {d : Nat} {x : S28} (h : Gd d x) (s : ByteArray) : plP x s < (x.f3.length : Int) := by
 obtain ⟨e, he, hs, ha, hc⟩ := h
 exact plP_lt x s (node_56 (allS_node ha)).1
theorem good_Gd (d : Nat) (path : List ByteArray) : Good (Gd d) d plP path := ⟨fun x h y hy => h.kid hy, fun x h => ⟨h.fit.f3, h.fit.f4⟩, fun x h s _ => h.lt s⟩
theorem at_good (d : Nat) : ∀ (path : List ByteArray) (x y : S28), Gd d x → At plP x path = some y → Gd d y
 | [], x, y, h, he => by injection he with he; rw [← he]; exact h
 | s :: r, x, y, h, he => by
  unfold At at he
  by_cases hp : plP x s < 0
  ·rw [if_pos hp] at he; cases he
  ·rw [if_neg hp] at he
   have hl := h.lt s
   have hm : (plP x s).toNat < x.f3.length := by omega
   have hr : rd_T28 x.f3 (plP x s) = x.f3[(plP x s).toNat] := by
    have := rdT hm
    rw [Int.toNat_of_nonneg (by omega)] at this
    exact this
   exact at_good d r _ y (h.kid (by rw [hr]; exact List.getElem_mem hm)) he
theorem fit_zero (d : Nat) : FitV d z28 := by
 cases d with
 | zero => exact ⟨rfl, Nat.zero_le _, Nat.zero_le _⟩
 | succ d => exact ⟨⟨Nat.zero_le _, fun x hx => by cases hx⟩, Nat.zero_le _, Nat.zero_le _⟩

/-- The law, for every value and way. -/
theorem law_all (d : Nat) (a : S45) (path : List ByteArray)
  (hbd : a.f2.size ≤ 140737488351232 ∧ a.f4.length ≤ 140737488351232 ∧ (∀ s ∈ a.f4, s.size ≤ 140737488351232) ∧ Bnd d a.f3) (hpb : path.length ≤ 140737488351232 ∧ ∀ s ∈ path, s.size ≤ 140737488351232)
  (w : World) (A4 : Option Addr) (c4 : Nat) (A5 : Option Addr) (c5 : Nat) (AP : Option Addr) (cP : Nat) (h4 : Kd.C k45 w A4 a.f3.length a.f3) (l4 : a.f3.length ≤ c4) (h5 : Kd.C Kd.string w A5 a.f4.length a.f4) (l5 : a.f4.length ≤ c5)
  (hp : Kd.C Kd.string w AP path.length path) (lp : path.length ≤ cP) (hG : LaidG 15 w) :
  Calls Tryd.prog 7 #[.agg #[.int .i64 a.f0, .int .i64 a.f1.f0, .int .i64 a.f1.f1, .string a.f2, .slice A4 a.f3.length c4, .slice A5 a.f4.length c5], .slice AP path.length cP] w fun e w' => e = .returned (.bool true) ∧ Below w.heap.size w w' := by
 by_cases hW : a.f2.size + vw d a.f3 + nw a.f4 ≤ 1048576
 ·have hl1 := lessW_yes (left := 1048576) (n := a.f2.size + vw d a.f3 + nw a.f4) (by omega)
  by_cases hP : ((nw path : Nat) : Int) ≤ 1048576 - ((a.f2.size + vw d a.f3 + nw a.f4 : Nat) : Int)
  ·have hl2 := lessW_yes hP
   have hs := sml_of d a hbd.2.2.2 hW
   have hz : szT d (toV (toL d) a) ≤ 1099511627776 := by have := szT_of d a; omega
   have hc : cnt d (toV (toL d) a).f3 + (toV (toL d) a).f4.length ≤ 1073741824 := by
    have h1 : cnt d (toV (toL d) a).f3 ≤ 4 * vw d a.f3 := cnt_of d a.f3
    have h2 : (toV (toL d) a).f4.length ≤ nw a.f4 := nw_len a.f4
    omega
   have hpl : path.length ≤ 2097152 := by have := nw_len path; omega
   have hps : ∀ s ∈ path, s.size ≤ 281474976710656 := fun s h => by have := nw_size h; omega
   generalize hv : toV (toL d) a = v at hs hz hc
   have hG0 : goodB d v = true → Gd d v := fun h => by
    unfold goodB at h
    rw [Bool.and_eq_true, Bool.and_eq_true] at h
    exact ⟨d, Nat.le_refl _, hs, h.1.1, hc⟩
   obtain ⟨K, hK⟩ := (impl_good d v hs hz).and (spec_good d v hs hz)
   have hX : FitV d (orZero (atRes plP (goodB d v) v path)) := by
    unfold atRes
    cases hg : goodB d v with
    | false => exact fit_zero d
    | true =>
     rw [if_pos rfl]
     cases ha : At plP v path with
     | none => exact fit_zero d
     | some y => exact (at_good d path v y (hG0 hg) ha).fit
   refine law_main d a path v (orZero (atRes plP (goodB d v) v path)) (atRes plP (goodB d v) v path) hv.symm rfl _ _ hl1 ⟨by omega, (by omega)⟩ hl2 (by omega) hbd hpb hpl ⟨fit45_of d a.f3 hbd.2.2.2 (by omega), (by have := nw_len a.f4; omega)⟩ ⟨hs.fit, hs.l4, hc⟩ hX ?_ ?_ w A4 c4 A5 c5 AP cP h4 l4 h5 l5 hp lp hG
   ·exact implAt_calls (Gd d) d plP K (goodB d v) v path (fun _ => good_Gd d path) hG0 (hK K (Nat.le_refl _)).1 (fun _ x hx s hm => impl_place_is x s (by obtain ⟨e, _, h, _⟩ := hx; exact Nat.le_trans h.l3 (by decide)) (by obtain ⟨e, _, h, _⟩ := hx; exact Nat.le_trans h.l4 (by decide)) (hps s hm))
   ·have hk := hK (K + (d + 1) * 2097160 + 4194400) (by omega)
    exact specAt_calls (Gd d) d plP (K + (d + 1) * 2097160 + 4194400) (goodB d v) v path (fun _ => good_Gd d path) hG0 hk.2
     (fun _ x hx s hm => by obtain ⟨e, _, h, ha, _⟩ := hx; exact spec_step_is x s (Nat.le_trans h.l3 (by decide)) (Nat.le_trans h.l4 (by decide)) (node_56 (allS_node ha)).2 _ (by have := h.l3; have := h.l4; omega))
     (fun _ x hx => by
      obtain ⟨e, he, h, ha, _⟩ := hx
      have : (e + 1) * 2097160 ≤ (d + 1) * 2097160 := Nat.mul_le_mul_right _ (by omega)
      exact copy_is e x h _ (by omega))
  ·exact law_much d a path _ hl1 (Or.inr ⟨by omega, (by omega), lessW_no (by omega)⟩) hbd hpb w A4 c4 A5 c5 AP cP h4 l4 h5 l5 hp lp
 ·exact law_much d a path _ (lessW_no (by omega)) (Or.inl (by decide)) hbd hpb w A4 c4 A5 c5 AP cP h4 l4 h5 l5 hp lp
end Go.Proofs.YtebcepbamlokcaaDoor.Q
namespace Go.Proofs.YtebcepbamlokcaaDoor.Q
open Go.Joins Go.ChangeShapes Go.WideShapes Go.RowKit Go.Deep Go.Proofs.YtebcepbamlokcaaDoorW.PrintWords Go.Proofs.YtebcepbamlokcaaDoorW.PrintLast Go.Proofs.YtebcepbamlokcaaDoorW.PrintMore
set_option linter.unusedVariables false
set_option linter.unusedSimpArgs false

abbrev RB : Nat := 140737488351232
theorem wAll_mem {H : Type} {P : Program} {e : TypeId} : ∀ {l : List (DataW H)} {d : DataW H} {n : Nat}, d ∈ l → n ∈ d.weights P e → n ∈ DataW.weightsAll P e l
  | x :: r, d, n, h, hn => by
    unfold DataW.weightsAll
    rcases List.mem_cons.1 h with rfl | h
    · exact List.mem_append_left _ hn
    · exact List.mem_append_right _ (wAll_mem h hn)
theorem w_slice {H : Type} {P : Program} {t e : TypeId} {el sp : List (DataW H)} (ht : P.underlying t = some (.slice e)) (h : ∀ n ∈ (DataW.slice el sp).weights P t, n ≤ RB) :
    (el.length + sp.length) * P.bytesOf e ≤ RB ∧ (∀ d ∈ el, ∀ n ∈ d.weights P e, n ≤ RB) := by
  have hw : (DataW.slice el sp).weights P t = (el.length + sp.length) * P.bytesOf e :: (DataW.weightsAll P e el ++ DataW.weightsAll P e sp) := by
    simp [DataW.weights, ht]
  rw [hw] at h
  exact ⟨h _ List.mem_cons_self, fun d hd n hn => h n (List.mem_cons_of_mem _ (List.mem_append_left _ (wAll_mem hd hn)))⟩
theorem w_str {H : Type} {P : Program} {t : TypeId} {b : List UInt8} (h : ∀ n ∈ (DataW.lit (.string b) : DataW H).weights P t, n ≤ RB) : b.length ≤ RB := by
  have hw : (DataW.lit (.string b) : DataW H).weights P t = [b.length] := by simp [DataW.weights]
  exact h _ (by rw [hw]; exact List.mem_cons_self)
theorem size_data (s : ByteArray) : s.data.toList.length = s.size := by
  have : s.size = s.data.toList.length := by simp
  exact this.symm

section
variable {H : Type} {enc : TypeId × Value → H} {W : World} {held : Bool}
/-- A row of strings. -/
theorem open_names {fuel : Nat} {cs : List Value} {x : DataW H × List MemPlace} (h : DataW.trod enc Tryd.prog W 0 (fun _ => true) held fuel 26 cs = some x) (hw : ∀ n ∈ x.1.weights Tryd.prog 26, n ≤ RB) :
    ∃ (A : Option Addr) (c : Nat) (ns : List ByteArray), cs = [.slice A ns.length c] ∧ ns.length ≤ c ∧ Kd.C Kd.string W A ns.length ns ∧ ns.length ≤ RB ∧ ∀ s ∈ ns, s.size ≤ RB := by
  rcases open_strings Tryd.underlying26 Tryd.underlying9 (by kernel_rfl) h with ⟨hcs, _⟩ | ⟨a, len, cap, ss, hcs, _, hl, hm, hz, hx, hcell, hsz⟩
  · exact ⟨none, 0, [], hcs, Nat.le_refl _, Kd.C_nil' _ _ _, Nat.zero_le _, fun s hs => by cases hs⟩
  · have hz' : ss.length = cap := by simpa using hz
    have hlen : (ss.take len).length = len := by rw [List.length_take]; omega
    rw [hx] at hw
    obtain ⟨h1, h2⟩ := w_slice Tryd.underlying26 hw
    have hb : Tryd.prog.bytesOf 9 = 16 := by kernel_rfl
    rw [hb] at h1
    have hl1 : (strs (H := H) (ss.take len)).length = len := by unfold strs; rw [List.length_map, hlen]
    refine ⟨some a, cap, ss.take len, by rw [hlen]; exact hcs, by rw [hlen]; exact hl, ?_, by rw [hlen]; show len ≤ 140737488351232; have h1' : ((strs (H := H) (ss.take len)).length + (strs (H := H) (ss.drop len)).length) * 16 ≤ 140737488351232 := h1; omega, ?_⟩
    · have hmx : len ≤ 9223372036854775807 := by have : maxLen ≤ 9223372036854775807 := by decide
                                                 omega
      refine ⟨rfl, by rw [hlen]; exact hmx, fun _ => ⟨a, rfl, fun j p hj => ⟨[.string p], rfl, rfl, fun i u hu => ?_⟩⟩⟩
      have hi : i = 0 := by
        rcases i with _ | i
        · rfl
        · simp at hu
      subst hi
      have hjl : j < len := by have := (List.getElem?_eq_some_iff.1 hj).1; omega
      have hc := hcell j (by omega)
      have hp : ss.getD j ByteArray.empty = p := by
        rw [List.getElem?_take_of_lt hjl] at hj
        rw [List.getD_eq_getElem?_getD, hj]; rfl
      rw [hp] at hc
      have hu' : u = .string p := by simpa using hu.symm
      rw [hu']
      show W.cell? (a.add (j * 1 + 0)) = _
      rw [Nat.mul_one, Nat.add_zero]; exact hc
    · intro s hs
      have := w_str (h2 (.lit (.string s.data.toList)) (List.mem_map.2 ⟨s, hs, rfl⟩))
      rwa [size_data] at this

/-- What a value's datum gives. -/
def OpenV (H : Type) (enc : TypeId × Value → H) (W : World) (held : Bool) (fuel : Nat) : Prop := ∀ (cs : List Value) (x : DataW H × List MemPlace), DataW.trod enc Tryd.prog W 0 (fun _ => true) held fuel 45 cs = some x → (∀ n ∈ x.1.weights Tryd.prog 45, n ≤ RB) →
  ∃ (a : S45) (A4 : Option Addr) (c4 : Nat) (A5 : Option Addr) (c5 : Nat), cs = [.int .i64 a.f0, .int .i64 a.f1.f0, .int .i64 a.f1.f1, .string a.f2, .slice A4 a.f3.length c4, .slice A5 a.f4.length c5] ∧ a.f3.length ≤ c4 ∧ Kd.C k45 W A4 a.f3.length a.f3 ∧ a.f4.length ≤ c5 ∧ Kd.C Kd.string W A5 a.f4.length a.f4 ∧
    a.f2.size ≤ RB ∧ a.f4.length ≤ RB ∧ (∀ s ∈ a.f4, s.size ≤ RB) ∧ Bnd fuel a.f3
def OpenR (H : Type) (enc : TypeId × Value → H) (W : World) (held : Bool) (fuel : Nat) : Prop := ∀ (cs : List Value) (x : DataW H × List MemPlace), DataW.trod enc Tryd.prog W 0 (fun _ => true) held fuel 43 cs = some x → (∀ n ∈ x.1.weights Tryd.prog 43, n ≤ RB) →
  ∃ (A : Option Addr) (c : Nat) (xs : List S45), cs = [.slice A xs.length c] ∧ xs.length ≤ c ∧ Kd.C k45 W A xs.length xs ∧ Bnd fuel xs
theorem Bnd.succ : ∀ (d : Nat) {xs : List S45}, Bnd d xs → Bnd (d + 1) xs
  | 0, xs, h => by rw [show xs = [] from h]; exact ⟨Nat.zero_le _, fun x hx => by cases hx⟩
  | d + 1, xs, h => ⟨h.1, fun x hx => ⟨(h.2 x hx).1, (h.2 x hx).2.1, (h.2 x hx).2.2.1, Bnd.succ d (h.2 x hx).2.2.2⟩⟩
theorem Bnd.nil (d : Nat) : Bnd d [] := by
  cases d with
  | zero => rfl
  | succ d => exact ⟨Nat.zero_le _, fun x hx => by cases hx⟩
instance : Inhabited S45 := ⟨z45⟩
theorem openR_succ {n : Nat} (ih : OpenV H enc W held n) : OpenR H enc W held (n + 1) := by
  intro cs x h hw
  rcases DataW.trod_slice Tryd.underlying43 h with ⟨hcs, _⟩ | ⟨a, len, cap, elems, rest, m, hn, hcs, hx, _, hl, hm, hlen, hel, hsp, _⟩
  · exact ⟨none, 0, [], hcs, Nat.le_refl _, Kd.C_nil' _ _ _, Bnd.nil _⟩
  · obtain rfl : m = n := by omega
    rw [hx] at hw
    obtain ⟨h1, h2⟩ := w_slice Tryd.underlying43 hw
    have hb : Tryd.prog.bytesOf 45 = 88 := by kernel_rfl
    have hc6 : Tryd.prog.cellsOf 45 = 6 := by kernel_rfl
    rw [hb, List.length_map, List.length_map, hlen] at h1
    rw [hc6] at hel
    have hit : ∀ i, i < len → ∃ (s : S45), (∃ cs', W.cells? 0 (a.add (i * 6)) 6 = some cs' ∧ k45.K W s cs') ∧ s.f2.size ≤ RB ∧ s.f4.length ≤ RB ∧ (∀ t ∈ s.f4, t.size ≤ RB) ∧ Bnd m s.f3 := fun i hi => by
      have he := hel i hi
      have hi' : i < elems.length := by omega
      rw [List.getElem?_eq_getElem hi'] at he
      obtain ⟨cs', hc1, hc2⟩ := Option.bind_eq_some_iff.1 he
      obtain ⟨s, A4, c4, A5, c5, hcs', l4, g4, l5, g5, b1, b2, b3, b4⟩ := ih cs' _ hc2 (h2 _ (List.mem_map.2 ⟨_, List.getElem_mem hi', rfl⟩))
      refine ⟨s, ⟨cs', hc1, ?_⟩, b1, b2, b3, b4⟩
      rw [hcs']
      exact k45_mk W s l4 g4 l5 g5
    obtain ⟨f, hf⟩ := choose_lt hit
    have hxl : ((List.range len).map f).length = len := by rw [List.length_map, List.length_range]
    have hmx : len ≤ 9223372036854775807 := by have : maxLen ≤ 9223372036854775807 := by decide
                                               omega
    refine ⟨some a, cap, (List.range len).map f, by rw [hxl]; exact hcs, by rw [hxl]; exact hl, ⟨rfl, by rw [hxl]; exact hmx, fun _ => ⟨a, rfl, fun j p hj => ?_⟩⟩, ⟨by rw [hxl]; show len ≤ 140737488351232; have h1' : (len + rest.length) * 88 ≤ 140737488351232 := h1; omega, fun x hx => ?_⟩⟩
    · have hjl : j < len := by have := (List.getElem?_eq_some_iff.1 hj).1; omega
      have hp : f j = p := by
        rw [List.getElem?_map, List.getElem?_range hjl] at hj
        exact Option.some.inj hj
      obtain ⟨⟨cs', hc1, hc2⟩, _⟩ := hf j hjl
      rw [hp] at hc2
      obtain ⟨_, hcl, hat⟩ := World.cells?_some hc1
      refine ⟨cs', hcl.trans (show 6 = k45.sz from rfl), hc2, fun i u hu => ?_⟩
      have hi6 : i < 6 := by have := (List.getElem?_eq_some_iff.1 hu).1; omega
      have := hat i hi6
      rw [hu, Go.Deep.add_add] at this
      exact this
    · obtain ⟨i, hi, rfl⟩ := List.mem_map.1 hx
      exact (hf i (List.mem_range.1 hi)).2
theorem list6 {α : Type} : ∀ {cs : List α}, cs.length = 6 → ∃ a b c d e f, cs = [a, b, c, d, e, f]
  | [a, b, c, d, e, f], _ => ⟨a, b, c, d, e, f, rfl⟩
theorem list5 {α : Type} : ∀ {cs : List α}, cs.length = 5 → ∃ a b c d e, cs = [a, b, c, d, e]
  | [a, b, c, d, e], _ => ⟨a, b, c, d, e, rfl⟩
theorem openV_succ {n : Nat} (ih : OpenR H enc W held n) : OpenV H enc W held (n + 1) := by
  intro cs x h hw
  obtain ⟨xs, m, hn, hx, hlen, hxl, hf⟩ := DataW.trod_struct Tryd.underlying45 h
  obtain rfl : m = n := by omega
  have hc6 : Tryd.prog.cellsOf 45 = 6 := by kernel_rfl
  have hc1 : Tryd.prog.cellsOf 3 = 1 := by kernel_rfl
  have hc2 : Tryd.prog.cellsOf 42 = 2 := by kernel_rfl
  have hc3 : Tryd.prog.cellsOf 9 = 1 := by kernel_rfl
  have hc4 : Tryd.prog.cellsOf 43 = 1 := by kernel_rfl
  have hc5 : Tryd.prog.cellsOf 26 = 1 := by kernel_rfl
  rw [hc6] at hlen
  obtain ⟨v0, v1, v2, v3, v4, v5, rfl⟩ := list6 hlen
  obtain ⟨y0, y1, y2, y3, y4, rfl⟩ := list5 hxl
  have g0 : DataW.trod enc Tryd.prog W 0 (fun _ => true) held m 3 (([v0, v1, v2, v3, v4, v5].drop 0).take (Tryd.prog.cellsOf 3)) = some y0 := hf 0 _ rfl
  rw [hc1] at g0
  replace g0 : DataW.trod enc Tryd.prog W 0 (fun _ => true) held m 3 [v0] = some y0 := g0
  have g1 : DataW.trod enc Tryd.prog W 0 (fun _ => true) held m 42 (([v0, v1, v2, v3, v4, v5].drop 1).take (Tryd.prog.cellsOf 42)) = some y1 := hf 1 _ rfl
  rw [hc2] at g1
  replace g1 : DataW.trod enc Tryd.prog W 0 (fun _ => true) held m 42 [v1, v2] = some y1 := g1
  have g2 : DataW.trod enc Tryd.prog W 0 (fun _ => true) held m 9 (([v0, v1, v2, v3, v4, v5].drop 3).take (Tryd.prog.cellsOf 9)) = some y2 := hf 2 _ rfl
  rw [hc3] at g2
  replace g2 : DataW.trod enc Tryd.prog W 0 (fun _ => true) held m 9 [v3] = some y2 := g2
  have g3 : DataW.trod enc Tryd.prog W 0 (fun _ => true) held m 43 (([v0, v1, v2, v3, v4, v5].drop 4).take (Tryd.prog.cellsOf 43)) = some y3 := hf 3 _ rfl
  rw [hc4] at g3
  replace g3 : DataW.trod enc Tryd.prog W 0 (fun _ => true) held m 43 [v4] = some y3 := g3
  have g4 : DataW.trod enc Tryd.prog W 0 (fun _ => true) held m 26 (([v0, v1, v2, v3, v4, v5].drop 5).take (Tryd.prog.cellsOf 26)) = some y4 := hf 4 _ rfl
  rw [hc5] at g4
  replace g4 : DataW.trod enc Tryd.prog W 0 (fun _ => true) held m 26 [v5] = some y4 := g4
  rw [hx] at hw
  have hwt : (DataW.agg (List.map (fun x => x.1) [y0, y1, y2, y3, y4])).weights Tryd.prog 45 = y0.1.weights Tryd.prog 3 ++ (y1.1.weights Tryd.prog 42 ++ (y2.1.weights Tryd.prog 9 ++ (y3.1.weights Tryd.prog 43 ++ (y4.1.weights Tryd.prog 26 ++ [])))) := by
    simp [DataW.weights, Tryd.underlying45, DataW.weightsEach]
  have hw' : ∀ k ∈ y0.1.weights Tryd.prog 3 ++ (y1.1.weights Tryd.prog 42 ++ (y2.1.weights Tryd.prog 9 ++ (y3.1.weights Tryd.prog 43 ++ (y4.1.weights Tryd.prog 26 ++ [])))), k ≤ RB := fun k hk => hw k (by rw [hwt]; exact hk)
  obtain ⟨n0, e0, _, _⟩ := DataW.trod_int Tryd.underlying3 g0
  obtain ⟨u0, u1, k, _, _, t0, t1⟩ := trod_struct2 Tryd.underlying42 g1
  replace t0 : DataW.trod enc Tryd.prog W 0 (fun _ => true) held k 3 (([v1, v2].drop 0).take (Tryd.prog.cellsOf 3)) = some u0 := t0
  replace t1 : DataW.trod enc Tryd.prog W 0 (fun _ => true) held k 3 (([v1, v2].drop 1).take (Tryd.prog.cellsOf 3)) = some u1 := t1
  rw [hc1] at t0 t1
  replace t0 : DataW.trod enc Tryd.prog W 0 (fun _ => true) held k 3 [v1] = some u0 := t0
  replace t1 : DataW.trod enc Tryd.prog W 0 (fun _ => true) held k 3 [v2] = some u1 := t1
  obtain ⟨n1, e1, _, _⟩ := DataW.trod_int Tryd.underlying3 t0
  obtain ⟨n2, e2, _, _⟩ := DataW.trod_int Tryd.underlying3 t1
  obtain ⟨s, e3, hs, _⟩ := DataW.trod_string Tryd.underlying9 g2
  obtain ⟨A4, c4, xs4, e4, l4, k4, b4⟩ := ih _ _ g3 (fun k hk => hw' k (List.mem_append_right _ (List.mem_append_right _ (List.mem_append_right _ (List.mem_append_left _ hk)))))
  obtain ⟨A5, c5, ns, e5, l5, k5, b5, b6⟩ := open_names g4 (fun k hk => hw' k (List.mem_append_right _ (List.mem_append_right _ (List.mem_append_right _ (List.mem_append_right _ (List.mem_append_left _ hk))))))
  have hsz := w_str (P := Tryd.prog) (t := 9) (b := s.data.toList) (H := H) (fun k hk => hw' k (List.mem_append_right _ (List.mem_append_right _ (List.mem_append_left _ (by rw [hs]; exact hk)))))
  rw [size_data] at hsz
  injection e0 with e0; injection e1 with e1; injection e2 with e2; injection e3 with e3; injection e4 with e4; injection e5 with e5
  subst e0 e1 e2 e3 e4 e5
  exact ⟨⟨n0, ⟨n1, n2⟩, s, xs4, ns⟩, A4, c4, A5, c5, rfl, l4, k4, l5, k5, hsz, b5, b6, Bnd.succ m b4⟩
theorem open_both (H : Type) (enc : TypeId × Value → H) (W : World) (held : Bool) : ∀ n, OpenV H enc W held n ∧ OpenR H enc W held n
  | 0 => ⟨fun cs x h => by simp [DataW.trod] at h, fun cs x h => by simp [DataW.trod] at h⟩
  | n + 1 => ⟨openV_succ (open_both H enc W held n).2, openR_succ (open_both H enc W held n).1⟩
end
end Go.Proofs.YtebcepbamlokcaaDoor.Q
namespace Go.Proofs.YtebcepbamlokcaaDoor.Q
open Go.RowKit Go.ChangeShapes Go.Proofs.YtebcepbamlokcaaDoorW.PrintWords
set_option linter.unusedVariables false

theorem gPow : Tryd.prog.globalNamed "internal/strconv.uint64pow10" = some 4 := by kernel_rfl
theorem gPowType : (Tryd.prog.globals[4]?).map (·.type) = some 166 := by kernel_rfl
theorem cellsU64 : Tryd.prog.cellsOf 135 = 1 := by kernel_rfl
theorem cellsPow : Tryd.prog.cellsOf 166 = 20 := by kernel_rfl
theorem gWords : Tryd.prog.globalNamed "loop.example/chancery/impl.words" = some 0 := by kernel_rfl
theorem gWordsType : (Tryd.prog.globals[0]?).map (·.type) = some 26 := by kernel_rfl
theorem strs_inj {H : Type} : ∀ {a b : List ByteArray}, strs (H := H) a = strs b → a = b
  | [], [], _ => rfl
  | [], _ :: _, h => by simp [strs] at h
  | _ :: _, [], h => by simp [strs] at h
  | x :: a, y :: b, h => by
    unfold strs at h
    rw [List.map_cons, List.map_cons] at h
    injection h with h1 h2
    injection h1 with h1
    injection h1 with h1
    rw [strs_inj (H := H) h2]
    congr 1
    cases x; cases y
    congr 1
    exact Array.toList_inj.1 h1
theorem words_of_head {rest : List (String × DataW Unit)} {W : World} (h : laidMet Tryd.prog (("loop.example/chancery/impl.words", Rows.laid_loop_example_chancery_impl_words) :: rest) W) : WordsAt W := by
  obtain ⟨ps, ⟨g', t', cs, fuel, p, q, hg', ht', hvar, hd, _, _⟩, _⟩ := h
  obtain rfl := Option.some.inj (gWords.symm.trans hg')
  obtain rfl := Option.some.inj (gWordsType.symm.trans ht')
  rcases open_strings Tryd.underlying26 Tryd.underlying9 (by kernel_rfl) hd with ⟨_, hx⟩ | ⟨a, len, cap, ss, hcs, _, hl, hm, hz, hx, hcell, hsz⟩
  · exact absurd (congrArg Prod.fst hx) (by unfold Rows.laid_loop_example_chancery_impl_words; simp)
  · have hz' : ss.length = cap := by simpa using hz
    have hw : Rows.laid_loop_example_chancery_impl_words (H := Unit) = DataW.slice (strs wordsL) (strs []) := rfl
    have hx' := congrArg Prod.fst hx
    rw [hw] at hx'
    injection hx' with h1 h2
    have e1 := strs_inj h1
    have hlen : len = 15 := by
      have := congrArg List.length e1
      rw [List.length_take] at this
      have h15 : wordsL.length = 15 := rfl
      omega
    subst hlen
    have hc : W.cell? ⟨0, 0, none⟩ = some (.slice (some a) 15 cap) := by
      rw [World.var?_cell gWords hvar 0, ← Array.getElem?_toList, hcs]; rfl
    refine ⟨a, cap, hc, hl, rfl, by decide, fun _ => ⟨a, rfl, fun j s hj => ⟨[.string s], rfl, rfl, fun i u hu => ?_⟩⟩⟩
    have hi : i = 0 := by
      rcases i with _ | i
      · rfl
      · simp at hu
    subst hi
    have hjl : j < 15 := by have h15 : wordsL.length = 15 := rfl
                            have := (List.getElem?_eq_some_iff.1 hj).1; omega
    have hcj := hcell j (by omega)
    have hp : ss.getD j ByteArray.empty = s := by
      rw [e1, List.getElem?_take_of_lt hjl] at hj
      rw [List.getD_eq_getElem?_getD, hj]; rfl
    rw [hp] at hcj
    have hu' : u = .string s := by simpa using hu.symm
    rw [hu']
    show W.cell? (a.add (j * 1 + 0)) = _
    rw [Nat.mul_one, Nat.add_zero]; exact hcj
theorem iface_of_head {rest : List (String × DataW Unit)} {W : World} {n nm : String} {d : DataW Unit} {g ti : Nat} {ms : Array (String × TypeId)} (h : laidMet Tryd.prog ((n, .iface nm d) :: rest) W)
    (hg : Tryd.prog.globalNamed n = some g) (ht : (Tryd.prog.globals[g]?).map (·.type) = some ti) (hi : Tryd.prog.underlying ti = some (.interface ms)) : ∃ te pe, W.cell? ⟨g, 0, none⟩ = some (.iface te pe) := by
  obtain ⟨ps, ⟨g', t', cs, fuel, p, q, hg', ht', hvar, hd, _, _⟩, _⟩ := h
  obtain rfl := Option.some.inj (hg.symm.trans hg')
  obtain rfl := Option.some.inj (ht.symm.trans ht')
  obtain ⟨f1, u, v, hcs, hn, h1⟩ := iface_of_trod hi hd
  exact ⟨u, v, by rw [World.var?_cell hg hvar 0, ← Array.getElem?_toList, hcs]; rfl⟩
theorem gErr0 : Tryd.prog.globalNamed "strconv.ErrRange" = some 3 := by kernel_rfl
theorem gErr1 : Tryd.prog.globalNamed "strconv.ErrSyntax" = some 2 := by kernel_rfl
theorem laid_value {W : World} (h : laidMetH Tryd.prog Rows.fnExactValueAtRow.laid W) (hs : W.ShapedOpen Tryd.prog) : LaidG 15 W := by
  have h' : laidMet Tryd.prog Rows.fnExactValueAtRow.laid W := h
  have h3 := h'.tail.tail
  have h4 := h3.tail
  have h5 := h4.tail
  have h6 := h5.tail
  have e0 := iface_of_head h4 gErr0 (ti := 92) (by kernel_rfl) Tryd.underlying92
  have e1 := iface_of_head h5 gErr1 (ti := 92) (by kernel_rfl) Tryd.underlying92
  exact LaidG.of_at ⟨hs, fun _ => Lib.tabIs_of_head gPow gPowType Tryd.underlying166 Tryd.underlying135 cellsU64 cellsPow h3, fun _ => words_of_head h6, fun _ => ⟨by first | exact e0 | exact e1, by first | exact e1 | exact e0⟩⟩
theorem vars_back {H : Type} {enc : TypeId × Value → H} {W W' : World} {gs : List (DataW H)} {ps : List MemPlace} (bel : Below W.heap.size W W') (hl : laidOutB Tryd.prog = true) (h : DataW.TrodVars enc Tryd.prog W (fun _ => true) ["loop.example/chancery/impl.words"] gs ps) :
    ∃ g0, gs = [g0] ∧ DataW.TrodVars enc Tryd.prog W' (fun b => decide (b < W.heap.size)) ["loop.example/chancery/impl.words"] gs ps := by
  have hb := bel.trodVars hl (by kernel_rfl) h
  match gs, h, hb with
  | [], h, _ => exact h.elim
  | [g0], _, hb => exact ⟨g0, rfl, hb⟩
  | _ :: _ :: _, h, _ =>
    obtain ⟨_, _, _, _, _, _, _, _, _, _, h, _⟩ := h
    exact h.elim
end Go.Proofs.YtebcepbamlokcaaDoor.Q
