/- PlainSize, PlainPlace, PlainName, PlainOk, GTo, GSz, GEq, Qx13, GMark, GMarkV, GHeld, GPut, GAt, GLawPre -/
import Derived.Test.YtebcepbamlokcaaDoorBWi1
namespace Go.Proofs.YtebcepbamlokcaaDoor.Q
open Go.RowKit Go.Proofs.YtebcepbamlokcaaDoorW.PrintWords Go.Proofs.YtebcepbamlokcaaDoorW.PrintLast
set_option linter.unusedVariables false
set_option linter.unusedSimpArgs false

theorem rdT {xs : List S28} {i : Nat} (hi : i < xs.length) : rd_T28 xs (i : Int) = xs[i] := by
  unfold rd_T28; rw [Int.toNat_natCast, List.getD_eq_getElem?_getD, List.getElem?_eq_getElem hi]; rfl
theorem w64p {n : Int} (h0 : -9223372036854775808 ≤ n) (h1 : n ≤ 9223372036854775807) : wrap64 n = n := by unfold wrap64; omega
theorem w64s {i : Nat} (h : i < 9223372036854775807) : wrap64 ((i : Int) + 1) = ((i + 1 : Nat) : Int) := by rw [w64p (by omega) (by omega)]; omega

def fu : Nat → List S28 → Nat
  | 0, _ => 3
  | e + 1, xs => xs.length + 3 + (xs.map (fun x => fu e x.f3)).sum
theorem le_sum_map {α : Type} (f : α → Nat) : ∀ {l : List α} {a : α}, a ∈ l → f a ≤ (l.map f).sum
  | b :: r, a, h => by
    rw [List.map_cons, List.sum_cons]
    rcases List.mem_cons.1 h with rfl | h
    · omega
    · have := le_sum_map f h; omega

def szT : Nat → S28 → Nat
  | 0, _ => 1
  | e + 1, x => 1 + (x.f3.map (szT e)).sum
def mxT (f : S28 → Nat) : List S28 → Nat
  | [] => 0
  | x :: r => max (f x) (mxT f r)
def dpT : Nat → S28 → Nat
  | 0, _ => 1
  | e + 1, x => mxT (dpT e) x.f3 + 1

theorem specSize_step (x : S28) (S Fu : S28 → Nat) (hk : ∀ y ∈ x.f3, ∀ k, Fu y ≤ k → spec_ValueSize.f k y.f0 y.f1.f0 y.f1.f1 y.f2 y.f3 y.f4 = some (S y : Int)) (hb : 1 + (x.f3.map S).sum ≤ 1099511627776) (hl : x.f3.length ≤ 1099511627776) :
    ∀ k, x.f3.length + 2 + (x.f3.map Fu).sum ≤ k → spec_ValueSize.f k x.f0 x.f1.f0 x.f1.f1 x.f2 x.f3 x.f4 = some ((1 + (x.f3.map S).sum : Nat) : Int) := by
  have hloop : ∀ (n i : Nat) (acc : Nat), i + n = x.f3.length → acc + ((x.f3.drop i).map S).sum ≤ 1099511627776 → ∀ k, n + 1 + (x.f3.map Fu).sum ≤ k → spec_ValueSize.l0 k (acc : Int) (i : Int) x.f0 x.f1.f0 x.f1.f1 x.f2 x.f3 x.f4 = some ((acc + ((x.f3.drop i).map S).sum : Nat) : Int) := by
    intro n
    induction n with
    | zero =>
      intro i acc hi hs k hk'
      obtain ⟨k, rfl⟩ : ∃ m, k = m + 1 := ⟨k - 1, by omega⟩
      rw [spec_ValueSize.l0, if_neg (by omega), List.drop_of_length_le (by omega)]; simp
    | succ n ih =>
      intro i acc hi hs k hk'
      obtain ⟨k, rfl⟩ : ∃ m, k = m + 1 := ⟨k - 1, by omega⟩
      have hlt : i < x.f3.length := by omega
      have hd : x.f3.drop i = x.f3[i] :: x.f3.drop (i + 1) := List.drop_eq_getElem_cons hlt
      rw [hd, List.map_cons, List.sum_cons] at hs
      have hm := List.getElem_mem hlt
      have hF := le_sum_map Fu hm
      rw [spec_ValueSize.l0, if_pos (by omega), if_pos (by omega), rdT hlt, hk _ hm k (by omega)]
      simp only [Option.bind_some]
      rw [w64s (by omega), w64p (by omega) (by omega)]
      have := ih (i + 1) (acc + S x.f3[i]) (by omega) (by omega) k (by omega)
      rw [show ((acc : Int) + (S x.f3[i] : Int)) = ((acc + S x.f3[i] : Nat) : Int) by omega, this, hd, List.map_cons, List.sum_cons]
      congr 2; omega
  intro k hk'
  obtain ⟨k, rfl⟩ : ∃ m, k = m + 1 := ⟨k - 1, by omega⟩
  have := hloop x.f3.length 0 1 (by omega) (by rw [List.drop_zero]; omega) k (by omega)
  rw [List.drop_zero] at this
  rw [spec_ValueSize.f]
  exact this
theorem specSize : ∀ (e : Nat) (x : S28), Fit e x.f3 → szT e x ≤ 1099511627776 → ∀ k, fu e x.f3 ≤ k → spec_ValueSize.f k x.f0 x.f1.f0 x.f1.f1 x.f2 x.f3 x.f4 = some (szT e x : Int)
  | 0, x, hf, _, k, hk => by
    have hx : x.f3 = [] := hf
    have := specSize_step x (fun _ => 0) (fun _ => 0) (by rw [hx]; simp) (by rw [hx]; simp) (by rw [hx]; simp) k (by rw [hx]; simp; unfold fu at hk; omega)
    rw [this, hx]; rfl
  | e + 1, x, hf, hs, k, hk => by
    have hs' : 1 + (x.f3.map (szT e)).sum ≤ 1099511627776 := hs
    refine specSize_step x (szT e) (fun y => fu e y.f3) (fun y hy k hk => specSize e y (hf.2 y hy).2 ?_ k hk) hs' (Nat.le_trans hf.1 (by decide)) k (by unfold fu at hk; omega)
    have := le_sum_map (szT e) hy; omega

theorem implSize_step (x : S28) (S Fu : S28 → Nat) (hk : ∀ y ∈ x.f3, ∀ k, Fu y ≤ k → impl_ValueSize.f k y.f0 y.f1.f0 y.f1.f1 y.f2 y.f3 y.f4 = some (S y : Int)) (hb : 1 + (x.f3.map S).sum ≤ 1099511627776) (hl : x.f3.length ≤ 1099511627776) :
    ∀ k, x.f3.length + 2 + (x.f3.map Fu).sum ≤ k → impl_ValueSize.f k x.f0 x.f1.f0 x.f1.f1 x.f2 x.f3 x.f4 = some ((1 + (x.f3.map S).sum : Nat) : Int) := by
  have hloop : ∀ (n i : Nat) (acc : Nat), i + n = x.f3.length → acc + ((x.f3.drop i).map S).sum ≤ 1099511627776 → ∀ k, n + 1 + (x.f3.map Fu).sum ≤ k → impl_ValueSize.l0 k (acc : Int) x.f3 (x.f3.length : Int) (i : Int) = some ((acc + ((x.f3.drop i).map S).sum : Nat) : Int) := by
    intro n
    induction n with
    | zero =>
      intro i acc hi hs k hk'
      obtain ⟨k, rfl⟩ : ∃ m, k = m + 1 := ⟨k - 1, by omega⟩
      rw [impl_ValueSize.l0, if_neg (by omega), List.drop_of_length_le (by omega)]; simp
    | succ n ih =>
      intro i acc hi hs k hk'
      obtain ⟨k, rfl⟩ : ∃ m, k = m + 1 := ⟨k - 1, by omega⟩
      have hlt : i < x.f3.length := by omega
      have hd : x.f3.drop i = x.f3[i] :: x.f3.drop (i + 1) := List.drop_eq_getElem_cons hlt
      rw [hd, List.map_cons, List.sum_cons] at hs
      have hm := List.getElem_mem hlt
      have hF := le_sum_map Fu hm
      rw [impl_ValueSize.l0, if_pos (by omega), if_pos (by omega), if_pos (by omega), rdT hlt, hk _ hm k (by omega)]
      simp only [Option.bind_some]
      rw [w64s (by omega), w64p (by omega) (by omega)]
      have := ih (i + 1) (acc + S x.f3[i]) (by omega) (by omega) k (by omega)
      rw [show ((acc : Int) + (S x.f3[i] : Int)) = ((acc + S x.f3[i] : Nat) : Int) by omega, this, hd, List.map_cons, List.sum_cons]
      congr 2; omega
  intro k hk'
  obtain ⟨k, rfl⟩ : ∃ m, k = m + 1 := ⟨k - 1, by omega⟩
  have := hloop x.f3.length 0 1 (by omega) (by rw [List.drop_zero]; omega) k (by omega)
  rw [List.drop_zero] at this
  rw [impl_ValueSize.f]
  exact this
theorem implSize : ∀ (e : Nat) (x : S28), Fit e x.f3 → szT e x ≤ 1099511627776 → ∀ k, fu e x.f3 ≤ k → impl_ValueSize.f k x.f0 x.f1.f0 x.f1.f1 x.f2 x.f3 x.f4 = some (szT e x : Int)
  | 0, x, hf, _, k, hk => by
    have hx : x.f3 = [] := hf
    have := implSize_step x (fun _ => 0) (fun _ => 0) (by rw [hx]; simp) (by rw [hx]; simp) (by rw [hx]; simp) k (by rw [hx]; simp; unfold fu at hk; omega)
    rw [this, hx]; rfl
  | e + 1, x, hf, hs, k, hk => by
    have hs' : 1 + (x.f3.map (szT e)).sum ≤ 1099511627776 := hs
    refine implSize_step x (szT e) (fun y => fu e y.f3) (fun y hy k hk => implSize e y (hf.2 y hy).2 ?_ k hk) hs' (Nat.le_trans hf.1 (by decide)) k (by unfold fu at hk; omega)
    have := le_sum_map (szT e) hy; omega

theorem mxT_le (f : S28 → Nat) : ∀ {l : List S28} {n : Nat}, (∀ y ∈ l, f y ≤ n) → mxT f l ≤ n
  | [], n, _ => Nat.zero_le n
  | x :: r, n, h => by
    show max (f x) (mxT f r) ≤ n
    have h1 := h x List.mem_cons_self
    have h2 := mxT_le f (l := r) (fun y hy => h y (List.mem_cons_of_mem _ hy))
    omega
theorem le_mxT (f : S28 → Nat) : ∀ {l : List S28} {y : S28}, y ∈ l → f y ≤ mxT f l
  | x :: r, y, h => by
    show f y ≤ max (f x) (mxT f r)
    rcases List.mem_cons.1 h with rfl | h
    · omega
    · have := le_mxT f h; omega
theorem mxT_append (f : S28 → Nat) : ∀ (l r : List S28), mxT f (l ++ r) = max (mxT f l) (mxT f r)
  | [], r => by rw [List.nil_append]; show mxT f r = max 0 (mxT f r); omega
  | x :: l, r => by rw [List.cons_append]; show max (f x) (mxT f (l ++ r)) = max (max (f x) (mxT f l)) (mxT f r); rw [mxT_append f l r]; omega

theorem specDeep_step (x : S28) (S Fu : S28 → Nat) (hk : ∀ y ∈ x.f3, ∀ k, Fu y ≤ k → spec_l7Deep.f k y.f0 y.f1.f0 y.f1.f1 y.f2 y.f3 y.f4 = some (S y : Int)) (hb : ∀ y ∈ x.f3, S y ≤ 1099511627776) (hl : x.f3.length ≤ 1099511627776) :
    ∀ k, x.f3.length + 2 + (x.f3.map Fu).sum ≤ k → spec_l7Deep.f k x.f0 x.f1.f0 x.f1.f1 x.f2 x.f3 x.f4 = some ((mxT S x.f3 + 1 : Nat) : Int) := by
  have hloop : ∀ (n i : Nat) (acc : Nat), i + n = x.f3.length → acc ≤ 1099511627776 → ∀ k, n + 1 + (x.f3.map Fu).sum ≤ k → spec_l7Deep.l0 k (acc : Int) (i : Int) x.f0 x.f1.f0 x.f1.f1 x.f2 x.f3 x.f4 = some ((max acc (mxT S (x.f3.drop i)) + 1 : Nat) : Int) := by
    intro n
    induction n with
    | zero =>
      intro i acc hi hs k hk'
      obtain ⟨k, rfl⟩ : ∃ m, k = m + 1 := ⟨k - 1, by omega⟩
      rw [spec_l7Deep.l0, if_neg (by omega), List.drop_of_length_le (by omega), w64p (by omega) (by omega)]
      unfold mxT
      congr 1; omega
    | succ n ih =>
      intro i acc hi hs k hk'
      obtain ⟨k, rfl⟩ : ∃ m, k = m + 1 := ⟨k - 1, by omega⟩
      have hlt : i < x.f3.length := by omega
      have hd : x.f3.drop i = x.f3[i] :: x.f3.drop (i + 1) := List.drop_eq_getElem_cons hlt
      have hm := List.getElem_mem hlt
      have hF := le_sum_map Fu hm
      have hS := hb _ hm
      rw [spec_l7Deep.l0, if_pos (by omega), if_pos (by omega), rdT hlt, hk _ hm k (by omega)]
      simp only [Option.bind_some]
      rw [w64s (by omega), hd, show mxT S (x.f3[i] :: x.f3.drop (i + 1)) = max (S x.f3[i]) (mxT S (x.f3.drop (i + 1))) from rfl]
      by_cases hg : (S x.f3[i] : Int) > (acc : Int)
      · rw [if_pos hg, ih (i + 1) (S x.f3[i]) (by omega) hS k (by omega)]
        congr 1; omega
      · rw [if_neg hg, ih (i + 1) acc (by omega) hs k (by omega)]
        congr 1; omega
  intro k hk'
  obtain ⟨k, rfl⟩ : ∃ m, k = m + 1 := ⟨k - 1, by omega⟩
  have := hloop x.f3.length 0 0 (by omega) (by omega) k (by omega)
  rw [List.drop_zero] at this
  rw [spec_l7Deep.f]
  rw [show ((0 : Int)) = ((0 : Nat) : Int) from rfl, this, Nat.zero_max]
theorem dpT_le : ∀ (e : Nat) (x : S28), dpT e x ≤ szT e x
  | 0, _ => Nat.le_refl _
  | e + 1, x => by
    show mxT (dpT e) x.f3 + 1 ≤ 1 + (x.f3.map (szT e)).sum
    have := mxT_le (dpT e) (l := x.f3) (n := (x.f3.map (szT e)).sum) (fun y hy => Nat.le_trans (dpT_le e y) (le_sum_map (szT e) hy)); omega
theorem specDeep : ∀ (e : Nat) (x : S28), szT e x ≤ 1099511627776 → Fit e x.f3 → ∀ k, fu e x.f3 ≤ k → spec_l7Deep.f k x.f0 x.f1.f0 x.f1.f1 x.f2 x.f3 x.f4 = some (dpT e x : Int)
  | 0, x, _, hf, k, hk => by
    have hx : x.f3 = [] := hf
    have := specDeep_step x (fun _ => 0) (fun _ => 0) (by rw [hx]; simp) (by rw [hx]; simp) (by rw [hx]; simp) k (by rw [hx]; simp; unfold fu at hk; omega)
    rw [this, hx]; rfl
  | e + 1, x, hs, hf, k, hk => by
    have hs' : 1 + (x.f3.map (szT e)).sum ≤ 1099511627776 := hs
    have hy0 : ∀ y ∈ x.f3, szT e y ≤ 1099511627776 := fun y hy => by have := le_sum_map (szT e) hy; omega
    exact specDeep_step x (dpT e) (fun y => fu e y.f3) (fun y hy k hk => specDeep e y (hy0 y hy) (hf.2 y hy).2 k hk) (fun y hy => Nat.le_trans (dpT_le e y) (hy0 y hy)) (Nat.le_trans hf.1 (by decide)) k (by unfold fu at hk; omega)
end Go.Proofs.YtebcepbamlokcaaDoor.Q
namespace Go.Proofs.YtebcepbamlokcaaDoor.Q
open Go.RowKit Go.Proofs.YtebcepbamlokcaaDoorW.PrintWords Go.Proofs.YtebcepbamlokcaaDoorW.PrintLast
set_option linter.unusedVariables false
set_option linter.unusedSimpArgs false

def plP (x : S28) (s : ByteArray) : Int := if x.f0 = 6 then idxI s 0 x.f4 else placeB x.f0 x.f3.length s
theorem idxI_lt (s : ByteArray) : ∀ (l : List ByteArray) (i : Nat), idxI s i l < ((i + l.length : Nat) : Int)
  | [], i => by unfold idxI; omega
  | y :: r, i => by
    unfold idxI
    rw [List.length_cons]
    split
    · omega
    · have := idxI_lt s r (i + 1); omega
theorem placeB_lt (kind : Int) (n : Nat) (s : ByteArray) : placeB kind n s < (n : Int) := by
  unfold placeB
  split
  · rename_i h; exact h.2.2.2.1
  · omega
theorem plP_lt (x : S28) (s : ByteArray) (h : x.f0 = 6 → x.f4.length = x.f3.length) : plP x s < (x.f3.length : Int) := by
  unfold plP
  split
  · rename_i h6
    have := idxI_lt s x.f4 0
    rw [h h6] at this
    omega
  · exact placeB_lt _ _ _
theorem impl_place_is (x : S28) (s : ByteArray) (h3 : x.f3.length ≤ 140737488355328) (h4 : x.f4.length ≤ 140737488355328) (hs : s.size ≤ 281474976710656) : impl_Value_place.f x.f0 x.f1.f0 x.f1.f1 x.f2 x.f3 x.f4 s = some (plP x s) := by
  unfold impl_Value_place.f plP
  by_cases h6 : x.f0 = 6
  · rw [if_pos h6, if_pos h6, if_pos h4]
  · rw [if_neg h6, if_neg h6, if_pos ⟨hs, h3⟩]

theorem step_l0 (x : S28) (s : ByteArray) (hl : x.f4.length ≤ 140737488355328) : ∀ (n i : Nat), i + n = x.f4.length → ∀ k, n < k → spec_l13Step.l0 k s (i : Int) x.f0 x.f1.f0 x.f1.f1 x.f2 x.f3 x.f4 = some (idxI s i (x.f4.drop i))
  | _, _, _, 0, hk => absurd hk (by omega)
  | 0, i, hi, k + 1, hk => by
    rw [spec_l13Step.l0, if_neg (by omega), List.drop_of_length_le (by omega)]; rfl
  | n + 1, i, hi, k + 1, hk => by
    have hlt : i < x.f4.length := by omega
    have e : rdOf ByteArray.empty x.f4 (i : Int) = x.f4[i] := by
      unfold rdOf
      rw [Int.toNat_natCast, List.getD_eq_getElem?_getD, List.getElem?_eq_getElem hlt]; rfl
    rw [spec_l13Step.l0, if_pos (by omega), if_pos (by omega), e, List.drop_eq_getElem_cons hlt, idxI]
    by_cases hx : x.f4[i].toList = s.toList
    · rw [if_pos hx, if_pos hx.symm]
    · rw [if_neg hx, if_neg (fun h => hx h.symm), w64s (by omega)]
      exact step_l0 x s hl n (i + 1) (by omega) k (by omega)
def dgI (s : ByteArray) : Nat → Nat → Int
  | _, 0 => -1
  | i, n + 1 => if Lib.decDigits i = s.toList then (i : Int) else dgI s (i + 1) n
theorem step_l1 (x : S28) (s : ByteArray) (hl : x.f3.length ≤ 99999999) : ∀ (n i : Nat), i + n = x.f3.length → ∀ k, n + 9 < k → spec_l13Step.l1 k s (i : Int) x.f0 x.f1.f0 x.f1.f1 x.f2 x.f3 x.f4 = some (dgI s i n)
  | _, _, _, 0, hk => absurd hk (by omega)
  | 0, i, hi, k + 1, hk => by
    rw [spec_l13Step.l1, if_neg (by omega)]; rfl
  | n + 1, i, hi, k + 1, hk => by
    rw [spec_l13Step.l1, if_pos (by omega), spec_dec 8 i (by omega) (by omega) (by omega) k (by omega), Option.bind_some, bs_toList, dgI]
    by_cases hx : Lib.decDigits i = s.toList
    · rw [if_pos hx, if_pos hx]
    · rw [if_neg hx, if_neg hx, w64s (by omega)]
      exact step_l1 x s hl n (i + 1) (by omega) k (by omega)
theorem digits_inj {a b : Nat} (h : Lib.decDigits a = Lib.decDigits b) : a = b := by
  have h1 := (decDigits_all a).2.1
  rw [h, (decDigits_all b).2.1] at h1
  exact h1.symm
theorem dgI_hit (s : ByteArray) : ∀ (n i j : Nat), i ≤ j → j < i + n → Lib.decDigits j = s.toList → dgI s i n = (j : Int)
  | 0, i, j, h1, h2, _ => absurd h2 (by omega)
  | n + 1, i, j, h1, h2, h => by
    unfold dgI
    by_cases hx : Lib.decDigits i = s.toList
    · rw [if_pos hx, digits_inj (hx.trans h.symm)]
    · rw [if_neg hx]
      have : i ≠ j := by rintro rfl; exact hx h
      exact dgI_hit s n (i + 1) j (by omega) (by omega) h
theorem dgI_miss (s : ByteArray) : ∀ (n i : Nat), (∀ j, i ≤ j → j < i + n → Lib.decDigits j ≠ s.toList) → dgI s i n = -1
  | 0, _, _ => rfl
  | n + 1, i, h => by
    unfold dgI
    rw [if_neg (h i (by omega) (by omega))]
    exact dgI_miss s n (i + 1) (fun j h1 h2 => h j (by omega) (by omega))
theorem itoa_nat (n : Nat) : Lib.itoa (n : Int) = Lib.decDigits n := by
  unfold Lib.itoa
  rw [if_neg (by omega)]
  rfl
theorem atoiR_digits {s : ByteArray} {j : Nat} (h : Lib.decDigits j = s.toList) (hj : j < 9223372036854775808) : atoiR s = ((j : Int), false) := by
  obtain ⟨h1, h2, h3, _⟩ := decDigits_all j
  unfold atoiR
  rw [← Lib.toList_data, ← h, atoiAll_dig _ h1 h3 (by rw [h2]; exact hj), h2]
theorem dgI_place (s : ByteArray) (n : Nat) (hn : n ≤ 99999999) : dgI s 0 n = placeB 5 n s := by
  by_cases h : ∃ j, j < n ∧ Lib.decDigits j = s.toList
  · obtain ⟨j, hj, hd⟩ := h
    rw [dgI_hit s n 0 j (by omega) (by omega) hd]
    unfold placeB
    rw [atoiR_digits hd (by omega), if_pos ⟨rfl, rfl, by show (0 : Int) ≤ (j : Int); omega, by show (j : Int) < (n : Int); omega, (itoa_nat j).trans hd⟩]
  · rw [dgI_miss s n 0 (fun j _ h2 hd => h ⟨j, by omega, hd⟩)]
    unfold placeB
    rw [if_neg]
    rintro ⟨_, _, h1, h2, h3⟩
    refine h ⟨(atoiR s).1.toNat, by omega, ?_⟩
    rw [← itoa_nat, Int.toNat_of_nonneg h1, h3]
theorem spec_step_is (x : S28) (s : ByteArray) (h3 : x.f3.length ≤ 99999999) (h4 : x.f4.length ≤ 140737488355328) (h5 : x.f0 ≠ 5 → x.f0 ≠ 6 → x.f3.length = 0) (k : Nat) (hk : x.f3.length + x.f4.length + 9 < k) : spec_l13Step.f k x.f0 x.f1.f0 x.f1.f1 x.f2 x.f3 x.f4 s = some (plP x s) := by
  unfold spec_l13Step.f plP
  by_cases h6 : x.f0 = 6
  · rw [if_pos h6, if_pos h6]
    have := step_l0 x s h4 x.f4.length 0 (by omega) k (by omega)
    rw [List.drop_zero] at this
    exact this
  · rw [if_neg h6, if_neg h6]
    have := step_l1 x s h3 x.f3.length 0 (by omega) k (by omega)
    refine this.trans (congrArg some ?_)
    by_cases hk5 : x.f0 = 5
    · rw [hk5]; exact dgI_place s _ h3
    · rw [h5 hk5 h6]
      unfold placeB
      rw [if_neg (fun h => hk5 h.1)]; rfl
end Go.Proofs.YtebcepbamlokcaaDoor.Q
namespace Go.Proofs.YtebcepbamlokcaaDoor.Q
open Go.RowKit Go.Proofs.YtebcepbamlokcaaDoorW.PrintWords Go.Proofs.YtebcepbamlokcaaDoorW.PrintLast
set_option linter.unusedVariables false
set_option linter.unusedSimpArgs false

theorem low_is (c : UInt8) : spec_l2Low.f (c.toNat : Int) = some (letB c) := isLetter_is c
theorem sfig_is (c : UInt8) : spec_l2Figure.f (c.toNat : Int) = some (figN c) := isFigure_is c
theorem len_size (s : ByteArray) : s.data.toList.length = s.size := by
  have : s.size = s.data.toList.length := by simp
  exact this.symm
theorem bt_at {s : ByteArray} {i : Nat} {c : UInt8} (h : s.data.toList[i]? = some c) : bt s (i : Int) = (c.toNat : Int) := by
  obtain ⟨hl, he⟩ := List.getElem?_eq_some_iff.1 h
  have hsz : i < s.size := by rw [← len_size s]; exact hl
  unfold bt
  rw [dif_pos (show ((i : Int).toNat) < s.size by simpa using hsz)]
  simp only [Int.toNat_natCast]
  have : s[i] = c := by rw [← he]; simp [ByteArray.getElem_eq_getElem_data]
  rw [this]
theorem w64n {n : Int} (h0 : -9223372036854775808 ≤ n) (h1 : n ≤ 9223372036854775807) : wrap64 n = n := by unfold wrap64; omega

theorem letters_l0 (s : ByteArray) (hs : s.size ≤ 1073741824) : ∀ (n i : Nat), i + n = s.size → 1 ≤ i → ∀ k, n < k → spec_l2Letters.l0 k s (i : Int) = some ((s.data.toList.drop i).all nameB && (decide (1 ≤ s.size) && decide (s.size ≤ 12)))
  | _, _, _, _, 0, hk => absurd hk (by omega)
  | 0, i, hi, h1, k + 1, hk => by
    have hl := len_size s
    rw [spec_l2Letters.l0, if_neg (by omega), List.drop_of_length_le (by omega)]
    unfold spec_l1In.f
    rw [if_pos (by omega)]
    simp only [Option.bind_some, List.all_nil, Bool.true_and]
    rw [decide_eq_true (show 1 ≤ s.size by omega), Bool.true_and]
    congr 1
    rw [Bool.eq_iff_iff, decide_eq_true_iff, decide_eq_true_iff]; omega
  | n + 1, i, hi, h1, k + 1, hk => by
    have hl := len_size s
    have hlt : i < s.data.toList.length := by omega
    have hc := List.getElem?_eq_getElem hlt
    rw [spec_l2Letters.l0, if_pos (by omega), if_pos (by omega), bt_at hc, low_is, List.drop_eq_getElem_cons hlt, List.all_cons]
    simp only [Option.bind_some]
    generalize s.data.toList[i] = c
    have he : wrap64 ((i : Int) + 1) = ((i + 1 : Nat) : Int) := by rw [w64n (by omega) (by omega)]; omega
    have ih := letters_l0 s hs n (i + 1) (by omega) (by omega) k (by omega)
    unfold nameB
    cases hb : letB c with
    | true => rw [if_pos rfl, he, ih]; simp only [Bool.true_or, Bool.true_and]; rfl
    | false =>
      rw [if_neg (by decide), if_neg (by omega), sfig_is]
      simp only [Option.bind_some]
      cases hf : figN c with
      | true => rw [if_pos rfl, he, ih]; simp only [Bool.false_or, Bool.true_and]; rfl
      | false => rw [if_neg (by decide)]; simp
theorem letters_is (s : ByteArray) (hs : s.size ≤ 1073741824) (k : Nat) (hk : s.size < k) : spec_l2Letters.f k s = some (decide (0 < s.size) && decide (s.size ≤ 12) && (s.data.toList.head?.any letB) && allN s) := by
  have hl := len_size s
  unfold spec_l2Letters.f allN
  obtain ⟨k, rfl⟩ : ∃ m, k = m + 1 := ⟨k - 1, by omega⟩
  cases hlist : s.data.toList with
  | nil =>
    have h0 : s.size = 0 := by rw [← hl, hlist]; rfl
    rw [spec_l2Letters.l0, if_neg (by omega)]
    unfold spec_l1In.f
    rw [if_neg (by omega)]
    simp [h0]
  | cons c r =>
    have hlt : 0 < s.data.toList.length := by rw [hlist]; simp
    have hc : s.data.toList[0]? = some c := by rw [hlist]; rfl
    have hb0 := bt_at hc
    have h1 := letters_l0 s hs (s.size - 1) 1 (by omega) (by omega) k (by omega)
    have hd : s.data.toList.drop 1 = r := by rw [hlist]; rfl
    rw [hd] at h1
    rw [spec_l2Letters.l0, if_pos (by omega), if_pos (by omega)]
    have e0 : bt s 0 = (c.toNat : Int) := hb0
    rw [e0, low_is]
    simp only [Option.bind_some, List.head?_cons, Option.any_some, List.all_cons]
    have he : wrap64 ((0 : Int) + 1) = ((1 : Nat) : Int) := by rw [w64n (by omega) (by omega)]; rfl
    unfold nameB
    have hp : decide (0 < s.size) = decide (1 ≤ s.size) := rfl
    cases hb : letB c with
    | true =>
      rw [if_pos rfl, he, h1, hp]
      simp only [Bool.true_or, Bool.true_and, Bool.and_true]
      rw [Bool.and_comm]; rfl
    | false => rw [if_neg (by decide)]; simp
theorem has_l0 (l : List ByteArray) (x : ByteArray) (hl : l.length ≤ 1000) : ∀ (n i : Nat), i + n = l.length → ∀ k, n < k → spec_l2Has.l0 k l x (i : Int) = some ((l.drop i).any (fun y => decide (x.toList = y.toList)))
  | _, _, _, 0, hk => absurd hk (by omega)
  | 0, i, hi, k + 1, hk => by rw [spec_l2Has.l0, if_neg (by omega), List.drop_of_length_le (by omega)]; rfl
  | n + 1, i, hi, k + 1, hk => by
    have hlt : i < l.length := by omega
    have e : rdOf ByteArray.empty l (i : Int) = l[i] := by
      unfold rdOf
      rw [Int.toNat_natCast, List.getD_eq_getElem?_getD, List.getElem?_eq_getElem hlt]; rfl
    rw [spec_l2Has.l0, if_pos (by omega), if_pos (by omega), e, List.drop_eq_getElem_cons hlt, List.any_cons]
    have he : wrap64 ((i : Int) + 1) = ((i + 1 : Nat) : Int) := by rw [w64n (by omega) (by omega)]; omega
    by_cases hx : l[i].toList = x.toList
    · rw [if_pos hx, decide_eq_true hx.symm, Bool.true_or]
    · rw [if_neg hx, he, has_l0 l x hl n (i + 1) (by omega) k (by omega), decide_eq_false (fun h => hx h.symm), Bool.false_or]
theorem words_is : spec_l2Words.f = some wordsL := rfl
theorem nameOk_is (s : ByteArray) (hs : s.size ≤ 1073741824) (k : Nat) (hk : s.size + 20 < k) : spec_NameOk.f k s = some (nameOkB s) := by
  unfold spec_NameOk.f nameOkB
  rw [letters_is s hs k (by omega)]
  simp only [Option.bind_some]
  generalize (decide (0 < s.size) && decide (s.size ≤ 12) && (s.data.toList.head?.any letB) && allN s) = b
  cases b with
  | false => rw [if_neg (by decide)]; rfl
  | true =>
    rw [if_pos rfl, words_is]
    simp only [Option.bind_some]
    unfold spec_l2Has.f
    have h15 : wordsL.length = 15 := rfl
    have := has_l0 wordsL s (by rw [h15]; omega) 15 0 (by rw [h15]) k (by omega)
    rw [show ((0 : Int)) = ((0 : Nat) : Int) from rfl, this]
    simp only [Option.bind_some, List.drop_zero, Bool.true_and]
    rfl
end Go.Proofs.YtebcepbamlokcaaDoor.Q
namespace Go.Proofs.YtebcepbamlokcaaDoor.Q
open Go.RowKit Go.Proofs.YtebcepbamlokcaaDoorW.PrintWords Go.Proofs.YtebcepbamlokcaaDoorW.PrintLast
set_option linter.unusedVariables false
set_option linter.unusedSimpArgs false

def Ev (p : Nat → Prop) : Prop := ∃ K, ∀ k, K ≤ k → p k
theorem Ev.and {p q : Nat → Prop} (h : Ev p) (g : Ev q) : Ev (fun k => p k ∧ q k) := by
 obtain ⟨K, h⟩ := h; obtain ⟨L, g⟩ := g
 exact ⟨K + L, fun k hk => ⟨h k (by omega), g k (by omega)⟩⟩
theorem Ev.next {p q : Nat → Prop} (h : Ev p) (f : ∀ k, p k → q (k + 1)) : Ev q := by
 obtain ⟨K, h⟩ := h
 refine ⟨K + 1, fun k hk => ?_⟩
 obtain ⟨k, rfl⟩ : ∃ m, k = m + 1 := ⟨k - 1, (by omega)⟩
 exact f k (h k (by omega))
theorem Ev.imp {p q : Nat → Prop} (h : Ev p) (f : ∀ k, p k → q k) : Ev q := by
 obtain ⟨K, h⟩ := h
 exact ⟨K, fun k hk => f k (h k hk)⟩
theorem Ev.big (n : Nat) : Ev (fun k => n ≤ k) := ⟨n, fun _ h => h⟩
theorem Ev.all {α : Type} {p : Nat → α → Prop} : ∀ {l : List α}, (∀ y ∈ l, Ev (fun k => p k y)) → Ev (fun k => ∀ y ∈ l, p k y)
 | [], _ => ⟨0, fun _ _ y hy => by cases hy⟩
 | y :: r, h => by
  refine Ev.imp ((h y List.mem_cons_self).and (Ev.all (l := r) fun z hz => h z (List.mem_cons_of_mem _ hz))) (fun k hk z hz => ?_)
  rcases List.mem_cons.1 hz with rfl | hz
  ·exact hk.1
  ·exact hk.2 z hz
theorem Ev.some {p : Nat → Prop} (h : Ev p) : ∃ K, ∀ k, K ≤ k → p k := h

def Sml : Nat → S28 → Prop
 | 0, x => x.f3 = [] ∧ x.f4.length ≤ 2097152 ∧ ∀ s ∈ x.f4, s.size ≤ 1073741824
 | e + 1, x => x.f3.length ≤ 2097152 ∧ x.f4.length ≤ 2097152 ∧ (∀ s ∈ x.f4, s.size ≤ 1073741824) ∧ ∀ y ∈ x.f3, Sml e y
theorem Sml.l3 : ∀ {e : Nat} {x : S28}, Sml e x → x.f3.length ≤ 2097152
 | 0, x, h => by rw [h.1]; exact Nat.zero_le _
 | e + 1, x, h => h.1
theorem Sml.l4 : ∀ {e : Nat} {x : S28}, Sml e x → x.f4.length ≤ 2097152
 | 0, x, h => h.2.1
 | e + 1, x, h => h.2.1
theorem Sml.ns : ∀ {e : Nat} {x : S28}, Sml e x → ∀ s ∈ x.f4, s.size ≤ 1073741824
 | 0, x, h => h.2.2
 | e + 1, x, h => h.2.2.1
theorem Sml.kid : ∀ {e : Nat} {x : S28}, Sml e x → ∀ y ∈ x.f3, ∃ e', Sml e' y
 | 0, x, h, y, hy => by rw [h.1] at hy; cases hy
 | e + 1, x, h, y, hy => ⟨e, h.2.2.2 y hy⟩

def nmG (l : List ByteArray) : Nat → Nat → Bool
 | 0, _ => true
 | n + 1, i => nmAt nameOkB l i && nmG l n (i + 1)
theorem nmG_iff (l : List ByteArray) : ∀ (n i : Nat), nmG l n i = true ↔ ∀ j, i ≤ j → j < i + n → nmAt nameOkB l j = true
 | 0, i => ⟨fun _ j h1 h2 => absurd h2 (by omega), fun _ => rfl⟩
 | n + 1, i => by
  show (nmAt nameOkB l i && nmG l n (i + 1)) = true ↔ _
  rw [Bool.and_eq_true, nmG_iff l n (i + 1)]
  constructor
  ·rintro ⟨h1, h2⟩ j hi hj
   by_cases h : j = i
   ·rw [h]; exact h1
   ·exact h2 j (by omega) (by omega)
  ·intro h
   exact ⟨h i (by omega) (by omega), fun j h1 h2 => h j (by omega) (by omega)⟩
theorem nmG_all (l : List ByteArray) : nmG l l.length 0 = nmsB nameOkB l := by
 rw [Bool.eq_iff_iff, nmG_iff]
 constructor
 ·intro h; exact nmsB_true (fun i hi => h i (by omega) (by omega))
 ·intro h j _ hj
  cases hn : nmAt nameOkB l j with
  | true => rfl
  | false => rw [nmsB_false (show j < l.length by omega) hn] at h; cases h
theorem spec_names (l : List ByteArray) (hs : ∀ s ∈ l, s.size ≤ 1073741824) : Ev (fun k => spec_l7Names.f k l = some (nmsB nameOkB l)) := by
 have h : Ev (fun k => ∀ s ∈ l, spec_NameOk.f k s = some (nameOkB s)) := Ev.all (fun s hm => Ev.imp (Ev.big (s.size + 21)) (fun k hk => nameOk_is s (hs s hm) k (by omega)))
 refine h.imp fun k hk => ?_
 unfold spec_l7Names.f
 rw [if_pos (fun s hm => by rw [hk s hm]; rfl)]
 refine congrArg some ?_
 have hn : ∀ s ∈ l, nokB k s = nameOkB s := fun s hm => by unfold nokB; rw [hk s hm]; rfl
 have ha : ∀ i, i < l.length → nmAt (nokB k) l i = nmAt nameOkB l i := fun i hi => by unfold nmAt; rw [hn _ (rd_mem hi)]
 rw [Bool.eq_iff_iff]
 constructor
 ·intro h; refine nmsB_true fun i hi => ?_
  cases hc : nmAt nameOkB l i with
  | true => rfl
  | false => rw [nmsB_false hi ((ha i hi).trans hc)] at h; cases h
 ·intro h; refine nmsB_true fun i hi => ?_
  cases hc : nmAt (nokB k) l i with
  | true => rfl
  | false => rw [nmsB_false hi ((ha i hi).symm.trans hc)] at h; cases h

def dz (x : S28) : Bool := x.f1.f0 == 0 && x.f1.f1 == 0
def tz (x : S28) : Bool := decide (x.f2.toList = [])
def iz (x : S28) : Bool := (x.f3.length : Int) == 0
def nz (x : S28) : Bool := (x.f4.length : Int) == 0
def nodeB (x : S28) : Bool :=
 if x.f0 = 0 ∨ x.f0 = 1 ∨ x.f0 = 2 then dz x && tz x && iz x && nz x
 else if x.f0 = 3 then decide (Ok x.f1.f0 x.f1.f1) && tz x && iz x && nz x
 else if x.f0 = 4 then dz x && decide ((x.f2.size : Int) ≤ 1500) && iz x && nz x
 else if x.f0 = 5 then dz x && tz x && nz x
 else if x.f0 = 6 then dz x && tz x && decide ((x.f4.length : Int) = (x.f3.length : Int)) && nmsB nameOkB x.f4
 else false
theorem one_j0 (x : S28) (k : Nat) : spec_l7One.j0 (k + 1) x.f0 true x.f0 x.f1.f0 x.f1.f1 x.f2 x.f3 x.f4 = some (dz x && tz x && iz x && nz x) := by
 rw [spec_l7One.j0, if_pos rfl]
 unfold dz tz iz nz
 by_cases h1 : (x.f1.f0 == 0 && x.f1.f1 == 0) = true
 ·rw [if_pos h1, h1]
  by_cases h2 : x.f2.toList = []
  ·rw [if_pos h2, decide_eq_true h2]
   by_cases h3 : (x.f3.length : Int) = 0
   ·rw [if_pos h3, beq_iff_eq.2 h3]; simp
   ·rw [if_neg h3, beq_eq_false_iff_ne.2 h3]; simp
  ·rw [if_neg h2, decide_eq_false h2]; simp
 ·rw [if_neg h1, Bool.eq_false_iff.2 h1]; simp
theorem one_is (x : S28) (k : Nat) (hn : spec_l7Names.f k x.f4 = some (nmsB nameOkB x.f4)) : spec_l7One.f (k + 1) x.f0 x.f1.f0 x.f1.f1 x.f2 x.f3 x.f4 = some (nodeB x) := by
 unfold spec_l7One.f
 by_cases h0 : x.f0 = 0
 ·rw [if_pos h0, beq_iff_eq.2 h0, one_j0]; unfold nodeB; rw [if_pos (Or.inl h0)]
 rw [if_neg h0]
 by_cases h1 : x.f0 = 1
 ·rw [if_pos h1, beq_iff_eq.2 h1, one_j0]; unfold nodeB; rw [if_pos (Or.inr (Or.inl h1))]
 rw [if_neg h1]
 by_cases h2 : x.f0 = 2
 ·rw [beq_iff_eq.2 h2, one_j0]; unfold nodeB; rw [if_pos (Or.inr (Or.inr h2))]
 rw [beq_eq_false_iff_ne.2 h2, spec_l7One.j0, if_neg (by decide)]
 unfold nodeB
 rw [if_neg (show ¬(x.f0 = 0 ∨ x.f0 = 1 ∨ x.f0 = 2) from fun h => h.elim h0 (fun h => h.elim h1 h2))]
 unfold dz tz iz nz
 by_cases h3 : x.f0 = 3
 ·rw [if_pos h3, if_pos h3, spec_ok, Option.bind_some]
  by_cases g1 : Ok x.f1.f0 x.f1.f1
  ·rw [decide_eq_true g1, if_pos rfl]
   by_cases g2 : x.f2.toList = []
   ·rw [if_pos g2, decide_eq_true g2]
    by_cases g3 : (x.f3.length : Int) = 0
    ·rw [if_pos g3, beq_iff_eq.2 g3]; simp
    ·rw [if_neg g3, beq_eq_false_iff_ne.2 g3]; simp
   ·rw [if_neg g2, decide_eq_false g2]; simp
  ·rw [decide_eq_false g1, if_neg (by decide)]; simp
 rw [if_neg h3, if_neg h3]
 by_cases h4 : x.f0 = 4
 ·rw [if_pos h4, if_pos h4]
  by_cases g1 : (x.f1.f0 == 0 && x.f1.f1 == 0) = true
  ·rw [if_pos g1, g1]
   by_cases g2 : (x.f2.size : Int) ≤ 1500
   ·rw [if_pos g2, decide_eq_true g2]
    by_cases g3 : (x.f3.length : Int) = 0
    ·rw [if_pos g3, beq_iff_eq.2 g3]; simp
    ·rw [if_neg g3, beq_eq_false_iff_ne.2 g3]; simp
   ·rw [if_neg g2, decide_eq_false g2]; simp
  ·rw [if_neg g1, Bool.eq_false_iff.2 g1]; simp
 rw [if_neg h4, if_neg h4]
 by_cases h5 : x.f0 = 5
 ·rw [if_pos h5, if_pos h5]
  by_cases g1 : (x.f1.f0 == 0 && x.f1.f1 == 0) = true
  ·rw [if_pos g1, g1]
   by_cases g2 : x.f2.toList = []
   ·rw [if_pos g2, decide_eq_true g2]; simp
   ·rw [if_neg g2, decide_eq_false g2]; simp
  ·rw [if_neg g1, Bool.eq_false_iff.2 g1]; simp
 rw [if_neg h5, if_neg h5]
 by_cases h6 : x.f0 = 6
 ·rw [if_pos h6, if_pos h6]
  by_cases g1 : (x.f1.f0 == 0 && x.f1.f1 == 0) = true
  ·rw [if_pos g1, g1]
   by_cases g2 : x.f2.toList = []
   ·rw [if_pos g2, decide_eq_true g2]
    by_cases g3 : (x.f4.length : Int) = (x.f3.length : Int)
    ·rw [if_pos g3, decide_eq_true g3, hn]; simp
    ·rw [if_neg g3, decide_eq_false g3]; simp
   ·rw [if_neg g2, decide_eq_false g2]; simp
  ·rw [if_neg g1, Bool.eq_false_iff.2 g1]; simp
 rw [if_neg h6, if_neg h6]
def allS : Nat → S28 → Bool
 | 0, x => nodeB x
 | e + 1, x => nodeB x && x.f3.all (allS e)
theorem all_step (x : S28) (S : S28 → Bool) (hl : x.f3.length ≤ 2097152) (hs : ∀ s ∈ x.f4, s.size ≤ 1073741824) (hk : ∀ y ∈ x.f3, Ev (fun k => spec_l7All.f k y.f0 y.f1.f0 y.f1.f1 y.f2 y.f3 y.f4 = some (S y))) :
  Ev (fun k => spec_l7All.f k x.f0 x.f1.f0 x.f1.f1 x.f2 x.f3 x.f4 = some (nodeB x && x.f3.all S)) := by
 have hloop : ∀ (n i : Nat), i + n = x.f3.length → Ev (fun k => spec_l7All.l0 k (i : Int) x.f0 x.f1.f0 x.f1.f1 x.f2 x.f3 x.f4 = some ((x.f3.drop i).all S)) := by
  intro n
  induction n with
  | zero =>
   intro i hi
   refine (Ev.big 0).next fun k _ => ?_
   rw [spec_l7All.l0, if_neg (by omega), List.drop_of_length_le (by omega)]; rfl
  | succ n ih =>
   intro i hi
   have hlt : i < x.f3.length := by omega
   refine ((hk _ (List.getElem_mem hlt)).and (ih (i + 1) (by omega))).next fun k h => ?_
   rw [spec_l7All.l0, if_pos (by omega), if_pos (by omega), rdT hlt, h.1, Option.bind_some, List.drop_eq_getElem_cons hlt, List.all_cons, w64s (by omega), h.2]
   cases S x.f3[i] <;> simp
 have h1 : Ev (fun k => spec_l7One.f k x.f0 x.f1.f0 x.f1.f1 x.f2 x.f3 x.f4 = some (nodeB x)) := (spec_names x.f4 hs).next (fun k h => one_is x k h)
 refine (h1.and (hloop x.f3.length 0 (by omega))).next fun k h => ?_
 rw [spec_l7All.f, h.1, Option.bind_some]
 have h2 := h.2
 rw [List.drop_zero] at h2
 rw [show (0 : Int) = ((0 : Nat) : Int) from rfl, h2]
 cases nodeB x <;> simp
theorem all_is : ∀ (e : Nat) (x : S28), Sml e x → Ev (fun k => spec_l7All.f k x.f0 x.f1.f0 x.f1.f1 x.f2 x.f3 x.f4 = some (allS e x))
 | 0, x, h => by
  have := all_step x (fun _ => true) h.l3 h.ns (by rw [h.1]; intro y hy; cases hy)
  rw [h.1] at this
  refine this.imp fun k hk => ?_
  rw [h.1]
  refine hk.trans ?_
  show some (nodeB x && true) = some (nodeB x)
  rw [Bool.and_true]
 | e + 1, x, h => all_step x (allS e) h.l3 h.ns (fun y hy => all_is e y (h.2.2.2 y hy))

def wrongB (x : S28) : Bool := (decide (x.f0 ≠ 3) && !dz x) || (decide (x.f0 ≠ 4) && !tz x) || (decide (x.f0 < 5) && decide ((x.f3.length : Int) > 0)) || (decide (x.f0 ≠ 6) && decide ((x.f4.length : Int) > 0))
theorem vok_j0 (k : Nat) (x : S28) (n : Int) (h : n ≠ 0) : impl_valueOk.f k x.f0 x.f1.f0 x.f1.f1 x.f2 x.f3 x.f4 n = impl_valueOk.j0 k n (wrongB x) x.f0 x.f1.f0 x.f1.f1 x.f2 x.f3 x.f4 := by
 obtain ⟨f0, ⟨m, e⟩, t, xs, ns⟩ := x
 unfold impl_valueOk.f wrongB dz tz
 simp only
 rw [if_neg h]
 generalize hA : impl_valueOk.j0 k n = A
 have hd : (!(m == 0) || !(e == 0)) = !(m == 0 && e == 0) := by cases (m == 0) <;> cases (e == 0) <;> rfl
 rw [hd]
 generalize (m == 0 && e == 0) = D
 generalize hX : decide ((xs.length : Int) > 0) = X
 generalize hN : decide ((ns.length : Int) > 0) = Y
 have hx : ((xs.length : Int) > 0) = (X = true) := by rw [← hX]; simp
 simp only [hx]
 by_cases h2 : t.toList = []
 ·by_cases h3 : f0 = 3
  ·subst h3; cases D <;> cases X <;> cases Y <;> simp [h2]
  by_cases h4 : f0 = 4
  ·subst h4; cases D <;> cases X <;> cases Y <;> simp [h2]
  by_cases h6 : f0 = 6
  ·subst h6; cases D <;> cases X <;> cases Y <;> simp [h2]
  by_cases h5 : f0 < 5
  ·cases D <;> cases X <;> cases Y <;> simp [h2, h3, h4, h5, h6]
  ·cases D <;> cases X <;> cases Y <;> simp [h2, h3, h4, h5, h6]
 ·by_cases h3 : f0 = 3
  ·subst h3; cases D <;> cases X <;> cases Y <;> simp [h2]
  by_cases h4 : f0 = 4
  ·subst h4; cases D <;> cases X <;> cases Y <;> simp [h2]
  by_cases h6 : f0 = 6
  ·subst h6; cases D <;> cases X <;> cases Y <;> simp [h2]
  by_cases h5 : f0 < 5
  ·cases D <;> cases X <;> cases Y <;> simp [h2, h3, h4, h5, h6]
  ·cases D <;> cases X <;> cases Y <;> simp [h2, h3, h4, h5, h6]
theorem vok_r (k : Nat) (x : S28) (n : Int) : impl_valueOk.r (k + 1) x.f0 x.f1.f0 x.f1.f1 x.f2 x.f3 x.f4 n = impl_valueOk.f k x.f0 x.f1.f0 x.f1.f1 x.f2 x.f3 x.f4 n := by
 rw [impl_valueOk.r, impl_valueOk.f]
theorem idx_is (g : ElemF) (b : S28 → Bool) (l : List S28) (hl : l.length ≤ 1099511627776) (hg : ∀ y ∈ l, g y.f0 y.f1.f0 y.f1.f1 y.f2 y.f3 y.f4 = some (!b y)) :
  ∀ (n i : Nat), i + n = l.length → ∀ k, n < k → ∃ r, idxF.l0 g k l (l.length : Int) (i : Int) = some r ∧ decide (r ≥ 0) = !((l.drop i).all b)
 | _, _, _, 0, hk => absurd hk (by omega)
 | 0, i, hi, k + 1, hk => by
  refine ⟨-1, ?_, ?_⟩
  ·rw [idxF.l0, if_neg (by omega)]
  ·rw [List.drop_of_length_le (by omega)]; rfl
 | n + 1, i, hi, k + 1, hk => by
  have hlt : i < l.length := by omega
  rw [idxF.l0, if_pos (by omega), if_pos (by omega), if_pos (by omega), rdT hlt, hg _ (List.getElem_mem hlt), Option.bind_some, List.drop_eq_getElem_cons hlt, List.all_cons]
  cases hb : b l[i] with
  | true =>
   rw [if_neg (by decide), w64s (by omega), Bool.true_and]
   exact idx_is g b l hl hg n (i + 1) (by omega) k (by omega)
  | false =>
   rw [if_pos (by decide)]
   exact ⟨(i : Int), rfl, (by rw [decide_eq_true (by omega)]; rfl)⟩
theorem con_is (b : S28 → Bool) (l : List S28) (n : Nat) (hl : l.length ≤ 1099511627776) (hn : n ≤ 1000) (hk : ∀ y ∈ l, Ev (fun k => impl_valueOk.f k y.f0 y.f1.f0 y.f1.f1 y.f2 y.f3 y.f4 (n : Int) = some (b y))) :
  Ev (fun k => conV.f k l ((n + 1 : Nat) : Int) = some (!l.all b)) := by
 have h1 : Ev (fun k => ∀ y ∈ l, impl_valueOk.r k y.f0 y.f1.f0 y.f1.f1 y.f2 y.f3 y.f4 (n : Int) = some (b y)) := Ev.all (fun y hy => (hk y hy).next fun k h => by rw [vok_r]; exact h)
 refine (h1.and (Ev.big (l.length + 1))).imp fun k h => ?_
 unfold conV.f
 rw [show wrap64 (((n + 1 : Nat) : Int) - 1) = (n : Int) by rw [w64p (by omega) (by omega)]; omega]
 obtain ⟨r, hr, hd⟩ := idx_is (fun b0 b1 b2 b3 b4 b5 => (impl_valueOk.r k b0 b1 b2 b3 b4 b5 (n : Int)).bind fun t_ => some (!t_)) b l hl (fun y hy => by rw [h.1 y hy]; rfl) l.length 0 (by omega) k (by omega)
 unfold idxF.f
 rw [show (0 : Int) = ((0 : Nat) : Int) from rfl, hr, Option.bind_some]
 rw [List.drop_zero] at hd
 exact congrArg some hd
def kidK (x : S28) : Bool := decide (x.f0 = 0 ∨ x.f0 = 1 ∨ x.f0 = 2 ∨ x.f0 = 5)
def okB (x : S28) (K : Bool) : Bool :=
 if kidK x = true then K else if x.f0 = 3 then decide (Ok x.f1.f0 x.f1.f1) else if x.f0 = 4 then decide ((x.f2.size : Int) ≤ 1500) else if x.f0 = 6 then nmsB nameOkB x.f4 && decide ((x.f4.length : Int) = (x.f3.length : Int)) && K else false
theorem vok_l0 (x : S28) (n : Int) (K : Bool) (hc : Ev (fun k => conV.f k x.f3 n = some (!K))) (hl : x.f4.length ≤ 2097152) : ∀ (m i : Nat), i + m = x.f4.length → Ev (fun k => impl_valueOk.l0 k n x.f4 (x.f4.length : Int) (i : Int) x.f0 x.f1.f0 x.f1.f1 x.f2 x.f3 x.f4 = some (nmG x.f4 m i && decide ((x.f4.length : Int) = (x.f3.length : Int)) && K))
 | 0, i, hi => by
  refine hc.next fun k h => ?_
  rw [impl_valueOk.l0, if_neg (by omega)]
  by_cases hE : (x.f4.length : Int) = (x.f3.length : Int)
  ·rw [if_pos hE, decide_eq_true hE]
   refine (congrArg (fun o : Option Bool => o.bind fun t => some (!t)) h).trans ?_
   rw [Option.bind_some, Bool.not_not]; rfl
  ·rw [if_neg hE, decide_eq_false hE]; unfold nmG; simp
 | m + 1, i, hi => by
  have hlt : i < x.f4.length := by omega
  refine (vok_l0 x n K hc hl m (i + 1) (by omega)).next fun k h => ?_
  rw [impl_valueOk.l0, if_pos (by omega), if_pos (by omega), if_pos (by omega)]
  unfold impl_NameOk.f
  rw [Option.bind_some]
  show _ = some ((nmAt nameOkB x.f4 i && nmG x.f4 m (i + 1)) && _ && K)
  unfold nmAt
  cases hb : nameOkB (rdOf ByteArray.empty x.f4 (i : Int)) with
  | false => rw [if_neg (by decide)]; simp
  | true =>
   rw [if_pos rfl, w64s (by omega), h]
   by_cases h0 : i = 0
   ·subst h0
    rw [if_neg (by omega)]; simp
   ·rw [if_pos (by omega), w64p (by omega) (by omega), if_pos (by omega), if_pos (by omega), beq_eq_false_iff_ne.2 h0]
    cases Op.bytesLess (rdOf ByteArray.empty x.f4 ((i : Int) - 1)).toList (rdOf ByteArray.empty x.f4 (i : Int)).toList <;> simp
theorem vok_step (x : S28) (n : Nat) (K : Bool) (hn : n ≤ 1000) (hl : x.f4.length ≤ 2097152) (hc : Ev (fun k => conV.f k x.f3 ((n + 1 : Nat) : Int) = some (!K))) :
  Ev (fun k => impl_valueOk.f k x.f0 x.f1.f0 x.f1.f1 x.f2 x.f3 x.f4 ((n + 1 : Nat) : Int) = some (!wrongB x && okB x K)) := by
 have h1 : Ev (fun k => impl_valueOk.j1 k ((n + 1 : Nat) : Int) x.f0 (kidK x) x.f0 x.f1.f0 x.f1.f1 x.f2 x.f3 x.f4 = some (okB x K)) := by
  refine (hc.and (vok_l0 x _ K hc hl x.f4.length 0 (by omega))).next fun k h => ?_
  rw [impl_valueOk.j1]
  unfold okB
  by_cases hk : kidK x = true
  ·rw [if_pos hk, if_pos hk]
   refine (congrArg (fun o : Option Bool => o.bind fun t => some (!t)) h.1).trans ?_
   rw [Option.bind_some, Bool.not_not]
  rw [if_neg hk, if_neg hk]
  by_cases h3 : x.f0 = 3
  ·rw [if_pos h3, if_pos h3, impl_ok]; rfl
  rw [if_neg h3, if_neg h3]
  by_cases h4 : x.f0 = 4
  ·rw [if_pos h4, if_pos h4]
  rw [if_neg h4, if_neg h4]
  by_cases h6 : x.f0 = 6
  ·rw [if_pos h6, if_pos h6]
   refine h.2.trans ?_
   rw [nmG_all]
  rw [if_neg h6, if_neg h6]
 refine h1.next fun k h => ?_
 rw [vok_j0 _ _ _ (by omega), impl_valueOk.j0]
 cases hw : wrongB x with
 | true => rw [if_pos rfl]; rfl
 | false =>
  rw [if_neg (by decide), Bool.not_false, Bool.true_and]
  unfold kidK at h
  by_cases h0 : x.f0 = 0
  ·rw [if_pos h0, beq_iff_eq.2 h0]; rw [decide_eq_true (Or.inl h0)] at h; exact h
  rw [if_neg h0]
  by_cases h1 : x.f0 = 1
  ·rw [if_pos h1, beq_iff_eq.2 h1]; rw [decide_eq_true (Or.inr (Or.inl h1))] at h; exact h
  rw [if_neg h1]
  by_cases h2 : x.f0 = 2
  ·rw [if_pos h2, beq_iff_eq.2 h2]; rw [decide_eq_true (Or.inr (Or.inr (Or.inl h2)))] at h; exact h
  rw [if_neg h2]
  by_cases h5 : x.f0 = 5
  ·rw [beq_iff_eq.2 h5]; rw [decide_eq_true (Or.inr (Or.inr (Or.inr h5)))] at h; exact h
  rw [beq_eq_false_iff_ne.2 h5]; rw [decide_eq_false (by rintro (h | h | h | h) <;> contradiction)] at h; exact h
def allI : Nat → S28 → Bool
 | 0, _ => false
 | n + 1, x => nodeB x && x.f3.all (allI n)
theorem node_ok (x : S28) (p : S28 → Bool) : (!wrongB x && okB x (x.f3.all p)) = (nodeB x && x.f3.all p) := by
 unfold wrongB okB nodeB kidK iz nz
 have hnil : (x.f3.length : Int) = 0 → x.f3.all p = true := fun h => by
  have : x.f3 = [] := List.length_eq_zero_iff.1 (by omega)
  rw [this]; rfl
 generalize x.f3.all p = K at *
 generalize dz x = D
 generalize tz x = T
 generalize decide (Ok x.f1.f0 x.f1.f1) = O
 generalize decide ((x.f2.size : Int) ≤ 1500) = S
 generalize decide ((x.f4.length : Int) = (x.f3.length : Int)) = E
 generalize nmsB nameOkB x.f4 = M
 have hy : ((x.f4.length : Int) == 0) = !decide ((x.f4.length : Int) > 0) := by
  by_cases h : (x.f4.length : Int) = 0
  ·rw [beq_iff_eq.2 h, decide_eq_false (by omega)]; rfl
  ·rw [beq_eq_false_iff_ne.2 h, decide_eq_true (by omega)]; rfl
 have hx : ((x.f3.length : Int) == 0) = !decide ((x.f3.length : Int) > 0) := by
  by_cases h : (x.f3.length : Int) = 0
  ·rw [beq_iff_eq.2 h, decide_eq_false (by omega)]; rfl
  ·rw [beq_eq_false_iff_ne.2 h, decide_eq_true (by omega)]; rfl
 have hK : decide ((x.f3.length : Int) > 0) = false → K = true := fun h => hnil (by have := of_decide_eq_false h; omega)
 rw [hx, hy]
 clear hx hy hnil
 generalize decide ((x.f3.length : Int) > 0) = X at *
 generalize decide ((x.f4.length : Int) > 0) = Y at *
 generalize x.f0 = f0
 have hk : X = true ∨ K = true := by cases X with | true => exact Or.inl rfl | false => exact Or.inr (hK rfl)
 clear hK
 by_cases h0 : f0 = 0
 ·subst h0; cases D <;> cases T <;> cases X <;> cases Y <;> simp
 by_cases h1 : f0 = 1
 ·subst h1; cases D <;> cases T <;> cases X <;> cases Y <;> simp
 by_cases h2 : f0 = 2
 ·subst h2; cases D <;> cases T <;> cases X <;> cases Y <;> simp
 by_cases h3 : f0 = 3
 ·subst h3; cases O <;> cases T <;> cases X <;> cases Y <;> cases K <;> simp_all
 by_cases h4 : f0 = 4
 ·subst h4; cases D <;> cases S <;> cases X <;> cases Y <;> cases K <;> simp_all
 by_cases h5 : f0 = 5
 ·subst h5; cases D <;> cases T <;> cases X <;> cases Y <;> simp
 by_cases h6 : f0 = 6
 ·subst h6; cases D <;> cases T <;> cases X <;> cases E <;> cases M <;> simp
 rw [if_neg (by simp [h0, h1, h2, h5]), if_neg h3, if_neg h4, if_neg h6, if_neg (by simp [h0, h1, h2]), if_neg h3, if_neg h4, if_neg h5, if_neg h6]; simp
theorem impl_all_is : ∀ (n e : Nat) (x : S28), n ≤ 1000 → Sml e x → Ev (fun k => impl_valueOk.f k x.f0 x.f1.f0 x.f1.f1 x.f2 x.f3 x.f4 (n : Int) = some (allI n x))
 | 0, e, x, _, h => (Ev.big 0).next fun k _ => by
  unfold impl_valueOk.f
  rw [if_pos (show ((0 : Nat) : Int) = 0 from rfl), impl_valueOk.j0, if_pos rfl]; rfl
 | n + 1, e, x, hn, h => by
  have hc := con_is (allI n) x.f3 n (Nat.le_trans h.l3 (by decide)) (by omega) (fun y hy => by obtain ⟨e', he⟩ := h.kid y hy; exact impl_all_is n e' y (by omega) he)
  refine (vok_step x n _ (by omega) h.l4 hc).imp fun k hk => hk.trans ?_
  rw [node_ok]; rfl
theorem mxT_iff (f : S28 → Nat) (n : Nat) : ∀ (l : List S28), mxT f l ≤ n ↔ ∀ y ∈ l, f y ≤ n := fun l => ⟨fun h y hy => Nat.le_trans (le_mxT f hy) h, fun h => mxT_le f h⟩
theorem allI_is : ∀ (e : Nat) (x : S28) (n : Nat), Sml e x → allI n x = (allS e x && decide (dpT e x ≤ n))
 | 0, x, 0, h => by
  rw [decide_eq_false (show ¬ dpT 0 x ≤ 0 from Nat.not_succ_le_zero 0), Bool.and_false]; rfl
 | 0, x, n + 1, h => by
  rw [decide_eq_true (show dpT 0 x ≤ n + 1 from Nat.succ_le_succ (Nat.zero_le n))]
  show (nodeB x && x.f3.all (allI n)) = (nodeB x && true); rw [h.1]; rfl
 | e + 1, x, 0, h => by
  rw [decide_eq_false (show ¬ dpT (e + 1) x ≤ 0 from Nat.not_succ_le_zero _), Bool.and_false]; rfl
 | e + 1, x, n + 1, h => by
  show (nodeB x && x.f3.all (allI n)) = ((nodeB x && x.f3.all (allS e)) && decide (mxT (dpT e) x.f3 + 1 ≤ n + 1))
  rw [Bool.and_assoc]
  congr 1
  rw [Bool.eq_iff_iff, Bool.and_eq_true, List.all_eq_true, List.all_eq_true, decide_eq_true_iff, Nat.succ_le_succ_iff, mxT_iff]
  constructor
  ·intro hh
   have hb : ∀ y ∈ x.f3, allS e y = true ∧ dpT e y ≤ n := fun y hy => by
    have := hh y hy
    rw [allI_is e y n (h.2.2.2 y hy), Bool.and_eq_true, decide_eq_true_iff] at this
    exact this
   exact ⟨fun y hy => (hb y hy).1, fun y hy => (hb y hy).2⟩
  ·rintro ⟨h1, h2⟩ y hy
   rw [allI_is e y n (h.2.2.2 y hy), Bool.and_eq_true, decide_eq_true_iff]
   exact ⟨h1 y hy, h2 y hy⟩
theorem Sml.fit : ∀ {e : Nat} {x : S28}, Sml e x → Fit e x.f3
 | 0, x, h => h.1
 | e + 1, x, h => ⟨h.1, fun y hy => ⟨(h.2.2.2 y hy).l4, (h.2.2.2 y hy).fit⟩⟩
def goodB (e : Nat) (x : S28) : Bool := allS e x && decide (dpT e x ≤ 20) && decide (szT e x ≤ 200)
theorem impl_good (e : Nat) (x : S28) (h : Sml e x) (hs : szT e x ≤ 1099511627776) : Ev (fun k => impl_ValueOk.f k x.f0 x.f1.f0 x.f1.f1 x.f2 x.f3 x.f4 = some (goodB e x)) := by
 refine ((impl_all_is 20 e x (by omega) h).and (Ev.big (fu e x.f3))).imp fun k hk => ?_
 unfold impl_ValueOk.f goodB
 have h1 := hk.1
 rw [show ((20 : Nat) : Int) = 20 from rfl] at h1
 rw [h1, Option.bind_some, ← allI_is e x 20 h, implSize e x h.fit hs k hk.2]
 cases allI 20 x with
 | true =>
  rw [if_pos rfl, Option.bind_some, Bool.true_and]
  refine congrArg some ?_
  rw [Bool.eq_iff_iff, decide_eq_true_iff, decide_eq_true_iff]; omega
 | false => rw [if_neg (by decide), Bool.false_and]
theorem spec_good (e : Nat) (x : S28) (h : Sml e x) (hs : szT e x ≤ 1099511627776) : Ev (fun k => spec_ValueOk.f k x.f0 x.f1.f0 x.f1.f1 x.f2 x.f3 x.f4 = some (goodB e x)) := by
 refine ((all_is e x h).and (Ev.big (fu e x.f3))).imp fun k hk => ?_
 unfold spec_ValueOk.f goodB
 rw [specSize e x h.fit hs k hk.2, Option.bind_some, specDeep e x hs h.fit k hk.2]
 by_cases h1 : szT e x ≤ 200
 ·rw [if_pos (by omega), Option.bind_some, decide_eq_true h1, Bool.and_true]
  by_cases h2 : dpT e x ≤ 20
  ·rw [if_pos (by omega), hk.1, Option.bind_some, decide_eq_true h2, Bool.and_true]
  ·rw [if_neg (by omega), decide_eq_false h2, Bool.and_false]
 ·rw [if_neg (by omega), decide_eq_false h1, Bool.and_false]
end Go.Proofs.YtebcepbamlokcaaDoor.Q
namespace Go.Proofs.YtebcepbamlokcaaDoor.Q
open Go.RowKit Go.Proofs.YtebcepbamlokcaaDoorW.PrintWords Go.Proofs.YtebcepbamlokcaaDoorW.PrintLast
set_option linter.unusedVariables false
set_option linter.unusedSimpArgs false

def Fit45 : Nat → List S45 → Prop
  | 0, xs => xs = []
  | d + 1, xs => xs.length ≤ 2097152 ∧ ∀ x ∈ xs, x.f4.length ≤ 2097152 ∧ Fit45 d x.f3
def toV (f : List S45 → List S28) (x : S45) : S28 := ⟨x.f0, ⟨x.f1.f0, x.f1.f1⟩, x.f2, f x.f3, x.f4⟩
def toL : Nat → List S45 → List S28
  | 0, _ => []
  | d + 1, xs => xs.map (toV (toL d))
theorem toL_length : ∀ (d : Nat) (xs : List S45), Fit45 d xs → (toL d xs).length = xs.length
  | 0, xs, h => by rw [show xs = [] from h]; rfl
  | d + 1, xs, _ => by unfold toL; rw [List.length_map]

theorem toDec_calls (m e : Int) (w : World) : Calls Tryd.prog 65 #[.agg #[.int .i64 m, .int .i64 e]] w fun e' w' => e' = .returned (.agg #[.int .i64 m, .int .i64 e]) ∧ Below w.heap.size w w' := by
  go_enter Tryd.func65, Tryd.ntmps65
  go_wp2_with (first
    | ((with_reducible refine gate_dst (N := 1) rfl ?_); refine box_event ?hg (N := 1) ?hd (cs := #[.int .i64 m, .int .i64 e]) (t := 42) ?hr ?_; (case hd => rfl); (case hg => rfl); (case hr => first | (go_simp; done) | (go_simp; rfl))
       intro g1 hg1 w1 hbox1 hb1; have G1 := Aside0.mk hg1; have B1 := Aside0.mk hbox1; have L1 := Aside0.mk hb1; clear hg1 hbox1 hb1)
    | ((with_reducible refine gate_dst (N := 2) rfl ?_); refine box_event ?hg (N := 2) ?hd (cs := #[.int .i64 0, .int .i64 0]) (t := 24) ?hr ?_; (case hd => rfl); (case hg => rfl); (case hr => first | (go_simp; done) | (go_simp; rfl))
       intro g2 hg2 w2 hbox2 hb2; have G2 := Aside0.mk hg2; have B2 := Aside0.mk hbox2; have L2 := Aside0.mk hb2; clear hg2 hbox2 hb2)
    | ((with_reducible refine gate_dst (N := 3) rfl ?_); refine box_event ?hg (N := 3) ?hd (cs := #[.int .i64 0, .int .i64 0]) (t := 24) ?hr ?_; (case hd => rfl); (case hg => rfl); (case hr => first | (go_simp; done) | (go_simp; rfl))
       intro g3 hg3 w3 hbox3 hb3; have G3 := Aside0.mk hg3; have B3 := Aside0.mk hbox3; have L3 := Aside0.mk hb3; clear hg3 hbox3 hb3
       have C2 := blk_keep B2.out L3.out (blk_lt B2.out)
       have C1 := blk_keep (blk_keep B1.out L2.out (blk_lt B1.out)) L3.out (blk_lt (blk_keep B1.out L2.out (blk_lt B1.out)))
       have h12 : g1 ≠ g2 := by have := blk_lt B1.out; have := G2.out; omega
       have h23 : g2 ≠ g3 := by have := blk_lt B2.out; have := G3.out; omega
       have h13 : g1 ≠ g3 := by have := blk_lt (blk_keep B1.out L2.out (blk_lt B1.out)); have := G3.out; omega
       have h21 := h12.symm; have h32 := h23.symm; have h31 := h13.symm
       have a0 : w3.cell? ⟨g1, 0, none⟩ = some (.int .i64 m) := blk_cell C1 0
       have a1 : w3.cell? ⟨g1, 1, none⟩ = some (.int .i64 e) := blk_cell C1 1
       have b0 : w3.cell? ⟨g2, 0, none⟩ = some (.int .i64 0) := blk_cell C2 0
       have b1 : w3.cell? ⟨g2, 1, none⟩ = some (.int .i64 0) := blk_cell C2 1
       have c0 : w3.cell? ⟨g3, 0, none⟩ = some (.int .i64 0) := blk_cell B3.out 0
       have c1 : w3.cell? ⟨g3, 1, none⟩ = some (.int .i64 0) := blk_cell B3.out 1
       have y0 := blk_frozen C2 0; have y1 := blk_frozen C2 1; have z0 := blk_frozen B3.out 0; have z1 := blk_frozen B3.out 1))
  have D2 := blk_put (cs' := #[.int .i64 m, .int .i64 e]) (blk_put (cs' := #[.int .i64 m, .int .i64 0]) (blk_far (p := ⟨g3, 1, none⟩) (blk_far (p := ⟨g3, 0, none⟩) C2 h23 (.int .i64 m)) h23 (.int .i64 e)) 0 (.int .i64 m) rfl) 1 (.int .i64 e) rfl
  refine bodyPost_ret (results_cell_row rfl _ _ g2 24 #[.int .i64 m, .int .i64 e] (0, 0) _ rfl D2 Tryd.underlying24 rfl (by kernel_rfl)) rfl ?_
  have L := below_step (below_step L1.out L2.out) L3.out
  have h2 : w.heap.size ≤ g2 := by have := L1.out.size; have := G2.out; omega
  have h3 : w.heap.size ≤ g3 := by have := L1.out.size; have := L2.out.size; have := G3.out; omega
  exact ⟨rfl, Below.setCell (p := ⟨g2, 1, none⟩) (Below.setCell (p := ⟨g2, 0, none⟩) (Below.setCell (p := ⟨g3, 1, none⟩) (Below.setCell (p := ⟨g3, 0, none⟩) L h3 _) h3 _) h2 _) h2 _⟩

set_option maxHeartbeats 1000000 in
theorem toStringS_calls (w : World) (A : Option Addr) (c : Nat) (ns : List ByteArray) (h : Kd.C Kd.string w A ns.length ns) (hc : ns.length ≤ c) (hn : ns.length ≤ 2097152) :
    Calls Tryd.prog 30 #[.slice A ns.length c] w fun e w' => ∃ B c' fp, e = .returned (.slice B ns.length c') ∧ ns.length ≤ c' ∧ NRow w' B ns fp ∧ fp.Nodup ∧ (∀ q ∈ fp, w.heap.size ≤ q) ∧ Below w.heap.size w w' := by
  have HC := Aside0.mk h
  have HN := Aside0.mk hn
  clear h hn
  have hnn : (0 : Int) ≤ (ns.length : Int) := by omega
  have hle : (ns.length : Int) ≤ (ns.length : Int) := by omega
  go_enter Tryd.func30, Tryd.ntmps30
  go_wp2_with (
    (with_reducible refine gate_dst (N := 7) rfl ?_); refine Kd.R_make Kd.string _ 9 rfl (N := 7) rfl 26 _ _ rfl (ns.length : Int) rfl rfl Tryd.underlying26 (.string ⟨#[]⟩) 16 info9 rfl (by decide) (by omega) (⟨#[]⟩ : ByteArray) (ok := fun _ => True) (okp := fun _ => True) rfl (fun _ hk => hk) trivial (by omega) (by have := HN.out; simp only [Int.toNat_natCast]; omega) (Below.refl _ _) (Nat.le_refl _) ?_
    intro v4 w4 ho4 hb4 _ _
    obtain ⟨B, c', fp, hv4, hle4, N4, D4, F4⟩ := NRow.of_R ho4
    simp only [Int.toNat_natCast, List.length_replicate] at hv4 hle4 N4
    subst hv4
    have L4 := Aside0.mk hb4
    have HF4 := Aside0.mk F4
    clear ho4 hb4 F4)
  go_loopg [4] ns.length (fun kq v4 w' => ∃ (x4 : Int) (cur : List ByteArray), v4 = .int .i64 x4 ∧ Aside0 (0 ≤ x4 ∧ x4 + kq = ns.length) ∧ Aside0 (NRow w' B cur fp) ∧ Aside0 (cur.length = ns.length) ∧
    Aside0 (∀ (j : Nat), (j : Int) < x4 → cur[j]? = ns[j]?) ∧ Aside0 (Below w.heap.size w w'))
  case atStart => exact ⟨0, _, rfl, ⟨by omega⟩, ⟨N4⟩, ⟨by rw [List.length_replicate]⟩, ⟨fun j hj => by omega⟩, L4⟩
  case round =>
    obtain ⟨x4, cur, rfl, hk, hr, hl, hm, hb⟩ := hrel
    cases gk with
    | zero =>
      have hd : decide (x4 < (ns.length : Int)) = false := decide_eq_false (by have := hk.out; omega)
      go_wp2
      go_ret
      have hcn : cur = ns := List.ext_getElem? (fun j => by
        by_cases hj : j < ns.length
        · exact hm.out j (by have := hk.out; omega)
        · rw [List.getElem?_eq_none (by rw [hl.out]; omega), List.getElem?_eq_none (by omega)])
      subst hcn
      exact ⟨B, c', fp, rfl, hle4, hr.out, D4, fun q hq => (HF4.out q hq).1, hb.out⟩
    | succ k1 =>
      have hd : decide (x4 < (ns.length : Int)) = true := decide_eq_true (by have := hk.out; omega)
      have hp : (0 ≤ x4) = True := eq_true (by have := hk.out; omega)
      have hq : (x4 < (ns.length : Int)) = True := eq_true (by have := hk.out; omega)
      obtain ⟨b, rfl, hfb, hbl, hcell, hfro⟩ := hr.out.cell x4 (by have := hk.out; omega) (by have := hk.out; have := hl.out; omega)
      obtain ⟨ad, rfl, hsrc⟩ := Kd.at_string HC.out x4 (by have := hk.out; omega) (by have := hk.out; omega)
      replace hsrc := (hb.out.cell (World.block_lt_of_cell? w _ hsrc)).trans hsrc
      have HK := Aside0.mk hk.out
      clear hk
      go_wp2
      go_roundg k1
      case measure => exact Nat.lt_succ_self k1
      case rel =>
        have hk1 := HK.out
        have hl1 := hl.out
        have hN := HN.out
        have e6 : wrap64 (x4 + 1) = x4 + 1 := w64o (by omega) (by omega)
        refine ⟨wrap64 (x4 + 1), cur.set x4.toNat (rdOf ByteArray.empty ns x4), rfl, ⟨by rw [e6]; omega⟩, ⟨hr.out.put (by omega) _ _⟩, ⟨by rw [List.length_set]; exact hl1⟩, ⟨fun j hj => ?_⟩,
          ⟨Below.setCell hb.out (by have := (HF4.out b (by rw [hfb]; exact List.mem_singleton_self b)).1; exact this) _⟩⟩
        rw [e6] at hj
        by_cases hji : j = x4.toNat
        · subst hji
          rw [List.getElem?_set_self (by omega)]
          unfold rdOf
          rw [List.getD_eq_getElem?_getD, List.getElem?_eq_getElem (show x4.toNat < ns.length by omega)]; rfl
        · rw [List.getElem?_set_ne (fun e => hji e.symm)]
          exact hm.out j (by omega)
theorem six_row {W : World} {b o : Nat} {cs : Array Value} {v0 v1 v2 v3 v4 v5 : Value} (h : W.heap[b]? = some (.cells cs 28 (0, 0))) (hs : o + 6 ≤ cs.size) :
    ∃ cs', ((((((W.setCell ⟨b, o, none⟩ v0).setCell ⟨b, o + 1, none⟩ v1).setCell ⟨b, o + 2, none⟩ v2).setCell ⟨b, o + 3, none⟩ v3).setCell ⟨b, o + 4, none⟩ v4).setCell ⟨b, o + 5, none⟩ v5).heap[b]? = some (.cells cs' 28 (0, 0)) ∧ cs'.size = cs.size ∧
      cs'[o]? = some v0 ∧ cs'[o + 1]? = some v1 ∧ cs'[o + 2]? = some v2 ∧ cs'[o + 3]? = some v3 ∧ cs'[o + 4]? = some v4 ∧ cs'[o + 5]? = some v5 ∧ ∀ j, (j < o ∨ o + 6 ≤ j) → cs'[j]? = cs[j]? := by
  refine ⟨_, blk_set (blk_set (blk_set (blk_set (blk_set (blk_set h o v0) (o + 1) v1) (o + 2) v2) (o + 3) v3) (o + 4) v4) (o + 5) v5, by simp only [Array.size_setIfInBounds], ?_, ?_, ?_, ?_, ?_, ?_, fun j hj => ?_⟩
  all_goals
    repeat first
      | rw [Array.getElem?_setIfInBounds_ne (by omega)]
      | exact Array.getElem?_setIfInBounds_self_of_lt (by (try simp only [Array.size_setIfInBounds]); omega)
theorem six_row_other {W : World} {b o : Nat} {v0 v1 v2 v3 v4 v5 : Value} (q : Nat) (h : q ≠ b) :
    ((((((W.setCell ⟨b, o, none⟩ v0).setCell ⟨b, o + 1, none⟩ v1).setCell ⟨b, o + 2, none⟩ v2).setCell ⟨b, o + 3, none⟩ v3).setCell ⟨b, o + 4, none⟩ v4).setCell ⟨b, o + 5, none⟩ v5).heap[q]? = W.heap[q]? :=
  (Below.heap_setCell _ ⟨b, o + 5, none⟩ v5 q h).trans ((Below.heap_setCell _ ⟨b, o + 4, none⟩ v4 q h).trans ((Below.heap_setCell _ ⟨b, o + 3, none⟩ v3 q h).trans ((Below.heap_setCell _ ⟨b, o + 2, none⟩ v2 q h).trans ((Below.heap_setCell _ ⟨b, o + 1, none⟩ v1 q h).trans (Below.heap_setCell _ ⟨b, o, none⟩ v0 q h)))))
theorem six_row_below {B : Nat} {a W : World} {b o : Nat} {v0 v1 v2 v3 v4 v5 : Value} (h : Below B a W) (hg : B ≤ b) :
    Below B a ((((((W.setCell ⟨b, o, none⟩ v0).setCell ⟨b, o + 1, none⟩ v1).setCell ⟨b, o + 2, none⟩ v2).setCell ⟨b, o + 3, none⟩ v3).setCell ⟨b, o + 4, none⟩ v4).setCell ⟨b, o + 5, none⟩ v5) :=
  Below.setCell (p := ⟨b, o + 5, none⟩) (Below.setCell (p := ⟨b, o + 4, none⟩) (Below.setCell (p := ⟨b, o + 3, none⟩) (Below.setCell (p := ⟨b, o + 2, none⟩) (Below.setCell (p := ⟨b, o + 1, none⟩) (Below.setCell (p := ⟨b, o, none⟩) h hg v0) hg v1) hg v2) hg v3) hg v4) hg v5

def Part (d : Nat) (base : Nat) (w : World) (A : Option Addr) (n : Nat) (done : List S28) (fps : List (List Nat)) : Prop :=
  n = 0 ∨ ∃ (b : Nat) (cs : Array Value), A = some ⟨b, 0, none⟩ ∧ w.heap[b]? = some (.cells cs 28 (0, 0)) ∧ n * 6 ≤ cs.size ∧ VItems (VRow d) w (fun j => cs[j]?) done fps ∧ fps.flatten.Nodup ∧ (∀ q ∈ fps.flatten, base ≤ q ∧ q < w.heap.size ∧ q ≠ b) ∧ base ≤ b

abbrev ToS (d : Nat) : Prop := ∀ (w : World) (A : Option Addr) (c : Nat) (xs : List S45), Kd.C k45 w A xs.length xs → xs.length ≤ c → Fit45 d xs →
    Calls Tryd.prog 66 #[.slice A xs.length c] w fun e w' => ∃ B c' fp, e = .returned (.slice B xs.length c') ∧ xs.length ≤ c' ∧ VRow d w' B (toL d xs) fp ∧ fp.Nodup ∧ (∀ q ∈ fp, w.heap.size ≤ q) ∧ (xs = [] → fp = []) ∧ Below w.heap.size w w'

set_option maxHeartbeats 2000000 in
set_option maxRecDepth 100000 in
theorem toValue_of (d : Nat) (ih : ToS d) (w : World) (n m e : Int) (s : ByteArray) (A4 : Option Addr) (c4 : Nat) (xs : List S45) (A5 : Option Addr) (c5 : Nat) (ns : List ByteArray) (h4 : Kd.C k45 w A4 xs.length xs) (l4 : xs.length ≤ c4) (h5 : Kd.C Kd.string w A5 ns.length ns) (l5 : ns.length ≤ c5)
    (hf : Fit45 d xs) (hn : ns.length ≤ 2097152) :
    Calls Tryd.prog 24 #[.agg #[.int .i64 n, .int .i64 m, .int .i64 e, .string s, .slice A4 xs.length c4, .slice A5 ns.length c5]] w fun e' w' => ∃ B4 b4 B5 b5 f4 f5,
      e' = .returned (.agg #[.int .i64 n, .int .i64 m, .int .i64 e, .string s, .slice B4 xs.length b4, .slice B5 ns.length b5]) ∧ xs.length ≤ b4 ∧ ns.length ≤ b5 ∧ VRow d w' B4 (toL d xs) f4 ∧ NRow w' B5 ns f5 ∧ (f4 ++ f5).Nodup ∧ (∀ q ∈ f4 ++ f5, w.heap.size ≤ q) ∧ Below w.heap.size w w' := by
  have H4 := Aside0.mk h4
  have H5 := Aside0.mk h5
  have HF := Aside0.mk hf
  have HN := Aside0.mk hn
  clear h4 h5 hf hn
  go_enter Tryd.func24, Tryd.ntmps24
  go_wp2_with (first
    | ((with_reducible refine gate_dst (N := 1) rfl ?_); refine box_event ?hg (N := 1) ?hd (cs := #[.int .i64 n, .int .i64 m, .int .i64 e, .string s, .slice A4 xs.length c4, .slice A5 ns.length c5]) (t := 45) ?hr ?_; (case hd => rfl); (case hg => rfl); (case hr => first | (go_simp; done) | (go_simp; rfl))
       intro g1 hg1 w1 hbox1 hb1; have G1 := Aside0.mk hg1; have B1 := Aside0.mk hbox1; have L1 := Aside0.mk hb1; clear hg1 hbox1 hb1)
    | ((with_reducible refine gate_dst (N := 2) rfl ?_); refine box_event ?hg (N := 2) ?hd (cs := #[.int .i64 0, .int .i64 0, .int .i64 0, .string (⟨#[]⟩ : ByteArray), .slice none 0 0, .slice none 0 0]) (t := 28) ?hr ?_; (case hd => rfl); (case hg => rfl); (case hr => first | (go_simp; done) | (go_simp; rfl))
       intro g2 hg2 w2 hbox2 hb2; have G2 := Aside0.mk hg2; have B2 := Aside0.mk hbox2; have L2 := Aside0.mk hb2; clear hg2 hbox2 hb2)
    | ((with_reducible refine gate_dst (N := 3) rfl ?_); refine box_event ?hg (N := 3) ?hd (cs := #[.int .i64 0, .int .i64 0, .int .i64 0, .string (⟨#[]⟩ : ByteArray), .slice none 0 0, .slice none 0 0]) (t := 28) ?hr ?_; (case hd => rfl); (case hg => rfl); (case hr => first | (go_simp; done) | (go_simp; rfl))
       intro g3 hg3 w3 hbox3 hb3; have G3 := Aside0.mk hg3; have B3 := Aside0.mk hbox3; have L3 := Aside0.mk hb3; clear hg3 hbox3 hb3
       have h12 : g1 ≠ g2 := by have := blk_lt B1.out; have := G2.out; omega
       have h23 : g2 ≠ g3 := by have := blk_lt B2.out; have := G3.out; omega
       have h13 : g1 ≠ g3 := by have := blk_lt (blk_keep B1.out L2.out (blk_lt B1.out)); have := G3.out; omega
       have h21 := h12.symm; have h32 := h23.symm; have h31 := h13.symm
       have gw1 : w.heap.size ≤ g1 := Nat.le_of_eq G1.out.symm
       have gw2 : w.heap.size ≤ g2 := by have := L1.out.size; have := G2.out; omega
       have gw3 : w.heap.size ≤ g3 := by have := L1.out.size; have := L2.out.size; have := G3.out; omega
       have Q2 := Aside0.mk (blk_keep B2.out L3.out (blk_lt B2.out))
       have Q1 := Aside0.mk (blk_keep (blk_keep B1.out L2.out (blk_lt B1.out)) L3.out (blk_lt (blk_keep B1.out L2.out (blk_lt B1.out))))
       have Q3 := Aside0.mk B3.out
       have LL := Aside0.mk (below_step (below_step L1.out L2.out) L3.out)
       obtain ⟨p0, p1, p2, p3, p4, p5, -⟩ := six_cells Q1.out
       obtain ⟨r0, r1, r2, r3, r4, r5, z0, z1, z2, z3, z4, z5⟩ := six_cells Q3.out)
    | (go_at_call 65
       have U1 := Aside0.mk (blk_far (p := ⟨g3, 0, none⟩) Q1.out h13 (.int .i64 n))
       have U2 := Aside0.mk (blk_far (p := ⟨g3, 0, none⟩) Q2.out h23 (.int .i64 n))
       have U3 := Aside0.mk (blk_put (cs' := #[.int .i64 n, .int .i64 0, .int .i64 0, .string (⟨#[]⟩ : ByteArray), .slice none 0 0, .slice none 0 0]) Q3.out 0 (.int .i64 n) rfl)
       have LU := Aside0.mk (Below.setCell (p := ⟨g3, 0, none⟩) LL.out gw3 (.int .i64 n))
       refine (toDec_calls m e _).mono ?_
       rintro e' w4 ⟨rfl, hb4⟩
       have T1 := Aside0.mk (blk_keep U1.out hb4 (blk_lt U1.out)); have T2 := Aside0.mk (blk_keep U2.out hb4 (blk_lt U2.out)); have T3 := Aside0.mk (blk_keep U3.out hb4 (blk_lt U3.out))
       have LT := Aside0.mk (below_step LU.out hb4)
       clear p0 p1 p2 p3 p4 p5 r0 r1 r2 r3 r4 r5 z0 z1 z2 z3 z4 z5 hb4
       obtain ⟨p0, p1, p2, p3, p4, p5, -⟩ := six_cells T1.out
       obtain ⟨r0, r1, r2, r3, r4, r5, z0, z1, z2, z3, z4, z5⟩ := six_cells T3.out)
    | (go_at_call 66
       have X1 := Aside0.mk (blk_far (p := ⟨g3, 3, none⟩) (blk_far (p := ⟨g3, 2, none⟩) (blk_far (p := ⟨g3, 1, none⟩) T1.out h13 (.int .i64 m)) h13 (.int .i64 e)) h13 (.string s))
       have X2 := Aside0.mk (blk_far (p := ⟨g3, 3, none⟩) (blk_far (p := ⟨g3, 2, none⟩) (blk_far (p := ⟨g3, 1, none⟩) T2.out h23 (.int .i64 m)) h23 (.int .i64 e)) h23 (.string s))
       have X3 := Aside0.mk (blk_put (cs' := #[.int .i64 n, .int .i64 m, .int .i64 e, .string s, .slice none 0 0, .slice none 0 0]) (blk_put (cs' := #[.int .i64 n, .int .i64 m, .int .i64 e, .string (⟨#[]⟩ : ByteArray), .slice none 0 0, .slice none 0 0]) (blk_put (cs' := #[.int .i64 n, .int .i64 m, .int .i64 0, .string (⟨#[]⟩ : ByteArray), .slice none 0 0, .slice none 0 0]) T3.out 1 (.int .i64 m) rfl) 2 (.int .i64 e) rfl) 3 (.string s) rfl)
       have LX := Aside0.mk (Below.setCell (p := ⟨g3, 3, none⟩) (Below.setCell (p := ⟨g3, 2, none⟩) (Below.setCell (p := ⟨g3, 1, none⟩) LT.out gw3 (.int .i64 m)) gw3 (.int .i64 e)) gw3 (.string s))
       generalize ((w4.setCell ⟨g3, 1, none⟩ (.int .i64 m)).setCell ⟨g3, 2, none⟩ (.int .i64 e)).setCell ⟨g3, 3, none⟩ (.string s) = wX at *
       refine (ih wX A4 c4 xs (Kd.C_below H4.out LX.out) l4 HF.out).mono ?_
       rintro e' w5 ⟨D4, d4, f4, rfl, ld4, V4, N4, F4, _, hb5⟩
       have L5 := Aside0.mk hb5
       have T1' := Aside0.mk (blk_keep X1.out hb5 (blk_lt X1.out)); have T2' := Aside0.mk (blk_keep X2.out hb5 (blk_lt X2.out)); have T3' := Aside0.mk (blk_keep X3.out hb5 (blk_lt X3.out))
       clear p0 p1 p2 p3 p4 p5 r0 r1 r2 r3 r4 r5 z0 z1 z2 z3 z4 z5 hb5
       obtain ⟨p0, p1, p2, p3, p4, p5, -⟩ := six_cells T1'.out
       obtain ⟨r0, r1, r2, r3, r4, r5, z0, z1, z2, z3, z4, z5⟩ := six_cells T3'.out)
    | (go_at_call 30
       have Y1 := Aside0.mk (blk_far (p := ⟨g3, 4, none⟩) T1'.out h13 (.slice D4 xs.length d4))
       have Y2 := Aside0.mk (blk_far (p := ⟨g3, 4, none⟩) T2'.out h23 (.slice D4 xs.length d4))
       have Y3 := Aside0.mk (blk_put (cs' := #[.int .i64 n, .int .i64 m, .int .i64 e, .string s, .slice D4 xs.length d4, .slice none 0 0]) T3'.out 4 (.slice D4 xs.length d4) rfl)
       have LY := Aside0.mk (Below.setCell (p := ⟨g3, 4, none⟩) (below_step LX.out L5.out) gw3 (.slice D4 xs.length d4))
       have VY := Aside0.mk (VRow.same d V4 (fun q hq => Below.heap_setCell w5 ⟨g3, 4, none⟩ (.slice D4 xs.length d4) q (by have := F4 q hq; have := blk_lt X3.out; show q ≠ g3; omega)))
       have hle5 : wX.heap.size ≤ (w5.setCell ⟨g3, 4, none⟩ (.slice D4 xs.length d4)).heap.size := by have := L5.out.size; simp only [World.setCell, Array.size_modify]; exact this
       generalize w5.setCell ⟨g3, 4, none⟩ (.slice D4 xs.length d4) = wY at *
       refine (toStringS_calls wY A5 c5 ns (Kd.C_below H5.out LY.out) l5 HN.out).mono ?_
       rintro e' w6 ⟨D5, d5, f5, rfl, ld5, N5, M5, F5, hb6⟩
       have L6 := Aside0.mk hb6
       have S2 := Aside0.mk (blk_keep Y2.out hb6 (blk_lt Y2.out)); have S3 := Aside0.mk (blk_keep Y3.out hb6 (blk_lt Y3.out))
       have hlY := VRow.lt d VY.out
       clear p0 p1 p2 p3 p4 p5 r0 r1 r2 r3 r4 r5 z0 z1 z2 z3 z4 z5
       obtain ⟨p0, p1, p2, p3, p4, p5, x0, x1, x2, x3, x4, x5⟩ := six_cells S2.out
       obtain ⟨r0, r1, r2, r3, r4, r5, z0, z1, z2, z3, z4, z5⟩ := six_cells S3.out))
  have hP := six_put (v0 := .int .i64 n) (v1 := .int .i64 m) (v2 := .int .i64 e) (v3 := .string s) (v4 := .slice D4 xs.length d4) (v5 := .slice D5 ns.length d5) (blk_far S2.out (p := ⟨g3, 5, none⟩) h23 (.slice D5 ns.length d5))
  refine bodyPost_ret (results_cell_row rfl _ _ g2 28 #[.int .i64 n, .int .i64 m, .int .i64 e, .string s, .slice D4 xs.length d4, .slice D5 ns.length d5] (0, 0) _ rfl hP Tryd.underlying28 rfl (by kernel_rfl)) rfl ?_
  have hS := six_other (v0 := .int .i64 n) (v1 := .int .i64 m) (v2 := .int .i64 e) (v3 := .string s) (v4 := .slice D4 xs.length d4) (v5 := .slice D5 ns.length d5) (w := w6) (g := g2) g3 5 (.slice D5 ns.length d5)
  have k2 := blk_lt Y2.out
  have k3 := blk_lt Y3.out
  have m2 := blk_lt X2.out
  have m3 := blk_lt X3.out
  have hX := LX.out.size
  have hY := LY.out.size
  have hb6 := L6.out
  refine ⟨D4, d4, D5, d5, f4, f5, rfl, ld4, ld5, VRow.same d (VRow.same d VY.out (Same.of hb6 hlY)) (fun q hq => hS q ?_ ?_), NRow.same N5 (fun q hq => hS q ?_ ?_), List.nodup_append.2 ⟨N4, M5, fun a ha b hb h => ?_⟩, fun q hq => ?_, six_below (Below.setCell (p := ⟨g3, 5, none⟩) (below_step LY.out hb6) gw3 _) gw2⟩
  · have := F4 q hq; omega
  · have := F4 q hq; omega
  · have := F5 q hq; omega
  · have := F5 q hq; omega
  · have := hlY a ha; have := F5 b hb; omega
  · rcases List.mem_append.1 hq with hq | hq
    · have := F4 q hq; omega
    · have := F5 q hq; omega
theorem VRow.nil : ∀ (d : Nat) (w : World) (A : Option Addr), VRow d w A [] []
  | 0, _, _ => ⟨rfl, rfl⟩
  | _ + 1, _, _ => .inl ⟨rfl, rfl⟩

theorem Part.round {d base : Nat} {wr w7 : World} {b n i : Nat} {cs : Array Value} {done : List S28} {fps : List (List Nat)} {x : S28} {D4 D5 : Option Addr} {d4 d5 : Nat} {e4 e5 : List Nat} (hb : wr.heap[b]? = some (.cells cs 28 (0, 0))) (hcs : n * 6 ≤ cs.size) (hin : i < n) (hl : done.length = i)
    (HV : VItems (VRow d) wr (fun j => cs[j]?) done fps) (HD : fps.flatten.Nodup) (HG : ∀ q ∈ fps.flatten, base ≤ q ∧ q < wr.heap.size ∧ q ≠ b) (hbb : base ≤ b) (L : Below wr.heap.size wr w7)
    (V4 : VRow d w7 D4 x.f3 e4) (N5 : NRow w7 D5 x.f4 e5) (l4 : x.f3.length ≤ d4) (l5 : x.f4.length ≤ d5) (D45 : (e4 ++ e5).Nodup) (F45 : ∀ q ∈ e4 ++ e5, wr.heap.size ≤ q) :
    Part d base ((((((w7.setCell ⟨b, i * 6, none⟩ (.int .i64 x.f0)).setCell ⟨b, i * 6 + 1, none⟩ (.int .i64 x.f1.f0)).setCell ⟨b, i * 6 + 2, none⟩ (.int .i64 x.f1.f1)).setCell ⟨b, i * 6 + 3, none⟩ (.string x.f2)).setCell ⟨b, i * 6 + 4, none⟩ (.slice D4 x.f3.length d4)).setCell ⟨b, i * 6 + 5, none⟩ (.slice D5 x.f4.length d5))
      (some ⟨b, 0, none⟩) n (done ++ [x]) (fps ++ [e4 ++ e5]) := by
  have hblt := blk_lt hb
  have hb7 := blk_keep hb L hblt
  have hlt4 := VRow.lt d V4
  have hlt5 := N5.lt
  have hnb : ∀ q ∈ e4 ++ e5, q ≠ b := fun q hq => by have := F45 q hq; omega
  have hsz : ∀ q, q ≠ b → ((((((w7.setCell ⟨b, i * 6, none⟩ (.int .i64 x.f0)).setCell ⟨b, i * 6 + 1, none⟩ (.int .i64 x.f1.f0)).setCell ⟨b, i * 6 + 2, none⟩ (.int .i64 x.f1.f1)).setCell ⟨b, i * 6 + 3, none⟩ (.string x.f2)).setCell ⟨b, i * 6 + 4, none⟩ (.slice D4 x.f3.length d4)).setCell ⟨b, i * 6 + 5, none⟩ (.slice D5 x.f4.length d5)).heap[q]? = w7.heap[q]? := fun q hq => six_row_other q hq
  obtain ⟨cs', hc', hs', c0, c1, c2, c3, c4, c5, ho⟩ := six_row (v0 := .int .i64 x.f0) (v1 := .int .i64 x.f1.f0) (v2 := .int .i64 x.f1.f1) (v3 := .string x.f2) (v4 := .slice D4 x.f3.length d4) (v5 := .slice D5 x.f4.length d5) hb7 (show i * 6 + 6 ≤ cs.size by omega)
  have hhs : ((((((w7.setCell ⟨b, i * 6, none⟩ (.int .i64 x.f0)).setCell ⟨b, i * 6 + 1, none⟩ (.int .i64 x.f1.f0)).setCell ⟨b, i * 6 + 2, none⟩ (.int .i64 x.f1.f1)).setCell ⟨b, i * 6 + 3, none⟩ (.string x.f2)).setCell ⟨b, i * 6 + 4, none⟩ (.slice D4 x.f3.length d4)).setCell ⟨b, i * 6 + 5, none⟩ (.slice D5 x.f4.length d5)).heap.size = w7.heap.size := by simp only [World.setCell, Array.size_modify]
  generalize (((((w7.setCell ⟨b, i * 6, none⟩ (.int .i64 x.f0)).setCell ⟨b, i * 6 + 1, none⟩ (.int .i64 x.f1.f0)).setCell ⟨b, i * 6 + 2, none⟩ (.int .i64 x.f1.f1)).setCell ⟨b, i * 6 + 3, none⟩ (.string x.f2)).setCell ⟨b, i * 6 + 4, none⟩ (.slice D4 x.f3.length d4)).setCell ⟨b, i * 6 + 5, none⟩ (.slice D5 x.f4.length d5) = W at *
  have hnew : Same w7 W (e4 ++ e5) := fun q hq => hsz q (hnb q hq)
  have hold : ∀ f ∈ fps, Same wr W f := fun f hf q hq => by
    have hg := HG q (List.mem_flatten.2 ⟨f, hf, hq⟩)
    exact (hsz q hg.2.2).trans (L.block q hg.2.1)
  refine .inr ⟨b, cs', rfl, hc', by omega, ⟨?_, fun j y f hy hf => ?_⟩, ?_, fun q hq => ?_, hbb⟩
  · rw [List.length_append, List.length_append, HV.1, List.length_singleton, List.length_singleton]
  · have hfl : fps.length = i := by rw [HV.1, hl]
    rcases Nat.lt_or_ge j i with hj | hj
    · rw [List.getElem?_append_left (by omega)] at hy hf
      refine VItem.of (g := fun j => cs[j]?) (fun q hq => ho _ (by omega)) ?_
      exact VItem.same (fun A xs fp => VRow.same d) (HV.2 j y f hy hf) (hold f (List.mem_of_getElem? hf))
    · have hji : j = i := by
        have := (List.getElem?_eq_some_iff.1 hf).1
        rw [List.length_append, List.length_singleton] at this
        omega
      subst hji
      rw [List.getElem?_append_right (by omega), hfl, Nat.sub_self] at hf
      rw [List.getElem?_append_right (by omega), hl, Nat.sub_self] at hy
      obtain rfl : e4 ++ e5 = f := by simpa using hf
      obtain rfl : x = y := by simpa using hy
      exact ⟨D4, d4, D5, d5, e4, e5, rfl, c0, c1, c2, c3, c4, c5, l4, l5, VRow.same d V4 hnew.left, N5.same hnew.right⟩
  · rw [List.flatten_append]
    refine List.nodup_append.2 ⟨HD, by simpa using D45, fun a ha b hb => ?_⟩
    have h1 := (HG a ha).2.1
    have h2 := F45 b (by simpa using hb)
    omega
  · have hl7 := L.size
    rw [List.flatten_append] at hq
    rcases List.mem_append.1 hq with hq | hq
    · obtain ⟨h1, h2, h3⟩ := HG q hq
      exact ⟨h1, by omega, h3⟩
    · have hq' : q ∈ e4 ++ e5 := by simpa using hq
      have h1 := F45 q hq'
      refine ⟨by omega, ?_, hnb q hq'⟩
      rw [hhs]
      exact (List.mem_append.1 hq').elim (hlt4 q) (hlt5 q)

set_option maxHeartbeats 2000000 in
set_option maxRecDepth 100000 in
theorem toValueS_succ (d : Nat) (w : World) (A : Option Addr) (c : Nat) (xs : List S45) (ih : 0 < xs.length → ToS d) (h : Kd.C k45 w A xs.length xs) (hc : xs.length ≤ c) (hf : Fit45 (d + 1) xs) :
    Calls Tryd.prog 66 #[.slice A xs.length c] w fun e w' => ∃ B c' fp, e = .returned (.slice B xs.length c') ∧ xs.length ≤ c' ∧ VRow (d + 1) w' B (toL (d + 1) xs) fp ∧ fp.Nodup ∧ (∀ q ∈ fp, w.heap.size ≤ q) ∧ (xs = [] → fp = []) ∧ Below w.heap.size w w' := by
  have HC := Aside0.mk h
  have HF := Aside0.mk hf
  clear h hf
  have hnn : (0 : Int) ≤ (xs.length : Int) := by omega
  have hle : (xs.length : Int) ≤ (xs.length : Int) := by omega
  go_enter Tryd.func66, Tryd.ntmps66
  go_wp2_with (
    (with_reducible refine gate_dst (N := 7) rfl ?_); refine Kd.R_make k28 _ 28 rfl (N := 7) rfl 25 _ _ rfl (xs.length : Int) rfl rfl Tryd.underlying25 (.agg #[(.int .i64 0), (.int .i64 0), (.int .i64 0), (.string ⟨#[]⟩), (.slice none 0 0), (.slice none 0 0)]) 88 info28 rfl (by decide) (by omega) z28 (ok := fun _ => True) (okp := fun _ => True) (k28_mkM _ _ _ z28 (Kd.R_nil _ _ _ _ _) (Kd.R_nil _ _ _ _ _)) (fun _ hk => hk) trivial (by omega) (by have := HF.out.1; simp only [Int.toNat_natCast]; omega) (Below.refl _ _) (Nat.le_refl _) ?_
    intro v4 w4 ho4 hb4 _ _
    obtain ⟨inner, hl4, ho4⟩ := Kd.R_own ho4
    have hP : ∃ B c', v4 = .slice B xs.length c' ∧ xs.length ≤ c' ∧ Part d w.heap.size w4 B xs.length [] [] := by
      simp only [Int.toNat_natCast, List.length_replicate] at ho4
      rcases ho4 with ⟨rfl, hn⟩ | ⟨g, cap, cur, rfl, hb, hg, hnc, hm, hs, ht⟩
      · exact ⟨none, 0, by rw [hn], by omega, .inl hn⟩
      · exact ⟨_, cap, rfl, hnc, .inr ⟨g, cur, rfl, hg, by rw [hs]; show xs.length * 6 ≤ cap * 6; omega, ⟨rfl, fun i x f hx => by simp at hx⟩, List.nodup_nil, by simp, hb⟩⟩
    obtain ⟨B, c', rfl, hle4, P4⟩ := hP
    have L4 := Aside0.mk hb4
    have PP := Aside0.mk P4
    clear ho4 hb4 P4 hl4)
  go_loopg [4] xs.length (fun kq v4 w' => ∃ (i : Nat) (fps : List (List Nat)), v4 = .int .i64 (i : Int) ∧ Aside0 (i + kq = xs.length) ∧ Aside0 (Part d w.heap.size w' B xs.length ((xs.take i).map (toV (toL d))) fps) ∧ Aside0 (Below w.heap.size w w'))
  case atStart => exact ⟨0, [], rfl, ⟨by omega⟩, ⟨PP.out⟩, L4⟩
  case round =>
    obtain ⟨i, fps, rfl, HI, HP, HB⟩ := hrel
    cases gk with
    | zero =>
      have hd : decide ((i : Int) < (xs.length : Int)) = false := decide_eq_false (by have := HI.out; omega)
      have hd' : decide (i < xs.length) = false := decide_eq_false (by have := HI.out; omega)
      go_wp2
      go_ret
      have hi := HI.out
      have h1 := HP.out
      rw [List.take_of_length_le (by omega)] at h1
      rcases h1 with h0 | ⟨b, cs, rfl, hb, hcs, HV, HD, HG, hbb⟩
      · have hx : xs = [] := List.length_eq_zero_iff.1 h0
        subst hx
        exact ⟨B, c', [], rfl, hle4, .inl ⟨rfl, rfl⟩, List.nodup_nil, by simp, fun _ => rfl, HB.out⟩
      · by_cases hx : xs = []
        · subst hx
          exact ⟨_, c', [], rfl, hle4, .inl ⟨rfl, rfl⟩, List.nodup_nil, by simp, fun _ => rfl, HB.out⟩
        · refine ⟨_, c', b :: fps.flatten, rfl, hle4, .inr ⟨b, cs, fps, rfl, rfl, hb, by show (List.map _ xs).length * 6 ≤ _; rw [List.length_map]; exact hcs, HV⟩, List.nodup_cons.2 ⟨fun hm => (HG b hm).2.2 rfl, HD⟩, fun q hq => ?_, fun h => absurd h hx, HB.out⟩
          rcases List.mem_cons.1 hq with rfl | hq
          · exact hbb
          · exact (HG q hq).1
    | succ k1 =>
      have hd : decide ((i : Int) < (xs.length : Int)) = true := decide_eq_true (by have := HI.out; omega)
      have hp : (0 ≤ (i : Int)) = True := eq_true (by omega)
      have hq : ((i : Int) < (xs.length : Int)) = True := eq_true (by have := HI.out; omega)
      have hi : i < xs.length := by have := HI.out; omega
      have HIk : Aside0 (i + 1 + k1 = xs.length) := ⟨by have := HI.out; omega⟩
      have E6 : Aside0 (wrap64 ((i : Int) + 1) = ((i + 1 : Nat) : Int)) := ⟨by have := HF.out.1; rw [w64o (by omega) (by omega)]; omega⟩
      obtain ⟨ad, A4', c4', A5', c5', rfl, x0, x1, x2, x3, x4, x5, l4', r4, l5', r5⟩ := at_T45 HC.out (i : Int) (by omega) (by omega)
      have hxe : rd_T45 xs (i : Int) = xs[i] := by unfold rd_T45; rw [Int.toNat_natCast, List.getD_eq_getElem?_getD, List.getElem?_eq_getElem hi]; rfl
      have hcx := List.getElem?_eq_getElem hi
      rw [hxe] at x0 x1 x2 x3 x4 x5 l4' r4 l5' r5
      simp only [Int.toNat_natCast] at x0 x1 x2 x3 x4 x5
      generalize xs[i] = x at hcx x0 x1 x2 x3 x4 x5 l4' r4 l5' r5
      replace x0 := (HB.out.cell (World.block_lt_of_cell? w _ x0)).trans x0
      replace x1 := (HB.out.cell (World.block_lt_of_cell? w _ x1)).trans x1
      replace x2 := (HB.out.cell (World.block_lt_of_cell? w _ x2)).trans x2
      replace x3 := (HB.out.cell (World.block_lt_of_cell? w _ x3)).trans x3
      replace x4 := (HB.out.cell (World.block_lt_of_cell? w _ x4)).trans x4
      replace x5 := (HB.out.cell (World.block_lt_of_cell? w _ x5)).trans x5
      rcases HP.out with h0 | ⟨b, cs, rfl, hb, hcs, HV, HD, HG, hbb⟩
      · omega
      have BK := Aside0.mk hb
      have HVs := Aside0.mk HV
      have hdl : ((xs.take i).map (toV (toL d))).length = i := by rw [List.length_map, List.length_take]; omega
      clear hb HV
      go_wp2_with (
        go_at_call 24
        have hxm := HF.out.2 x (List.mem_of_getElem? hcx)
        refine (toValue_of d (ih (by omega)) wr x.f0 x.f1.f0 x.f1.f1 x.f2 A4' c4' x.f3 A5' c5' x.f4 (Kd.C_below r4 HB.out) l4' (Kd.C_below r5 HB.out) l5' hxm.2 hxm.1).mono ?_
        rintro e' w7 ⟨D4, d4, D5, d5, e4, e5, rfl, m4, m5, V4, N5, D45, F45, hb7⟩
        have L7 := Aside0.mk hb7
        have BK7 := blk_keep BK.out hb7 (blk_lt BK.out)
        have hs6 : i * 6 + 6 ≤ cs.size := by omega
        have p0 := (blk_cell BK7 (i * 6)).trans (Array.getElem?_eq_getElem (by omega))
        have p1 := (blk_cell BK7 (i * 6 + 1)).trans (Array.getElem?_eq_getElem (by omega))
        have p2 := (blk_cell BK7 (i * 6 + 2)).trans (Array.getElem?_eq_getElem (by omega))
        have p3 := (blk_cell BK7 (i * 6 + 3)).trans (Array.getElem?_eq_getElem (by omega))
        have p4 := (blk_cell BK7 (i * 6 + 4)).trans (Array.getElem?_eq_getElem (by omega))
        have p5 := (blk_cell BK7 (i * 6 + 5)).trans (Array.getElem?_eq_getElem (by omega))
        have z0 := blk_frozen BK7 (i * 6); have z1 := blk_frozen BK7 (i * 6 + 1); have z2 := blk_frozen BK7 (i * 6 + 2); have z3 := blk_frozen BK7 (i * 6 + 3); have z4 := blk_frozen BK7 (i * 6 + 4); have z5 := blk_frozen BK7 (i * 6 + 5)
        clear x0 x1 x2 x3 x4 x5 hb7)
      go_roundg k1
      case measure => exact Nat.lt_succ_self k1
      case rel =>
        have hxm := HF.out.2 x (List.mem_of_getElem? hcx)
        have hlt := toL_length d x.f3 hxm.2
        have hr := Part.round (x := toV (toL d) x) (D4 := D4) (D5 := D5) (d4 := d4) (d5 := d5) BK.out hcs hi hdl HVs.out HD HG hbb L7.out V4 N5 (by rw [show (toV (toL d) x).f3 = toL d x.f3 from rfl, hlt]; exact m4) m5 D45 F45
        rw [show (toV (toL d) x).f3 = toL d x.f3 from rfl, hlt] at hr
        refine ⟨i + 1, fps ++ [e4 ++ e5], by rw [E6.out], HIk, ⟨?_⟩, ⟨six_row_below (below_step HB.out L7.out) hbb⟩⟩
        · rw [List.take_add_one, hcx, List.map_append]
          exact hr
theorem toValueS_calls : ∀ d, ToS d
  | d + 1 => fun w A c xs h hc hf => toValueS_succ d w A c xs (fun _ => toValueS_calls d) h hc hf
  | 0 => fun w A c xs h hc hf => by
    have hx : xs = [] := hf
    refine (toValueS_succ 0 w A c xs (fun h => by rw [hx] at h; simp at h) h hc ⟨by rw [hx]; simp, by rw [hx]; simp⟩).mono ?_
    rintro e' w' ⟨B, c', fp, h1, h2, h3, h4, h5, h6, h7⟩
    exact ⟨B, c', fp, h1, h2, ⟨rfl, h6 hx⟩, h4, h5, h6, h7⟩
end Go.Proofs.YtebcepbamlokcaaDoor.Q
namespace Go.Proofs.YtebcepbamlokcaaDoor.Q
open Go.RowKit Go.Proofs.YtebcepbamlokcaaDoorW.PrintWords Go.Proofs.YtebcepbamlokcaaDoorW.PrintLast
set_option linter.unusedVariables false
set_option linter.unusedSimpArgs false

def nw (ns : List ByteArray) : Nat := ns.length + (ns.map ByteArray.size).sum
def xw (c : List S45 → Nat) (x : S45) : Nat := x.f2.size + c x.f3 + nw x.f4
def vw : Nat → List S45 → Nat
  | 0, _ => 0
  | d + 1, xs => xs.length + (xs.map (xw (vw d))).sum
def lessW (left : Int) (n : Nat) : Int := if (n : Int) ≤ left then left - n else -1
def Bnd : Nat → List S45 → Prop
  | 0, xs => xs = []
  | d + 1, xs => xs.length ≤ 140737488351232 ∧ ∀ x ∈ xs, x.f2.size ≤ 140737488351232 ∧ x.f4.length ≤ 140737488351232 ∧ (∀ s ∈ x.f4, s.size ≤ 140737488351232) ∧ Bnd d x.f3

theorem lessW_no {left : Int} {n : Nat} (h : left < n) : lessW left n = -1 := by unfold lessW; rw [if_neg (by omega)]
theorem lessW_yes {left : Int} {n : Nat} (h : (n : Int) ≤ left) : lessW left n = left - n := by unfold lessW; rw [if_pos h]

theorem tsum (l : List Nat) (i : Nat) (a : Nat) (h : l[i]? = some a) : (l.take (i + 1)).sum = (l.take i).sum + a := by
  rw [List.take_add_one, h]; simp
theorem tsum_le (l : List Nat) : ∀ i, (l.take i).sum ≤ l.sum := by
  intro i
  have := List.take_append_drop i l
  have h2 : (l.take i ++ l.drop i).sum = l.sum := by rw [this]
  rw [List.sum_append] at h2
  omega

set_option maxHeartbeats 1000000 in
theorem szStringS_calls (w : World) (A : Option Addr) (c : Nat) (ns : List ByteArray) (left : Int) (h : Kd.C Kd.string w A ns.length ns) (hc : ns.length ≤ c) (h0 : 0 ≤ left) (h1 : left ≤ 1048576) (hl : ns.length ≤ 140737488351232) (hs : ∀ s ∈ ns, s.size ≤ 140737488351232) :
    Calls Tryd.prog 29 #[.slice A ns.length c, .int .i64 left] w fun e w' => e = .returned (.int .i64 (lessW left (nw ns))) ∧ Below w.heap.size w w' := by
  have HC := Aside0.mk h
  have HS := Aside0.mk hs
  have HL := Aside0.mk hl
  have H1 := Aside0.mk h1
  clear h hs h1
  have e0 : wrap64 (left - (ns.length : Int)) = left - (ns.length : Int) := w64o (by have := H1.out; omega) (by have := H1.out; omega)
  clear hl
  have HNW : Aside0 (nw ns = ns.length + (ns.map ByteArray.size).sum) := ⟨rfl⟩
  by_cases hb : left - (ns.length : Int) < 0
  · have hd : decide (left - (ns.length : Int) < 0) = true := decide_eq_true hb
    go_enter Tryd.func29, Tryd.ntmps29
    go_wp2
    go_ret
    exact ⟨by rw [lessW_no (by have := HNW.out; omega)]; rfl, Below.refl _ _⟩
  · have hd : decide (left - (ns.length : Int) < 0) = false := decide_eq_false hb
    have HB := Aside0.mk hb
    clear hb
    go_enter Tryd.func29, Tryd.ntmps29
    go_wp2
    go_loopg [1, 5] ns.length (fun kq v1 v5 w' => ∃ (x1 : Int) (i : Nat), v1 = .int .i64 x1 ∧ v5 = .int .i64 (i : Int) ∧ Aside0 (x1 = left - (ns.length : Int) - (((ns.map ByteArray.size).take i).sum : Nat) ∧ 0 ≤ x1 ∧ i + kq = ns.length) ∧ Aside0 (w' = w))
    case atStart => exact ⟨_, 0, rfl, rfl, ⟨by simp, by have := HB.out; omega, by omega⟩, ⟨rfl⟩⟩
    case round =>
      obtain ⟨x1, i, rfl, rfl, hk, hw⟩ := hrel
      obtain rfl := hw.out
      cases gk with
      | zero =>
        have hd : decide ((i : Int) < (ns.length : Int)) = false := decide_eq_false (by have := hk.out; omega)
        have hd' : decide (i < ns.length) = false := decide_eq_false (by have := hk.out; omega)
        go_wp2
        go_ret
        obtain ⟨ha, hb, hc⟩ := hk.out
        rw [List.take_of_length_le (by rw [List.length_map]; omega)] at ha
        have hx : x1 = lessW left (nw ns) := by have := HNW.out; rw [lessW_yes (by omega)]; omega
        exact ⟨by rw [← hx]; rfl, Below.refl _ _⟩
      | succ k1 =>
        have hd : decide ((i : Int) < (ns.length : Int)) = true := decide_eq_true (by have := hk.out; omega)
        have hp : (0 ≤ (i : Int)) = True := eq_true (by omega)
        have hq : ((i : Int) < (ns.length : Int)) = True := eq_true (by have := hk.out; omega)
        have hi : i < ns.length := by have := hk.out; omega
        obtain ⟨ad, rfl, hsrc⟩ := Kd.at_string HC.out (i : Int) (by omega) (by omega)
        have hxe : rdOf ByteArray.empty ns (i : Int) = ns[i] := by unfold rdOf; rw [Int.toNat_natCast, List.getD_eq_getElem?_getD, List.getElem?_eq_getElem hi]; rfl
        have hcx := List.getElem?_eq_getElem hi
        rw [hxe] at hsrc
        generalize ns[i] = s at hcx hsrc
        have hsz := HS.out s (List.mem_of_getElem? hcx)
        have hst := tsum (ns.map ByteArray.size) i s.size (by rw [List.getElem?_map, hcx]; rfl)
        have hsl := tsum_le (ns.map ByteArray.size) (i + 1)
        have HK := Aside0.mk hk.out
        have E6 : Aside0 (wrap64 ((i : Int) + 1) = ((i + 1 : Nat) : Int)) := ⟨by have := HL.out; rw [w64o (by omega) (by omega)]; omega⟩
        have e1 : wrap64 (x1 - (s.size : Int)) = x1 - (s.size : Int) := by have h2 := HK.out; have := H1.out; exact w64o (by omega) (by omega)
        simp only [Int.toNat_natCast] at hsrc
        clear hk
        have HT := Aside0.mk hst
        have HZ := Aside0.mk hsl
        clear hst hsl hsz
        by_cases hb : x1 - (s.size : Int) < 0
        · have hd2 : decide (x1 - (s.size : Int) < 0) = true := decide_eq_true hb
          go_wp2
          go_ret
          have h2 := HK.out; have h3 := HT.out; have h4 := HZ.out
          exact ⟨by rw [lessW_no (by have := HNW.out; omega)]; rfl, Below.refl _ _⟩
        · have hd2 : decide (x1 - (s.size : Int) < 0) = false := decide_eq_false hb
          have HB2 := Aside0.mk hb
          clear hb
          go_wp2
          go_roundg k1
          case measure => exact Nat.lt_succ_self k1
          case rel =>
            have h2 := HK.out; have h3 := HT.out; have h4 := HB2.out
            exact ⟨_, i + 1, rfl, by rw [E6.out], ⟨by rw [h3]; omega, by omega, by omega⟩, ⟨rfl⟩⟩
abbrev SzS (d : Nat) : Prop := ∀ (w : World) (A : Option Addr) (c : Nat) (xs : List S45) (left : Int), Kd.C k45 w A xs.length xs → xs.length ≤ c → 0 ≤ left → left ≤ 1048576 → Bnd d xs →
    Calls Tryd.prog 62 #[.slice A xs.length c, .int .i64 left] w fun e w' => e = .returned (.int .i64 (lessW left (vw d xs))) ∧ Below w.heap.size w w'

set_option maxHeartbeats 2000000 in
set_option maxRecDepth 100000 in
theorem szValue_of (d : Nat) (ih : SzS d) (w : World) (n m e : Int) (s : ByteArray) (A4 : Option Addr) (c4 : Nat) (xs : List S45) (A5 : Option Addr) (c5 : Nat) (ns : List ByteArray) (left : Int) (h4 : Kd.C k45 w A4 xs.length xs) (l4 : xs.length ≤ c4) (h5 : Kd.C Kd.string w A5 ns.length ns) (l5 : ns.length ≤ c5)
    (h0 : 0 ≤ left) (h1 : left ≤ 1048576) (hs : s.size ≤ 140737488351232) (hn : ns.length ≤ 140737488351232) (hss : ∀ s ∈ ns, s.size ≤ 140737488351232) (hb : Bnd d xs) :
    Calls Tryd.prog 22 #[.agg #[.int .i64 n, .int .i64 m, .int .i64 e, .string s, .slice A4 xs.length c4, .slice A5 ns.length c5], .int .i64 left] w fun e' w' =>
      e' = .returned (.int .i64 (lessW left (s.size + vw d xs + nw ns))) ∧ Below w.heap.size w w' := by
  have H4 := Aside0.mk h4
  have H5 := Aside0.mk h5
  have HN := Aside0.mk hn
  have HS := Aside0.mk hss
  have HD := Aside0.mk hb
  have H1 := Aside0.mk h1
  have e0 : wrap64 (left - (s.size : Int)) = left - (s.size : Int) := w64o (by omega) (by omega)
  clear h4 h5 hn hss hb h1 hs
  have LA := below_alloc (Below.refl w.heap.size w) (.cells #[.int .i64 n, .int .i64 m, .int .i64 e, .string s, .slice A4 xs.length c4, .slice A5 ns.length c5] 45)
  have bx := heap_alloc_new w (.cells #[.int .i64 n, .int .i64 m, .int .i64 e, .string s, .slice A4 xs.length c4, .slice A5 ns.length c5] 45)
  by_cases hb : left - (s.size : Int) < 0
  · have hd : decide (left - (s.size : Int) < 0) = true := decide_eq_true hb
    go_enter Tryd.func22, Tryd.ntmps22
    go_wp2
    go_ret
    exact ⟨by rw [lessW_no (by omega)]; rfl, LA⟩
  · have hd : decide (left - (s.size : Int) < 0) = false := decide_eq_false hb
    have HB := Aside0.mk hb
    clear hb
    by_cases hb2 : left - (s.size : Int) - (vw d xs : Nat) < 0
    · have hl2 : lessW (left - (s.size : Int)) (vw d xs) = -1 := lessW_no (by omega)
      have hz : decide ((-1 : Int) < 0) = true := by decide
      go_enter Tryd.func22, Tryd.ntmps22
      go_wp2_with (go_at_call 62
                   refine (ih _ A4 c4 xs (left - (s.size : Int)) (Kd.C_below H4.out LA) l4 (by have := HB.out; omega) (by have := H1.out; omega) HD.out).mono ?_
                   rintro e' w2 ⟨rfl, hb4⟩
                   rw [hl2])
      go_ret
      exact ⟨by rw [lessW_no (by omega)]; rfl, below_step LA hb4⟩
    · have hl2 : lessW (left - (s.size : Int)) (vw d xs) = left - (s.size : Int) - (vw d xs : Nat) := lessW_yes (by omega)
      have hz : decide (left - (s.size : Int) - (vw d xs : Nat) < 0) = false := decide_eq_false hb2
      have HB2 := Aside0.mk hb2
      clear hb2
      by_cases hb3 : left - (s.size : Int) - (vw d xs : Nat) - (nw ns : Nat) < 0
      · have hl3 : lessW (left - (s.size : Int) - (vw d xs : Nat)) (nw ns) = -1 := lessW_no (by omega)
        have hz3 : decide ((-1 : Int) < 0) = true := by decide
        go_enter Tryd.func22, Tryd.ntmps22
        go_wp2_with (first
          | (go_at_call 62
             refine (ih _ A4 c4 xs (left - (s.size : Int)) (Kd.C_below H4.out LA) l4 (by have := HB.out; omega) (by have := H1.out; omega) HD.out).mono ?_
             rintro e' w2 ⟨rfl, hb4⟩
             rw [hl2]
             have g5 : w2.cell? ⟨w.heap.size, 5, none⟩ = some (.slice A5 ns.length c5) := blk_cell ((hb4.block _ (blk_lt bx)).trans bx) 5)
          | (go_at_call 29
             refine (szStringS_calls _ A5 c5 ns _ (Kd.C_below H5.out (below_step LA hb4)) l5 (by have := HB2.out; omega) (by have := H1.out; omega) HN.out HS.out).mono ?_
             rintro e' w3 ⟨rfl, hb5⟩
             rw [hl3]))
        go_ret
        exact ⟨by rw [lessW_no (by omega)]; rfl, below_step (below_step LA hb4) hb5⟩
      · have hl3 : lessW (left - (s.size : Int) - (vw d xs : Nat)) (nw ns) = left - (s.size : Int) - (vw d xs : Nat) - (nw ns : Nat) := lessW_yes (by omega)
        have hz3 : decide (left - (s.size : Int) - (vw d xs : Nat) - (nw ns : Nat) < 0) = false := decide_eq_false hb3
        have hfin : lessW left (s.size + vw d xs + nw ns) = left - (s.size : Int) - (vw d xs : Nat) - (nw ns : Nat) := by rw [lessW_yes (by omega)]; omega
        have HFI := Aside0.mk hfin
        clear hb3 hfin
        go_enter Tryd.func22, Tryd.ntmps22
        go_wp2_with (first
          | (go_at_call 62
             refine (ih _ A4 c4 xs (left - (s.size : Int)) (Kd.C_below H4.out LA) l4 (by have := HB.out; omega) (by have := H1.out; omega) HD.out).mono ?_
             rintro e' w2 ⟨rfl, hb4⟩
             rw [hl2]
             have g5 : w2.cell? ⟨w.heap.size, 5, none⟩ = some (.slice A5 ns.length c5) := blk_cell ((hb4.block _ (blk_lt bx)).trans bx) 5)
          | (go_at_call 29
             refine (szStringS_calls _ A5 c5 ns _ (Kd.C_below H5.out (below_step LA hb4)) l5 (by have := HB2.out; omega) (by have := H1.out; omega) HN.out HS.out).mono ?_
             rintro e' w3 ⟨rfl, hb5⟩
             rw [hl3]))
        go_ret
        exact ⟨by rw [HFI.out]; rfl, below_step (below_step LA hb4) hb5⟩

set_option maxHeartbeats 2000000 in
set_option maxRecDepth 100000 in
theorem szValueS_succ (d : Nat) (w : World) (A : Option Addr) (c : Nat) (xs : List S45) (left : Int) (ih : 0 < xs.length → SzS d) (h : Kd.C k45 w A xs.length xs) (hc : xs.length ≤ c) (h0 : 0 ≤ left) (h1 : left ≤ 1048576) (hbd : Bnd (d + 1) xs) :
    Calls Tryd.prog 62 #[.slice A xs.length c, .int .i64 left] w fun e w' => e = .returned (.int .i64 (lessW left (vw (d + 1) xs))) ∧ Below w.heap.size w w' := by
  have HC := Aside0.mk h
  have HD := Aside0.mk hbd
  have H1 := Aside0.mk h1
  have hl := hbd.1
  clear h h1 hbd
  have e0 : wrap64 (left - (xs.length : Int)) = left - (xs.length : Int) := w64o (by omega) (by have := H1.out; omega)
  clear hl
  have HNW : Aside0 (vw (d + 1) xs = xs.length + (xs.map (xw (vw d))).sum) := ⟨rfl⟩
  by_cases hb : left - (xs.length : Int) < 0
  · have hd : decide (left - (xs.length : Int) < 0) = true := decide_eq_true hb
    go_enter Tryd.func62, Tryd.ntmps62
    go_wp2
    go_ret
    exact ⟨by rw [lessW_no (by have := HNW.out; omega)]; rfl, Below.refl _ _⟩
  · have hd : decide (left - (xs.length : Int) < 0) = false := decide_eq_false hb
    have HB := Aside0.mk hb
    clear hb
    go_enter Tryd.func62, Tryd.ntmps62
    go_wp2
    go_loopg [1, 5] xs.length (fun kq v1 v5 w' => ∃ (x1 : Int) (i : Nat), v1 = .int .i64 x1 ∧ v5 = .int .i64 (i : Int) ∧ Aside0 (x1 = left - (xs.length : Int) - (((xs.map (xw (vw d))).take i).sum : Nat) ∧ 0 ≤ x1 ∧ i + kq = xs.length) ∧ Aside0 (Below w.heap.size w w'))
    case atStart => exact ⟨_, 0, rfl, rfl, ⟨by simp, by have := HB.out; omega, by omega⟩, ⟨Below.refl _ _⟩⟩
    case round =>
      obtain ⟨x1, i, rfl, rfl, hk, hw⟩ := hrel
      cases gk with
      | zero =>
        have hd : decide ((i : Int) < (xs.length : Int)) = false := decide_eq_false (by have := hk.out; omega)
        have hd' : decide (i < xs.length) = false := decide_eq_false (by have := hk.out; omega)
        go_wp2
        go_ret
        obtain ⟨ha, hb, hc⟩ := hk.out
        rw [List.take_of_length_le (by rw [List.length_map]; omega)] at ha
        have hx : x1 = lessW left (vw (d + 1) xs) := by have := HNW.out; rw [lessW_yes (by omega)]; omega
        exact ⟨by rw [← hx]; rfl, hw.out⟩
      | succ k1 =>
        have hd : decide ((i : Int) < (xs.length : Int)) = true := decide_eq_true (by have := hk.out; omega)
        have hp : (0 ≤ (i : Int)) = True := eq_true (by omega)
        have hq : ((i : Int) < (xs.length : Int)) = True := eq_true (by have := hk.out; omega)
        have hi : i < xs.length := by have := hk.out; omega
        obtain ⟨ad, A4', c4', A5', c5', rfl, y0, y1, y2, y3, y4, y5, l4', r4, l5', r5⟩ := at_T45 HC.out (i : Int) (by omega) (by omega)
        have hxe : rd_T45 xs (i : Int) = xs[i] := by unfold rd_T45; rw [Int.toNat_natCast, List.getD_eq_getElem?_getD, List.getElem?_eq_getElem hi]; rfl
        have hcx := List.getElem?_eq_getElem hi
        rw [hxe] at y0 y1 y2 y3 y4 y5 l4' r4 l5' r5
        simp only [Int.toNat_natCast] at y0 y1 y2 y3 y4 y5
        generalize xs[i] = x at hcx y0 y1 y2 y3 y4 y5 l4' r4 l5' r5
        have hxm := HD.out.2 x (List.mem_of_getElem? hcx)
        have HST := Aside0.mk (tsum (xs.map (xw (vw d))) i (x.f2.size + vw d x.f3 + nw x.f4) (by rw [List.getElem?_map, hcx]; rfl))
        have HSL := Aside0.mk (tsum_le (xs.map (xw (vw d))) (i + 1))
        have HK := Aside0.mk hk.out
        have E6 : Aside0 (wrap64 ((i : Int) + 1) = ((i + 1 : Nat) : Int)) := ⟨by have := HD.out.1; rw [w64o (by omega) (by omega)]; omega⟩
        clear hk
        replace y0 := (hw.out.cell (World.block_lt_of_cell? w _ y0)).trans y0
        replace y1 := (hw.out.cell (World.block_lt_of_cell? w _ y1)).trans y1
        replace y2 := (hw.out.cell (World.block_lt_of_cell? w _ y2)).trans y2
        replace y3 := (hw.out.cell (World.block_lt_of_cell? w _ y3)).trans y3
        replace y4 := (hw.out.cell (World.block_lt_of_cell? w _ y4)).trans y4
        replace y5 := (hw.out.cell (World.block_lt_of_cell? w _ y5)).trans y5
        have hcall := szValue_of d (ih (by omega)) wr x.f0 x.f1.f0 x.f1.f1 x.f2 A4' c4' x.f3 A5' c5' x.f4 x1 (Kd.C_below r4 hw.out) l4' (Kd.C_below r5 hw.out) l5' HK.out.2.1 (by have h2 := HK.out; have := H1.out; omega) hxm.1 hxm.2.1 hxm.2.2.1 hxm.2.2.2
        generalize x.f2.size + vw d x.f3 + nw x.f4 = u at *
        by_cases hb : x1 < (u : Int)
        · rw [lessW_no hb] at hcall
          have hd2 : decide ((-1 : Int) < 0) = true := by decide
          have HCA := Aside0.mk hb
          clear hb
          go_wp2_with (go_at_call 22; refine hcall.mono ?_; rintro e' w2 ⟨rfl, hb2⟩)
          go_ret
          have h2 := HK.out; have h3 := HST.out; have h4 := HSL.out; have h5 := HNW.out; have h6 := HCA.out
          exact ⟨by rw [lessW_no (by omega)]; rfl, below_step hw.out hb2⟩
        · have hge : (u : Int) ≤ x1 := by omega
          rw [lessW_yes hge] at hcall
          have hd2 : decide (x1 - (u : Int) < 0) = false := decide_eq_false (by omega)
          have HGE := Aside0.mk hge
          clear hb hge
          go_wp2_with (go_at_call 22; refine hcall.mono ?_; rintro e' w2 ⟨rfl, hb2⟩)
          go_roundg k1
          case measure => exact Nat.lt_succ_self k1
          case rel =>
            have h2 := HK.out; have h3 := HST.out; have h4 := HGE.out
            exact ⟨_, i + 1, rfl, by rw [E6.out], ⟨by rw [h3]; omega, by omega, by omega⟩, ⟨below_step hw.out hb2⟩⟩
theorem szValueS_calls : ∀ d, SzS d
  | d + 1 => fun w A c xs left h hc h0 h1 hb => szValueS_succ d w A c xs left (fun _ => szValueS_calls d) h hc h0 h1 hb
  | 0 => fun w A c xs left h hc h0 h1 hb => by
    have hx : xs = [] := hb
    refine (szValueS_succ 0 w A c xs left (fun h => by rw [hx] at h; simp at h) h hc h0 h1 ⟨by rw [hx]; simp, by rw [hx]; simp⟩).mono ?_
    rintro e' w' ⟨rfl, hb⟩
    exact ⟨by rw [hx]; rfl, hb⟩
end Go.Proofs.YtebcepbamlokcaaDoor.Q
namespace Go.Proofs.YtebcepbamlokcaaDoor.Q
open Go.RowKit Go.Proofs.YtebcepbamlokcaaDoorW.PrintWords Go.Proofs.YtebcepbamlokcaaDoorW.PrintLast
set_option linter.unusedVariables false
set_option linter.unusedSimpArgs false

set_option maxHeartbeats 1000000 in
theorem eqStringS_calls (w : World) (A B : Option Addr) (c c' : Nat) (ns : List ByteArray) (h : Kd.C Kd.string w A ns.length ns) (h' : Kd.C Kd.string w B ns.length ns) (hc : ns.length ≤ c) (hc' : ns.length ≤ c') :
    Calls Tryd.prog 31 #[.slice A ns.length c, .slice B ns.length c'] w fun e w' => e = .returned (.bool true) ∧ Below w.heap.size w w' := by
  have HC := Aside0.mk h
  have HC' := Aside0.mk h'
  have HL := Aside0.mk h.2.1
  clear h h'
  go_enter Tryd.func31, Tryd.ntmps31
  go_wp2
  go_loopg [5] ns.length (fun kq v5 w' => ∃ (i : Nat), v5 = .int .i64 (i : Int) ∧ Aside0 (i + kq = ns.length) ∧ Aside0 (Below w.heap.size w w'))
  case atStart => exact ⟨0, rfl, ⟨by omega⟩, ⟨Below.refl _ _⟩⟩
  case round =>
    obtain ⟨i, rfl, hk, hw⟩ := hrel
    cases gk with
    | zero =>
      have hd : decide ((i : Int) < (ns.length : Int)) = false := decide_eq_false (by have := hk.out; omega)
      have hd' : decide (i < ns.length) = false := decide_eq_false (by have := hk.out; omega)
      go_wp2
      go_ret
      exact ⟨rfl, hw.out⟩
    | succ k1 =>
      have hd : decide ((i : Int) < (ns.length : Int)) = true := decide_eq_true (by have := hk.out; omega)
      have hp : (0 ≤ (i : Int)) = True := eq_true (by omega)
      have hq : ((i : Int) < (ns.length : Int)) = True := eq_true (by have := hk.out; omega)
      have hi : i < ns.length := by have := hk.out; omega
      obtain ⟨ad, rfl, hsrc⟩ := Kd.at_string HC.out (i : Int) (by omega) (by omega)
      obtain ⟨ad', rfl, hsrc'⟩ := Kd.at_string HC'.out (i : Int) (by omega) (by omega)
      simp only [Int.toNat_natCast] at hsrc hsrc'
      replace hsrc := (hw.out.cell (World.block_lt_of_cell? w _ hsrc)).trans hsrc
      replace hsrc' := (hw.out.cell (World.block_lt_of_cell? w _ hsrc')).trans hsrc'
      generalize rdOf ByteArray.empty ns (i : Int) = s at hsrc hsrc'
      have E6 : Aside0 (wrap64 ((i : Int) + 1) = ((i + 1 : Nat) : Int)) := ⟨by have := HL.out; rw [w64o (by omega) (by omega)]; omega⟩
      have HK := Aside0.mk hk.out
      clear hk
      go_wp2
      go_quiet (fail)
      go_wp2
      go_roundg k1
      case measure => exact Nat.lt_succ_self k1
      case rel =>
        exact ⟨i + 1, by rw [E6.out], ⟨by have := HK.out; omega⟩, ⟨by apply pw_below_drewN; exact hw.out⟩⟩
theorem eqDec_calls (m e : Int) (w : World) : Calls Tryd.prog 69 #[.agg #[.int .i64 m, .int .i64 e], .agg #[.int .i64 m, .int .i64 e]] w fun e' w' => e' = .returned (.bool true) ∧ Below w.heap.size w w' := by
  go_enter Tryd.func69, Tryd.ntmps69
  go_wp2
  go_ret
  exact ⟨rfl, below_alloc (below_alloc (Below.refl _ _) _) _⟩
abbrev EqS (d : Nat) : Prop := ∀ (w : World) (A B : Option Addr) (c c' : Nat) (xs : List S28), Kd.C k28 w A xs.length xs → Kd.C k28 w B xs.length xs → xs.length ≤ c → xs.length ≤ c' → Fit d xs →
    Calls Tryd.prog 70 #[.slice A xs.length c, .slice B xs.length c'] w fun e w' => e = .returned (.bool true) ∧ Below w.heap.size w w'

set_option maxHeartbeats 2000000 in
set_option maxRecDepth 100000 in
theorem eqValue_of (d : Nat) (ih : EqS d) (w : World) (n m e : Int) (s : ByteArray) (A4 B4 : Option Addr) (c4 d4 : Nat) (xs : List S28) (A5 B5 : Option Addr) (c5 d5 : Nat) (ns : List ByteArray) (h4 : Kd.C k28 w A4 xs.length xs) (g4 : Kd.C k28 w B4 xs.length xs) (l4 : xs.length ≤ c4) (m4 : xs.length ≤ d4)
    (h5 : Kd.C Kd.string w A5 ns.length ns) (g5 : Kd.C Kd.string w B5 ns.length ns) (l5 : ns.length ≤ c5) (m5 : ns.length ≤ d5) (hf : Fit d xs) :
    Calls Tryd.prog 26 #[.agg #[.int .i64 n, .int .i64 m, .int .i64 e, .string s, .slice A4 xs.length c4, .slice A5 ns.length c5], .agg #[.int .i64 n, .int .i64 m, .int .i64 e, .string s, .slice B4 xs.length d4, .slice B5 ns.length d5]] w fun e' w' =>
      e' = .returned (.bool true) ∧ Below w.heap.size w w' := by
  have H4 := Aside0.mk h4; have H5 := Aside0.mk h5; have J4 := Aside0.mk g4; have J5 := Aside0.mk g5
  have HF := Aside0.mk hf
  clear h4 h5 g4 g5 hf
  go_enter Tryd.func26, Tryd.ntmps26
  go_wp2_with (first
    | ((with_reducible refine gate_dst (N := 2) rfl ?_); refine box_event ?hg (N := 2) ?hd (cs := #[.int .i64 n, .int .i64 m, .int .i64 e, .string s, .slice A4 xs.length c4, .slice A5 ns.length c5]) (t := 28) ?hr ?_; (case hd => rfl); (case hg => rfl); (case hr => first | (go_simp; done) | (go_simp; rfl))
       intro g1 hg1 w1 hbox1 hb1; have G1 := Aside0.mk hg1; have B1 := Aside0.mk hbox1; have L1 := Aside0.mk hb1; clear hg1 hbox1 hb1)
    | ((with_reducible refine gate_dst (N := 3) rfl ?_); refine box_event ?hg (N := 3) ?hd (cs := #[.int .i64 n, .int .i64 m, .int .i64 e, .string s, .slice B4 xs.length d4, .slice B5 ns.length d5]) (t := 28) ?hr ?_; (case hd => rfl); (case hg => rfl); (case hr => first | (go_simp; done) | (go_simp; rfl))
       intro g2 hg2 w2 hbox2 hb2; have G2 := Aside0.mk hg2; have B2 := Aside0.mk hbox2; have L2 := Aside0.mk (below_step L1.out hb2)
       have B1' := Aside0.mk (blk_keep B1.out hb2 (blk_lt B1.out)); clear hg2 hbox2 hb2
       obtain ⟨p0, p1, p2, p3, p4, p5, -⟩ := six_cells B1'.out
       obtain ⟨r0, r1, r2, r3, r4, r5, -⟩ := six_cells B2.out)
    | (go_at_call 69
       refine (eqDec_calls m e _).mono ?_
       rintro e' w3 ⟨rfl, hb3⟩
       have L3 := Aside0.mk (below_step L2.out hb3)
       have C1 := Aside0.mk (blk_keep B1'.out hb3 (blk_lt B1'.out)); have C2 := Aside0.mk (blk_keep B2.out hb3 (blk_lt B2.out))
       clear p0 p1 p2 p3 p4 p5 r0 r1 r2 r3 r4 r5 hb3
       obtain ⟨p0, p1, p2, p3, p4, p5, -⟩ := six_cells C1.out
       obtain ⟨r0, r1, r2, r3, r4, r5, -⟩ := six_cells C2.out)
    | (go_at_call 70
       refine (ih _ A4 B4 c4 d4 xs (Kd.C_below H4.out L3.out) (Kd.C_below J4.out L3.out) l4 m4 HF.out).mono ?_
       rintro e' w4 ⟨rfl, hb4⟩
       have L4 := Aside0.mk (below_step L3.out hb4)
       have D1 := Aside0.mk (blk_keep C1.out hb4 (blk_lt C1.out)); have D2 := Aside0.mk (blk_keep C2.out hb4 (blk_lt C2.out))
       clear p0 p1 p2 p3 p4 p5 r0 r1 r2 r3 r4 r5 hb4
       obtain ⟨p0, p1, p2, p3, p4, p5, -⟩ := six_cells D1.out
       obtain ⟨r0, r1, r2, r3, r4, r5, -⟩ := six_cells D2.out)
    | (go_at_call 31
       refine (eqStringS_calls _ A5 B5 c5 d5 ns (Kd.C_below H5.out L4.out) (Kd.C_below J5.out L4.out) l5 m5).mono ?_
       rintro e' w5 ⟨rfl, hb5⟩
       have L5 := Aside0.mk (below_step L4.out hb5)))
  go_ret
  exact ⟨rfl, L5.out⟩

set_option maxHeartbeats 2000000 in
set_option maxRecDepth 100000 in
theorem eqValueS_succ (d : Nat) (w : World) (A B : Option Addr) (c c' : Nat) (xs : List S28) (ih : 0 < xs.length → EqS d) (h : Kd.C k28 w A xs.length xs) (h' : Kd.C k28 w B xs.length xs) (hc : xs.length ≤ c) (hc' : xs.length ≤ c') (hf : Fit (d + 1) xs) :
    Calls Tryd.prog 70 #[.slice A xs.length c, .slice B xs.length c'] w fun e w' => e = .returned (.bool true) ∧ Below w.heap.size w w' := by
  have HC := Aside0.mk h
  have HC' := Aside0.mk h'
  have HF := Aside0.mk hf
  clear h h' hf
  go_enter Tryd.func70, Tryd.ntmps70
  go_wp2
  go_loopg [5] xs.length (fun kq v5 w' => ∃ (i : Nat), v5 = .int .i64 (i : Int) ∧ Aside0 (i + kq = xs.length) ∧ Aside0 (Below w.heap.size w w'))
  case atStart => exact ⟨0, rfl, ⟨by omega⟩, ⟨Below.refl _ _⟩⟩
  case round =>
    obtain ⟨i, rfl, hk, hw⟩ := hrel
    cases gk with
    | zero =>
      have hd : decide ((i : Int) < (xs.length : Int)) = false := decide_eq_false (by have := hk.out; omega)
      have hd' : decide (i < xs.length) = false := decide_eq_false (by have := hk.out; omega)
      go_wp2
      go_ret
      exact ⟨rfl, hw.out⟩
    | succ k1 =>
      have hd : decide ((i : Int) < (xs.length : Int)) = true := decide_eq_true (by have := hk.out; omega)
      have hp : (0 ≤ (i : Int)) = True := eq_true (by omega)
      have hq : ((i : Int) < (xs.length : Int)) = True := eq_true (by have := hk.out; omega)
      have hi : i < xs.length := by have := hk.out; omega
      have hxe : rd_T28 xs (i : Int) = xs[i] := by unfold rd_T28; rw [Int.toNat_natCast, List.getD_eq_getElem?_getD, List.getElem?_eq_getElem hi]; rfl
      have hcx := List.getElem?_eq_getElem hi
      obtain ⟨ad, A4, c4, A5, c5, rfl, x0, x1, x2, x3, x4, x5, l4, r4, l5, r5⟩ := at_T28 HC.out (i : Int) (by omega) (by omega)
      obtain ⟨ad', B4, d4, B5, d5, rfl, y0, y1, y2, y3, y4, y5, m4, s4, m5, s5⟩ := at_T28 HC'.out (i : Int) (by omega) (by omega)
      rw [hxe] at x0 x1 x2 x3 x4 x5 l4 r4 l5 r5 y0 y1 y2 y3 y4 y5 m4 s4 m5 s5
      simp only [Int.toNat_natCast] at x0 x1 x2 x3 x4 x5 y0 y1 y2 y3 y4 y5
      generalize xs[i] = x at hcx x0 x1 x2 x3 x4 x5 l4 r4 l5 r5 y0 y1 y2 y3 y4 y5 m4 s4 m5 s5
      replace x0 := (hw.out.cell (World.block_lt_of_cell? w _ x0)).trans x0
      replace x1 := (hw.out.cell (World.block_lt_of_cell? w _ x1)).trans x1
      replace x2 := (hw.out.cell (World.block_lt_of_cell? w _ x2)).trans x2
      replace x3 := (hw.out.cell (World.block_lt_of_cell? w _ x3)).trans x3
      replace x4 := (hw.out.cell (World.block_lt_of_cell? w _ x4)).trans x4
      replace x5 := (hw.out.cell (World.block_lt_of_cell? w _ x5)).trans x5
      replace y0 := (hw.out.cell (World.block_lt_of_cell? w _ y0)).trans y0
      replace y1 := (hw.out.cell (World.block_lt_of_cell? w _ y1)).trans y1
      replace y2 := (hw.out.cell (World.block_lt_of_cell? w _ y2)).trans y2
      replace y3 := (hw.out.cell (World.block_lt_of_cell? w _ y3)).trans y3
      replace y4 := (hw.out.cell (World.block_lt_of_cell? w _ y4)).trans y4
      replace y5 := (hw.out.cell (World.block_lt_of_cell? w _ y5)).trans y5
      have E6 : Aside0 (wrap64 ((i : Int) + 1) = ((i + 1 : Nat) : Int)) := ⟨by have := HF.out.1; rw [w64o (by omega) (by omega)]; omega⟩
      have HK := Aside0.mk hk.out
      have hfx : Fit d x.f3 := (HF.out.2 x (List.mem_of_getElem? hcx)).2
      have hB7 := below_drew1 hw.out
      clear hk
      go_wp2
      refine start_ (n := 10) (S := fun w' => w'.cell? (ad.add (i * 6)) = some (.int .i64 x.f0) ∧ w'.cell? ⟨(ad.add (i * 6)).block, (ad.add (i * 6)).off + 1, none⟩ = some (.int .i64 x.f1.f0) ∧ w'.cell? ⟨(ad.add (i * 6)).block, (ad.add (i * 6)).off + 2, none⟩ = some (.int .i64 x.f1.f1) ∧ w'.cell? ⟨(ad.add (i * 6)).block, (ad.add (i * 6)).off + 3, none⟩ = some (.string x.f2) ∧ w'.cell? ⟨(ad.add (i * 6)).block, (ad.add (i * 6)).off + 4, none⟩ = some (.slice A4 x.f3.length c4) ∧ w'.cell? ⟨(ad.add (i * 6)).block, (ad.add (i * 6)).off + 5, none⟩ = some (.slice A5 x.f4.length c5) ∧ w'.cell? (ad'.add (i * 6)) = some (.int .i64 x.f0) ∧ w'.cell? ⟨(ad'.add (i * 6)).block, (ad'.add (i * 6)).off + 1, none⟩ = some (.int .i64 x.f1.f0) ∧ w'.cell? ⟨(ad'.add (i * 6)).block, (ad'.add (i * 6)).off + 2, none⟩ = some (.int .i64 x.f1.f1) ∧ w'.cell? ⟨(ad'.add (i * 6)).block, (ad'.add (i * 6)).off + 3, none⟩ = some (.string x.f2) ∧ w'.cell? ⟨(ad'.add (i * 6)).block, (ad'.add (i * 6)).off + 4, none⟩ = some (.slice B4 x.f3.length d4) ∧ w'.cell? ⟨(ad'.add (i * 6)).block, (ad'.add (i * 6)).off + 5, none⟩ = some (.slice B5 x.f4.length d5)) (ds := []) #[false, false, false, false, false, false, false, false, false, false] (by kernel_rfl) rfl rfl (⟨x0, x1, x2, x3, x4, x5, y0, y1, y2, y3, y4, y5⟩) (fun hHeld => ?_)
      generalize wr.drew = w7 at hB7 hHeld ⊢
      obtain ⟨x0, x1, x2, x3, x4, x5, y0, y1, y2, y3, y4, y5⟩ := id hHeld
      refine pure_ (i := 0) (N := some 17) (v := ?_) (a' := ?_) #[true, false, false, false, false, false, false, false, false, false] rfl rfl (by kernel_rfl) (fun _ _ _ h => h) (Or.inl ⟨by rfl, ?_⟩) ?_ ?_
      rotate_left
      · intro w'
        go_simp; with_reducible rfl
      rotate_left
      · simp only [Act.put, List.setIfInBounds_toArray, List.set_cons_zero, List.set_cons_succ, i64_w, i32_w]; rfl
      refine pure_ (i := 1) (N := some 18) (v := ?_) (a' := ?_) #[true, true, false, false, false, false, false, false, false, false] rfl rfl (by kernel_rfl) (fun _ _ _ h => h) (Or.inl ⟨by rfl, ?_⟩) ?_ ?_
      rotate_left
      · intro w'
        go_simp; with_reducible rfl
      rotate_left
      · simp only [Act.put, List.setIfInBounds_toArray, List.set_cons_zero, List.set_cons_succ, i64_w, i32_w]; rfl
      refine pure_ (i := 2) (N := some 19) (v := ?_) (a' := ?_) #[true, true, true, false, false, false, false, false, false, false] rfl rfl (by kernel_rfl) (fun _ _ _ h => h) (Or.inl ⟨by rfl, ?_⟩) ?_ ?_
      rotate_left
      · intro w'
        go_simp; with_reducible rfl
      rotate_left
      · simp only [Act.put, List.setIfInBounds_toArray, List.set_cons_zero, List.set_cons_succ, i64_w, i32_w]; rfl
      refine pure_ (i := 4) (N := some 21) (v := ?_) (a' := ?_) #[true, true, true, false, true, false, false, false, false, false] rfl rfl (by kernel_rfl) (fun _ _ _ h => h) (Or.inl ⟨by rfl, ?_⟩) ?_ ?_
      rotate_left
      · intro w'
        go_simp; with_reducible rfl
      rotate_left
      · simp only [Act.put, List.setIfInBounds_toArray, List.set_cons_zero, List.set_cons_succ, i64_w, i32_w]; rfl
      refine pure_ (i := 5) (N := some 22) (v := ?_) (a' := ?_) #[true, true, true, false, true, true, false, false, false, false] rfl rfl (by kernel_rfl) (fun _ _ _ h => h) (Or.inl ⟨by rfl, ?_⟩) ?_ ?_
      rotate_left
      · intro w'
        go_simp; with_reducible rfl
      rotate_left
      · simp only [Act.put, List.setIfInBounds_toArray, List.set_cons_zero, List.set_cons_succ, i64_w, i32_w]; rfl
      refine pure_ (i := 6) (N := some 23) (v := ?_) (a' := ?_) #[true, true, true, false, true, true, true, false, false, false] rfl rfl (by kernel_rfl) (fun _ _ _ h => h) (Or.inl ⟨by rfl, ?_⟩) ?_ ?_
      rotate_left
      · intro w'
        go_simp; with_reducible rfl
      rotate_left
      · simp only [Act.put, List.setIfInBounds_toArray, List.set_cons_zero, List.set_cons_succ, i64_w, i32_w]; rfl
      refine take_ (i := 3) (N := some 20) (v := ?_) (a' := ?_) #[true, true, true, true, true, true, true, false, false, false] rfl rfl (by kernel_rfl) (fun _ _ _ h => h) (Or.inl ⟨by rfl, ?_⟩) hHeld ?_ ?_
      rotate_left
      · intro w' s0
        obtain ⟨a0, a1, a2, a3, a4, a5, b0, b1, b2, b3, b4, b5⟩ := s0
        go_simp; with_reducible rfl
      rotate_left
      · simp only [Act.put, List.setIfInBounds_toArray, List.set_cons_zero, List.set_cons_succ, i64_w, i32_w]; rfl
      refine take_ (i := 7) (N := some 24) (v := ?_) (a' := ?_) #[true, true, true, true, true, true, true, true, false, false] rfl rfl (by kernel_rfl) (fun _ _ _ h => h) (Or.inl ⟨by rfl, ?_⟩) hHeld ?_ ?_
      rotate_left
      · intro w' s0
        obtain ⟨a0, a1, a2, a3, a4, a5, b0, b1, b2, b3, b4, b5⟩ := s0
        go_simp; with_reducible rfl
      rotate_left
      · simp only [Act.put, List.setIfInBounds_toArray, List.set_cons_zero, List.set_cons_succ, i64_w, i32_w]; rfl
      refine one_ (i := 8) (N := some 25) #[true, true, true, true, true, true, true, true, true, false] rfl rfl (by kernel_rfl) (by decide) (fun K hK => ?_)
      refine goes_ Tryd.func26 (by kernel_rfl) rfl #[.agg #[.int .i64 x.f0, .int .i64 x.f1.f0, .int .i64 x.f1.f1, .string x.f2, .slice A4 x.f3.length c4, .slice A5 x.f4.length c5], .agg #[.int .i64 x.f0, .int .i64 x.f1.f0, .int .i64 x.f1.f1, .string x.f2, .slice B4 x.f3.length d4, .slice B5 x.f4.length d5]] (by rfl) rfl rfl (by (try simp only [List.map_toArray, List.map_cons, List.map_nil]); first | done | rfl) ?_
      with_reducible refine (eqValue_of d (ih (by omega)) w7 x.f0 x.f1.f0 x.f1.f1 x.f2 A4 B4 c4 d4 x.f3 A5 B5 c5 d5 x.f4 (Kd.C_below r4 hB7) (Kd.C_below s4 hB7) l4 m4 (Kd.C_below r5 hB7) (Kd.C_below s5 hB7) l5 m5 hfx).mono ?_
      rintro e w8 ⟨rfl, hb8⟩
      refine ⟨_, rfl, hK.out _ _ (⟨(hb8.cell (World.block_lt_of_cell? w7 _ x0)).trans x0, (hb8.cell (World.block_lt_of_cell? w7 _ x1)).trans x1, (hb8.cell (World.block_lt_of_cell? w7 _ x2)).trans x2, (hb8.cell (World.block_lt_of_cell? w7 _ x3)).trans x3, (hb8.cell (World.block_lt_of_cell? w7 _ x4)).trans x4, (hb8.cell (World.block_lt_of_cell? w7 _ x5)).trans x5, (hb8.cell (World.block_lt_of_cell? w7 _ y0)).trans y0, (hb8.cell (World.block_lt_of_cell? w7 _ y1)).trans y1, (hb8.cell (World.block_lt_of_cell? w7 _ y2)).trans y2, (hb8.cell (World.block_lt_of_cell? w7 _ y3)).trans y3, (hb8.cell (World.block_lt_of_cell? w7 _ y4)).trans y4, (hb8.cell (World.block_lt_of_cell? w7 _ y5)).trans y5⟩) (fun hHeld => ?_)⟩
      clear hK K
      refine norm_ (a' := ?_) ?_ ?_
      rotate_left
      · show Act.put _ (some 25) _ = _
        simp only [Act.put, List.setIfInBounds_toArray, List.set_cons_zero, List.set_cons_succ, i64_w, i32_w]; rfl
      refine pure_ (i := 9) (N := some 26) (v := ?_) (a' := ?_) #[true, true, true, true, true, true, true, true, true, true] rfl rfl (by kernel_rfl) (fun _ _ _ h => h) (Or.inl ⟨by rfl, ?_⟩) ?_ ?_
      rotate_left
      · intro w'
        go_simp; with_reducible rfl
      rotate_left
      · simp only [Act.put, List.setIfInBounds_toArray, List.set_cons_zero, List.set_cons_succ, i64_w, i32_w]; rfl
      refine done_ (by kernel_rfl) ?_
      go_wp2
      go_roundg k1
      case measure => exact Nat.lt_succ_self k1
      case rel => exact ⟨i + 1, by rw [E6.out], ⟨by have := HK.out; omega⟩, ⟨below_step hB7 hb8⟩⟩
theorem eqValueS_calls : ∀ d, EqS d
  | d + 1 => fun w A B c c' xs h h' hc hc' hf => eqValueS_succ d w A B c c' xs (fun _ => eqValueS_calls d) h h' hc hc' hf
  | 0 => fun w A B c c' xs h h' hc hc' hf => by
    have hx : xs = [] := hf
    exact eqValueS_succ 0 w A B c c' xs (fun h => by rw [hx] at h; simp at h) h h' hc hc' ⟨by rw [hx]; simp, by rw [hx]; simp⟩
end Go.Proofs.YtebcepbamlokcaaDoor.Q
namespace Go.Proofs.YtebcepbamlokcaaDoor.Q
open Go.RowKit Go.Proofs.YtebcepbamlokcaaDoorW.PrintWords Go.Proofs.YtebcepbamlokcaaDoorW.PrintLast
set_option linter.unusedVariables false
set_option linter.unusedSimpArgs false



theorem qQx13s0_ {P : Prop} (h : P := by repeat (first | (with_reducible first | exact HB.out | apply below_alloc | apply pw_below_drewN | apply below_drew1) | exact HB.out)) : P := h
theorem qQx13s1_ {P : Prop} (h : P := by first | rfl | (simp; done) | (simp [*]; done)) : P := h
def laws_markText.l0 : Nat → Int → ByteArray → Option (ByteArray)
 | 0, _, _ => none
 | k + 1, x0, x3 => if x0 > 0 then ((some (([(wrap64 (48 + (Int.tmod x0 10))) % 256] : List Int) : List Int)).bind fun y195 => (if (strOfNums y195).size + x3.size ≤ 9223372036854775807 then (laws_markText.l0 k (wrap64 (Int.tdiv x0 10)) ((strOfNums y195) ++ x3)) else (none))) else (if 1 + x3.size ≤ 9223372036854775807 then (some ((⟨#[109]⟩ : ByteArray) ++ x3)) else (none))
def laws_markText.f (k : Nat) (a0 : Int) : Option (ByteArray) := if a0 ≤ 0 then (some (⟨#[109, 48]⟩ : ByteArray)) else (laws_markText.l0 k a0 (⟨#[]⟩ : ByteArray))
theorem laws_markText.mono_l : ∀ k, (∀ y0 y1, LeO (laws_markText.l0 k y0 y1) (laws_markText.l0 (k + 1) y0 y1))
 | 0 => fun _ _ r h => by simp [laws_markText.l0] at h
 | k + 1 => by
  have ih0 := laws_markText.mono_l k
  ·intro y0 y1
   unfold laws_markText.l0
   repeat' first
   | (with_reducible exact ih0 _ _)
   | (with_reducible exact LeO.refl _)
   | (with_reducible exact LeO.none _)
   | (with_reducible refine LeO.ite ?_ ?_)
   | (with_reducible refine LeO.bind ?_ (fun _ => ?_))
   | exact ih0 _ _
   | exact LeO.none _
   | refine LeO.ite ?_ ?_
   | refine LeO.bind ?_ (fun _ => ?_)
theorem laws_markText.mono : ∀ a0 k, LeO (laws_markText.f k a0) (laws_markText.f (k + 1) a0) := by
 intro a0 k
 have ih0 := laws_markText.mono_l k
 unfold laws_markText.f
 repeat' first
   | (with_reducible exact ih0 _ _)
   | (with_reducible exact LeO.refl _)
   | (with_reducible exact LeO.none _)
   | (with_reducible refine LeO.ite ?_ ?_)
   | (with_reducible refine LeO.bind ?_ (fun _ => ?_))
   | exact ih0 _ _
   | exact LeO.none _
   | refine LeO.ite ?_ ?_
   | refine LeO.bind ?_ (fun _ => ?_)
set_option maxHeartbeats 8000000 in
set_option maxRecDepth 100000 in
theorem laws_markText.calls (k : Nat) (a0 : Int) (r : ByteArray) (w : World) (h : laws_markText.f k a0 = some r) :
  Calls Tryd.prog 74 #[.int .i64 a0] w fun e w' => e = .returned (.string r) ∧ Below w.heap.size w w' := by
 have HB := Aside0.mk (Below.refl w.heap.size w)
 have H : (if a0 ≤ 0 then (some (⟨#[109, 48]⟩ : ByteArray)) else (laws_markText.l0 k a0 (⟨#[]⟩ : ByteArray))) = some r := h
 clear h
 by_cases c2 : a0 ≤ 0
 ·rw [if_pos c2] at H
  have c2b0 : decide (a0 ≤ 0) = true := decide_eq_true c2
  clear c2
  obtain rfl := Option.some.inj H
  go_enter Tryd.func74, Tryd.ntmps74
  go_wp2
  go_ret
  exact ⟨(by first | rfl | (simp [errW_none, errW_some] <;> rfl) | (simp [*, errW_none, errW_some] <;> rfl)), qQx13s0_⟩
 ·rw [if_neg c2] at H
  have c2b0 : decide (a0 ≤ 0) = false := decide_eq_false c2
  clear c2
  have H' := Aside0.mk H
  clear H
  go_enter Tryd.func74, Tryd.ntmps74
  go_wp2
  go_loopg [0, 3] k (fun kq v0 v3 w' => ∃ (x0_1 : Int) (x3_1 : ByteArray), v0 = .int .i64 x0_1 ∧ v3 = .string x3_1 ∧ Aside0 (laws_markText.l0 kq x0_1 x3_1 = some r) ∧ Aside0 (kq ≤ k) ∧ Aside0 (Below w.heap.size w w'))
  case atStart => exact ⟨(a0), ((⟨#[]⟩ : ByteArray)), qQx13s1_, qQx13s1_, H', ⟨Nat.le_refl _⟩, ⟨qQx13s0_⟩⟩
  case round =>
   clear H'
   try clear c2
   try clear c2b0
   try clear p2
   obtain ⟨x0_1, x3_1, rfl, rfl, HA, HK1, HB⟩ := hrel
   cases gk with
   | zero => exact absurd HA.out (by simp [laws_markText.l0])
   | succ k1 =>
    have H := HA.out
    clear HA
    simp only [laws_markText.l0] at H
    by_cases c3 : x0_1 > 0
    ·rw [if_pos c3] at H
     have c3b0 : decide (0 < x0_1) = true := decide_eq_true c3
     clear c3
     obtain ⟨y195, hy195⟩ : ∃ y_ : List Int, y_ = (([(wrap64 (48 + (Int.tmod x0_1 10))) % 256] : List Int)) := ⟨_, rfl⟩
     replace H : (if (strOfNums y195).size + x3_1.size ≤ 9223372036854775807 then (laws_markText.l0 k1 (wrap64 (Int.tdiv x0_1 10)) ((strOfNums y195) ++ x3_1)) else (none)) = some r := by first | (rw [hy195]; with_reducible exact H) | (have H2_ := (Option.bind_some _ _).symm.trans H; rw [hy195]; with_reducible exact H2_) | (have H2_ := (Option.bind_some _ _).symm.trans H; with_reducible exact H2_) | with_reducible exact H | (rw [hy195]; exact H) | exact H
     have Ny195 := Aside0.mk hy195
     clear hy195
     by_cases c4 : (strOfNums y195).size + x3_1.size ≤ 9223372036854775807
     ·rw [if_pos c4] at H
      have c4b0 := eq_true c4
      have c4b1 : decide ((strOfNums y195).size + x3_1.size ≤ 9223372036854775807) = true := decide_eq_true c4
      try have c4b2 : (9223372036854775807 < (strOfNums y195).size + x3_1.size) = False := eq_false (Nat.not_lt.2 c4)
      have H' := Aside0.mk H
      clear H
      go_wp2_with (first | ((with_reducible refine gate_dst (N := 12) rfl ?_); refine Kd.R_lit (Kd.int .u8) _ 5 ?hg (N := 12) ?hd (xs := ([(wrap64 (48 + (Int.tmod x0_1 10))) % 256] : List Int)) (inner := [.int .u8 ((wrap64 (48 + (Int.tmod x0_1 10))) % 256)]) (ok := fun _ => True) (okp := fun _ => True) ?hr ?hp (fun _ hk => hk) trivial (Below.refl _ _) (Nat.le_refl _) (by simp) ?_; (case hd => rfl); (case hg => rfl); (case hr => exact (by first | (go_simp; done) | (go_simp; rfl))); (case hp => exact (by exact (Reps.one (show Kd.M (Kd.int .u8) _ _ _ ((wrap64 (48 + (Int.tmod x0_1 10))) % 256) [.int .u8 ((wrap64 (48 + (Int.tmod x0_1 10))) % 256)] from rfl) (Reps.none _ _)))); intro v196 w5 ho6 hb hg_ hnew_; clear hg_ hnew_; (first | rw [← Ny195.out] at ho6 | (simp only [Int.reduceToNat] at ho6; rw [← Ny195.out] at ho6)); have n0_ := Aside0.mk (Kd.R_lower ho6 (below_size qQx13s0_)); have n1_ := Aside0.mk (below_step qQx13s0_ hb); clear HB; have HO197 := n0_; have HB := n1_; clear n0_ n1_ hb ho6; have hcv7 := own_string (P := Tryd.prog) Tryd.underlying22 Tryd.underlying5 Tryd.underlying9 (Kd.own_of_R HO197.out)))
      go_roundg k1
      case measure => have := HK1.out; omega
      case rel => exact ⟨(wrap64 (Int.tdiv x0_1 10)), ((strOfNums y195) ++ x3_1), qQx13s1_, qQx13s1_, H', ⟨by have := HK1.out; omega⟩, ⟨qQx13s0_⟩⟩
     ·rw [if_neg c4] at H
      exact absurd H (by simp)
    ·rw [if_neg c3] at H
     have c3b0 : decide (0 < x0_1) = false := decide_eq_false c3
     clear c3
     by_cases c8 : 1 + x3_1.size ≤ 9223372036854775807
     ·rw [if_pos c8] at H
      have c8b0 := eq_true c8
      have c8b1 : decide (1 + x3_1.size ≤ 9223372036854775807) = true := decide_eq_true c8
      try have c8b2 : (9223372036854775807 < 1 + x3_1.size) = False := eq_false (Nat.not_lt.2 c8)
      obtain rfl := Option.some.inj H
      go_wp2
      go_ret
      exact ⟨(by first | rfl | (simp [errW_none, errW_some] <;> rfl) | (simp [*, errW_none, errW_some] <;> rfl)), qQx13s0_⟩
     ·rw [if_neg c8] at H
      exact absurd H (by simp)

end Go.Proofs.YtebcepbamlokcaaDoor.Q
namespace Go.Proofs.YtebcepbamlokcaaDoor.Q
open Go.RowKit Go.Proofs.YtebcepbamlokcaaDoorW.PrintWords Go.Proofs.YtebcepbamlokcaaDoorW.PrintLast
set_option linter.unusedVariables false
set_option linter.unusedSimpArgs false

def MT (k : Int) : ByteArray := (laws_markText.f 40 k).getD ⟨#[]⟩
theorem w64' {n : Int} (h0 : -9223372036854775808 ≤ n) (h1 : n ≤ 9223372036854775807) : wrap64 n = n := by unfold wrap64; omega
theorem markText_l0 : ∀ (j : Nat) (k : Int) (x : ByteArray), 0 ≤ k → k < 10 ^ j → j ≤ 13 → x.size + j ≤ 100 → ∀ n, j < n → ∃ r, laws_markText.l0 n k x = some r
  | 0, k, x, h0, h1, _, hx, n, hn => by
    obtain ⟨n, rfl⟩ : ∃ m, n = m + 1 := ⟨n - 1, by omega⟩
    have hk : ¬ k > 0 := by simp at h1; omega
    simp only [laws_markText.l0]
    rw [if_neg hk, if_pos (by omega)]
    exact ⟨_, rfl⟩
  | j + 1, k, x, h0, h1, hj, hx, n, hn => by
    obtain ⟨n, rfl⟩ : ∃ m, n = m + 1 := ⟨n - 1, by omega⟩
    simp only [laws_markText.l0]
    by_cases hk : k > 0
    · rw [if_pos hk]
      simp only [Option.bind_some]
      have hs : (strOfNums ([(wrap64 (48 + (Int.tmod k 10))) % 256] : List Int)).size = 1 := by simp [strOfNums, ByteArray.size]
      rw [hs, if_pos (by omega)]
      have hd : Int.tdiv k 10 = k / 10 := Int.tdiv_eq_ediv_of_nonneg h0
      have hp : (10 : Int) ^ j ≤ 10 ^ 12 := by
        have := Nat.pow_le_pow_right (n := 10) (by omega) (show j ≤ 12 by omega)
        exact_mod_cast this
      have hb : k < 10 ^ 13 := by
        have : (10 : Int) ^ (j + 1) ≤ 10 ^ 13 := by rw [Int.pow_succ]; omega
        omega
      rw [hd, w64' (by omega) (by omega)]
      refine markText_l0 j (k / 10) _ (by omega) ?_ (by omega) (by rw [ByteArray.size_append, hs]; omega) n (by omega)
      rw [Int.pow_succ] at h1
      omega
    · rw [if_neg hk, if_pos (by omega)]
      exact ⟨_, rfl⟩
theorem markText_f (k : Int) (h : k ≤ 1099511627776) : laws_markText.f 40 k = some (MT k) := by
  unfold MT
  by_cases hk : k ≤ 0
  · unfold laws_markText.f; rw [if_pos hk]; rfl
  · obtain ⟨r, hr⟩ := markText_l0 13 k ⟨#[]⟩ (by omega) (by omega) (by omega) (by decide) 40 (by omega)
    have : laws_markText.f 40 k = some r := by unfold laws_markText.f; rw [if_neg hk]; exact hr
    rw [this]; rfl
theorem markText_calls (k : Int) (w : World) (h : k ≤ 1099511627776) : Calls Tryd.prog 74 #[.int .i64 k] w fun e w' => e = .returned (.string (MT k)) ∧ Below w.heap.size w w' :=
  laws_markText.calls 40 k _ w (markText_f k h)

def NMarks (ns : List ByteArray) (k : Int) : Prop := ∀ (j : Nat) (s : ByteArray), ns[j]? = some s → s = MT (k + j)

set_option maxHeartbeats 1000000 in
theorem markStringS_calls (w0 w : World) (A : Option Addr) (c : Nat) (ns : List ByteArray) (fp : List Nat) (k : Int) (hr : NRow w A ns fp) (hc : ns.length ≤ c) (h0 : 0 ≤ k) (h1 : k + ns.length ≤ 1099511627776)
    (hB : Below w0.heap.size w0 w) (hfp : ∀ b ∈ fp, w0.heap.size ≤ b) :
    Calls Tryd.prog 32 #[.slice A ns.length c, .int .i64 k] w fun e w' =>
      e = .returned (.int .i64 (k + ns.length)) ∧ (∃ ns', NRow w' A ns' fp ∧ ns'.length = ns.length ∧ NMarks ns' k) ∧ Below w0.heap.size w0 w' ∧ Kept w w' (fun b => b ∈ fp) := by
  go_enter Tryd.func32, Tryd.ntmps32
  go_wp2
  go_loopg [1, 5] ns.length (fun kq v1 v5 w' => ∃ (x1 x5 : Int) (cur : List ByteArray), v1 = .int .i64 x1 ∧ v5 = .int .i64 x5 ∧ Aside0 (x1 = k + x5) ∧ Aside0 (0 ≤ x5 ∧ x5 + kq = ns.length) ∧ Aside0 (NRow w' A cur fp) ∧ Aside0 (cur.length = ns.length) ∧
    Aside0 (∀ (j : Nat) (s : ByteArray), (j : Int) < x5 → cur[j]? = some s → s = MT (k + j)) ∧ Aside0 (Below w0.heap.size w0 w') ∧ Aside0 (Kept w w' (fun b => b ∈ fp)))
  case atStart => exact ⟨k, 0, ns, rfl, rfl, ⟨by omega⟩, ⟨by omega⟩, ⟨hr⟩, ⟨rfl⟩, ⟨fun j s hj _ => by omega⟩, ⟨hB⟩, ⟨Kept.refl _ _⟩⟩
  case round =>
    obtain ⟨x1, x5, cur, rfl, rfl, hx, hk, hn, hl, hm, hb, hkk⟩ := hrel
    cases gk with
    | zero =>
      have hd : decide (x5 < (ns.length : Int)) = false := decide_eq_false (by have := hk.out; omega)
      go_wp2
      go_ret
      have hx5 : x1 = k + ns.length := by have := hk.out; have := hx.out; omega
      refine ⟨by rw [← hx5]; rfl, ⟨cur, hn.out, hl.out, fun j s hj => hm.out j s (by have := (List.getElem?_eq_some_iff.1 hj).1; have := hl.out; have := hk.out; omega) hj⟩, hb.out, hkk.out⟩
    | succ k1 =>
      have hd : decide (x5 < (ns.length : Int)) = true := decide_eq_true (by have := hk.out; omega)
      have hp : (0 ≤ x5) = True := eq_true (by have := hk.out; omega)
      have hq : (x5 < (ns.length : Int)) = True := eq_true (by have := hk.out; omega)
      obtain ⟨b, rfl, hfb, hbl, hcell, hfro⟩ := hn.out.cell x5 (by have := hk.out; omega) (by have := hk.out; have := hl.out; omega)
      have HK := Aside0.mk hk.out
      clear hk
      go_wp2_with (go_at_call 74; refine (markText_calls x1 _ (by have := hx.out; have := HK.out; omega)).mono ?_; rintro e' w2 ⟨rfl, hb2⟩; have hcell2 := (hb2.cell hbl).trans hcell; have hfro2 : w2.frozen? ⟨b, x5.toNat, none⟩ = false := (fro_same (hb2.block b hbl) _).trans hfro)
      go_roundg k1
      case measure => omega
      case rel =>
        have hb2' := hb2.block b hbl
        have hn2 := hn.out.same (Same.below hn.out.lt hb2)
        have hx1 := hx.out
        have hk1 := HK.out
        have hl1 := hl.out
        have hge : w0.heap.size ≤ b := hfp b (by rw [hfb]; exact List.mem_singleton_self b)
        refine ⟨wrap64 (x1 + 1), wrap64 (x5 + 1), cur.set x5.toNat (MT x1), rfl, rfl, ⟨by rw [w64' (by omega) (by omega), w64' (by omega) (by omega)]; omega⟩, ⟨by rw [w64' (by omega) (by omega)]; omega⟩, ⟨hn2.put (by omega) _ _⟩, ⟨by rw [List.length_set]; exact hl1⟩,
          ⟨fun j s hj hs => ?_⟩, ⟨Below.setCell (below_step hb.out hb2) hge _⟩, ⟨(hkk.out.below hb2).setCell (.inl (by rw [hfb]; exact List.mem_singleton_self b)) _⟩⟩
        rw [w64' (by omega) (by omega)] at hj
        by_cases hji : j = x5.toNat
        · subst hji
          rw [List.getElem?_set_self (by omega)] at hs
          rw [← Option.some.inj hs, hx1]; congr 2; omega
        · rw [List.getElem?_set_ne (fun e => hji e.symm)] at hs
          exact hm.out j s (by omega) hs
end Go.Proofs.YtebcepbamlokcaaDoor.Q
namespace Go.Proofs.YtebcepbamlokcaaDoor.Q
open Go.RowKit Go.Proofs.YtebcepbamlokcaaDoorW.PrintWords Go.Proofs.YtebcepbamlokcaaDoorW.PrintLast
set_option linter.unusedVariables false
set_option linter.unusedSimpArgs false

def cntI (c : List S28 → Nat) (x : S28) : Nat := 4 + c x.f3 + x.f4.length
theorem len_le_cnt (c : List S28 → Nat) : ∀ xs : List S28, xs.length ≤ (xs.map (cntI c)).sum
  | [] => Nat.le_refl _
  | x :: r => by have := len_le_cnt c r; simp only [List.length_cons, List.map_cons, List.sum_cons, cntI] at this ⊢; omega
def cnt : Nat → List S28 → Nat
  | 0, _ => 0
  | d + 1, xs => (xs.map (cntI (cnt d))).sum
def MItem (M : List S28 → Int → Prop) (c : List S28 → Nat) (x : S28) (k : Int) : Prop :=
  x.f0 = k ∧ x.f1.f0 = k + 1 ∧ x.f1.f1 = k + 2 ∧ x.f2 = MT (k + 3) ∧ M x.f3 (k + 4) ∧ NMarks x.f4 (k + 4 + (c x.f3 : Nat))
def Marks : Nat → List S28 → Int → Prop
  | 0, _, _ => True
  | d + 1, xs, k => ∀ (i : Nat) (x : S28), xs[i]? = some x → MItem (Marks d) (cnt d) x (k + (((xs.map (cntI (cnt d))).take i).sum : Nat))

theorem take_sum_succ (l : List Nat) (i : Nat) (a : Nat) (h : l[i]? = some a) : (l.take (i + 1)).sum = (l.take i).sum + a := by
  rw [List.take_add_one, h]; simp
theorem take_sum_le (l : List Nat) : ∀ i, (l.take i).sum ≤ l.sum := by
  intro i
  have := List.take_append_drop i l
  have h2 : (l.take i ++ l.drop i).sum = l.sum := by rw [this]
  rw [List.sum_append] at h2
  omega

theorem VItem.cells {R : World → Option Addr → List S28 → List Nat → Prop} {w : World} {b o : Nat} {cs : Array Value} {x : S28} {f : List Nat} (hb : w.heap[b]? = some (.cells cs 28 (0, 0))) (h : VItem R w (fun j => cs[j]?) o x f) :
    ∃ A4 c4 A5 c5 f4 f5, f = f4 ++ f5 ∧ w.cell? ⟨b, o, none⟩ = some (.int .i64 x.f0) ∧ w.cell? ⟨b, o + 1, none⟩ = some (.int .i64 x.f1.f0) ∧ w.cell? ⟨b, o + 2, none⟩ = some (.int .i64 x.f1.f1) ∧ w.cell? ⟨b, o + 3, none⟩ = some (.string x.f2) ∧
      w.cell? ⟨b, o + 4, none⟩ = some (.slice A4 x.f3.length c4) ∧ w.cell? ⟨b, o + 5, none⟩ = some (.slice A5 x.f4.length c5) ∧ x.f3.length ≤ c4 ∧ x.f4.length ≤ c5 ∧ R w A4 x.f3 f4 ∧ NRow w A5 x.f4 f5 := by
  obtain ⟨A4, c4, A5, c5, f4, f5, hf, h0, h1, h2, h3, h4, h5, l4, l5, r4, r5⟩ := h
  exact ⟨A4, c4, A5, c5, f4, f5, hf, (blk_cell hb _).trans h0, (blk_cell hb _).trans h1, (blk_cell hb _).trans h2, (blk_cell hb _).trans h3, (blk_cell hb _).trans h4, (blk_cell hb _).trans h5, l4, l5, r4, r5⟩

theorem put3 {w0 wr w2 : World} {b o : Nat} {cs : Array Value} {v0 v1 v2 : Value} (hbk : wr.heap[b]? = some (.cells cs 28 (0, 0)))
    (hb2 : Below (((wr.setCell ⟨b, o, none⟩ v0).setCell ⟨b, o + 1, none⟩ v1).setCell ⟨b, o + 1 + 1, none⟩ v2).heap.size (((wr.setCell ⟨b, o, none⟩ v0).setCell ⟨b, o + 1, none⟩ v1).setCell ⟨b, o + 1 + 1, none⟩ v2) w2)
    (hs : o + 6 ≤ cs.size) (hB : Below w0.heap.size w0 wr) (hge : w0.heap.size ≤ b) :
    ∃ cs3, w2.heap[b]? = some (.cells cs3 28 (0, 0)) ∧ cs3.size = cs.size ∧ cs3[o]? = some v0 ∧ cs3[o + 1]? = some v1 ∧ cs3[o + 2]? = some v2 ∧ (∀ j, (j < o ∨ o + 3 ≤ j) → cs3[j]? = cs[j]?) ∧ Kept wr w2 (fun q => q = b) ∧ Below w0.heap.size w0 w2 := by
  have k1 := (Kept.refl wr (fun q => q = b)).setCell (p := ⟨b, o, none⟩) (.inl rfl) v0
  have k2 := k1.setCell (p := ⟨b, o + 1, none⟩) (.inl rfl) v1
  have k3 := k2.setCell (p := ⟨b, o + 1 + 1, none⟩) (.inl rfl) v2
  have b1 := Below.setCell (p := ⟨b, o, none⟩) hB hge v0
  have b2 := Below.setCell (p := ⟨b, o + 1, none⟩) b1 hge v1
  have b3 := Below.setCell (p := ⟨b, o + 1 + 1, none⟩) b2 hge v2
  have h3 := blk_set (blk_set (blk_set hbk o v0) (o + 1) v1) (o + 1 + 1) v2
  refine ⟨_, (hb2.block b (blk_lt h3)).trans h3, by simp, ?_, ?_, ?_, fun j hj => ?_, Kept.below k3 hb2, below_step b3 hb2⟩
  · rw [Array.getElem?_setIfInBounds_ne (by omega), Array.getElem?_setIfInBounds_ne (by omega), Array.getElem?_setIfInBounds_self_of_lt (by omega)]
  · rw [Array.getElem?_setIfInBounds_ne (by omega), Array.getElem?_setIfInBounds_self_of_lt (by rw [Array.size_setIfInBounds]; omega)]
  · exact Array.getElem?_setIfInBounds_self_of_lt (by rw [Array.size_setIfInBounds, Array.size_setIfInBounds]; omega)
  · rw [Array.getElem?_setIfInBounds_ne (by omega), Array.getElem?_setIfInBounds_ne (by omega), Array.getElem?_setIfInBounds_ne (by omega)]
theorem put1 {w0 wr w2 : World} {b o : Nat} {cs : Array Value} {v : Value} (hbk : w2.heap[b]? = some (.cells cs 28 (0, 0))) (hs : o < cs.size) (hK : Kept wr w2 (fun q => q = b)) (hB : Below w0.heap.size w0 w2) (hge : w0.heap.size ≤ b) :
    ∃ cs3, (w2.setCell ⟨b, o, none⟩ v).heap[b]? = some (.cells cs3 28 (0, 0)) ∧ cs3.size = cs.size ∧ cs3[o]? = some v ∧ (∀ j, j ≠ o → cs3[j]? = cs[j]?) ∧ Kept wr (w2.setCell ⟨b, o, none⟩ v) (fun q => q = b) ∧ Below w0.heap.size w0 (w2.setCell ⟨b, o, none⟩ v) :=
  ⟨_, blk_set hbk o v, by simp, Array.getElem?_setIfInBounds_self_of_lt hs, fun j hj => Array.getElem?_setIfInBounds_ne (by omega), hK.setCell (p := ⟨b, o, none⟩) (.inl rfl) v, Below.setCell (p := ⟨b, o, none⟩) hB hge v⟩

abbrev MarkC (d : Nat) : Prop := ∀ (w0 w : World) (A : Option Addr) (c : Nat) (xs : List S28) (fp : List Nat) (k : Int), VRow d w A xs fp → fp.Nodup → xs.length ≤ c → 0 ≤ k → k + (cnt d xs : Nat) ≤ 1099511627776 →
    Below w0.heap.size w0 w → (∀ b ∈ fp, w0.heap.size ≤ b) →
    Calls Tryd.prog 71 #[.slice A xs.length c, .int .i64 k] w fun e w' =>
      e = .returned (.int .i64 (k + (cnt d xs : Nat))) ∧ (∃ xs', VRow d w' A xs' fp ∧ xs'.length = xs.length ∧ cnt d xs' = cnt d xs ∧ Marks d xs' k) ∧ Below w0.heap.size w0 w' ∧ Kept w w' (fun b => b ∈ fp)

set_option maxHeartbeats 1000000 in
theorem markValueS_succ (d : Nat) (w0 w : World) (A : Option Addr) (c : Nat) (xs : List S28) (fp : List Nat) (k : Int) (ih : 0 < xs.length → MarkC d) (hr : VRow (d + 1) w A xs fp) (hnd : fp.Nodup) (hc : xs.length ≤ c) (h0 : 0 ≤ k) (h1 : k + (cnt (d + 1) xs : Nat) ≤ 1099511627776)
    (hB : Below w0.heap.size w0 w) (hfp : ∀ b ∈ fp, w0.heap.size ≤ b) :
    Calls Tryd.prog 71 #[.slice A xs.length c, .int .i64 k] w fun e w' =>
      e = .returned (.int .i64 (k + (cnt (d + 1) xs : Nat))) ∧ (∃ xs', VRow (d + 1) w' A xs' fp ∧ xs'.length = xs.length ∧ cnt (d + 1) xs' = cnt (d + 1) xs ∧ Marks (d + 1) xs' k) ∧ Below w0.heap.size w0 w' ∧ Kept w w' (fun b => b ∈ fp) := by
  have hcs : ((xs.map (cntI (cnt d))).sum : Nat) = cnt (d + 1) xs := rfl
  have H1 := Aside0.mk h1
  clear h1
  go_enter Tryd.func71, Tryd.ntmps71
  go_wp2
  go_loopg [1, 5] xs.length (fun kq v1 v5 w' => ∃ (x1 x5 : Int) (cur : List S28), v1 = .int .i64 x1 ∧ v5 = .int .i64 x5 ∧ Aside0 (x1 = k + (((xs.map (cntI (cnt d))).take x5.toNat).sum : Nat)) ∧ Aside0 (0 ≤ x5 ∧ x5 + kq = xs.length) ∧ Aside0 (VRow (d + 1) w' A cur fp) ∧ Aside0 (cur.map (cntI (cnt d)) = xs.map (cntI (cnt d))) ∧
    Aside0 (∀ (j : Nat) (x : S28), (j : Int) < x5 → cur[j]? = some x → MItem (Marks d) (cnt d) x (k + (((xs.map (cntI (cnt d))).take j).sum : Nat))) ∧ Aside0 (Below w0.heap.size w0 w') ∧ Aside0 (Kept w w' (fun b => b ∈ fp)))
  case atStart => exact ⟨k, 0, xs, rfl, rfl, ⟨by simp⟩, ⟨by omega⟩, ⟨hr⟩, ⟨rfl⟩, ⟨fun j s hj _ => by omega⟩, ⟨hB⟩, ⟨Kept.refl _ _⟩⟩
  case round =>
    obtain ⟨x1, x5, cur, rfl, rfl, hx, hk, hn, hl, hm, hb, hkk⟩ := hrel
    have hlen : cur.length = xs.length := by simpa using congrArg List.length hl.out
    cases gk with
    | zero =>
      have hd : decide (x5 < (xs.length : Int)) = false := decide_eq_false (by have := hk.out; omega)
      go_wp2
      go_ret
      have hx5 : x1 = k + (cnt (d + 1) xs : Nat) := by
        have h2 := hx.out
        rw [List.take_of_length_le (by rw [List.length_map]; have := hk.out; omega)] at h2
        exact h2
      refine ⟨by rw [← hx5]; rfl, ⟨cur, hn.out, hlen, congrArg List.sum hl.out, fun j x hj => ?_⟩, hb.out, hkk.out⟩
      rw [hl.out]
      exact hm.out j x (by have := (List.getElem?_eq_some_iff.1 hj).1; have := hk.out; omega) hj
    | succ k1 =>
      have HK := Aside0.mk hk.out
      clear hk
      have hd : decide (x5 < (xs.length : Int)) = true := decide_eq_true (by have := HK.out; omega)
      have hp : (0 ≤ x5) = True := eq_true (by have := HK.out; omega)
      have hq : (x5 < (xs.length : Int)) = True := eq_true (by have := HK.out; omega)
      have hi : x5.toNat < cur.length := by have := HK.out; omega
      rcases hn.out with ⟨h, _⟩ | ⟨b, cs, fps, rfl, hfe, hbk, hcl, hfl, hit⟩
      · rw [h] at hi; simp at hi
      have hcx := List.getElem?_eq_getElem hi
      have hfx := List.getElem?_eq_getElem (show x5.toNat < fps.length by omega)
      generalize cur[x5.toNat] = x at hcx
      generalize fps[x5.toNat]'(show x5.toNat < fps.length by omega) = f at hfx
      obtain ⟨A4, c4, A5, c5, f4, f5, rfl, g0, g1, g2, g3, g4, g5, l4, l5, r4, r5⟩ := VItem.cells hbk (hit x5.toNat x f hcx hfx)
      have z0 := blk_frozen hbk (x5.toNat * 6)
      have z1 := blk_frozen hbk (x5.toNat * 6 + 1)
      have z2 := blk_frozen hbk (x5.toNat * 6 + 2)
      have hblt := blk_lt hbk
      have hsz : x5.toNat * 6 + 6 ≤ cs.size := by omega
      rw [hfe] at hnd
      have hbn : b ∉ fps.flatten := (List.nodup_cons.1 hnd).1
      have hndf : fps.flatten.Nodup := (List.nodup_cons.1 hnd).2
      have hfm : f4 ++ f5 ∈ fps := List.mem_of_getElem? hfx
      have hnd45 : (f4 ++ f5).Nodup := (List.pairwise_flatten.1 hndf).1 _ hfm
      have hin4 : ∀ q ∈ f4, q ∈ fps.flatten := fun q hq => List.mem_flatten.2 ⟨_, hfm, List.mem_append_left _ hq⟩
      have hin5 : ∀ q ∈ f5, q ∈ fps.flatten := fun q hq => List.mem_flatten.2 ⟨_, hfm, List.mem_append_right _ hq⟩
      have hge : ∀ q ∈ fps.flatten, w0.heap.size ≤ q := fun q hq => hfp q (by rw [hfe]; exact List.mem_cons_of_mem _ hq)
      have hgeb : w0.heap.size ≤ b := hfp b (by rw [hfe]; exact List.mem_cons_self)
      have h45 : ∀ q ∈ f5, q ∉ f4 := fun q h5 h4 => (List.nodup_append.1 hnd45).2.2 q h4 q h5 rfl
      have hci : (xs.map (cntI (cnt d)))[x5.toNat]? = some (cntI (cnt d) x) := by rw [← hl.out, List.getElem?_map, hcx]; rfl
      have hstep := take_sum_succ _ _ _ hci
      have hle := take_sum_le (xs.map (cntI (cnt d))) (x5.toNat + 1)
      have hcI : cntI (cnt d) x = 4 + cnt d x.f3 + x.f4.length := rfl
      have hx1 := hx.out
      have h1' := H1.out
      have e1 : wrap64 (x1 + 1) = x1 + 1 := w64' (by omega) (by omega)
      have e2 : wrap64 (x1 + 1 + 1) = x1 + 2 := by rw [w64' (by omega) (by omega)]; omega
      have e3 : wrap64 (x1 + 2 + 1) = x1 + 3 := by rw [w64' (by omega) (by omega)]; omega
      have e4 : wrap64 (x1 + 3 + 1) = x1 + 4 := by rw [w64' (by omega) (by omega)]; omega
      have e0 : Aside0 (0 ≤ x1 ∧ x1 + cnt d x.f3 + x.f4.length + 4 ≤ 1099511627776) := ⟨by omega⟩
      have g4s := Aside0.mk g4
      clear hx1 h1' hcI hle
      go_wp2_with (first
        | (go_at_call 74
           refine (markText_calls (x1 + 3) _ (by have := e0.out; omega)).mono ?_
           rintro e' w2 ⟨rfl, hb2⟩
           obtain ⟨cs3, hk3, s3, p0, p1, p2, o3, hK2, hB2⟩ := put3 hbk hb2 hsz hb.out hgeb
           have g3' : w2.cell? ⟨b, x5.toNat * 6 + 3, none⟩ = some (.string x.f2) := (blk_cell hk3 _).trans ((o3 _ (by omega)).trans ((blk_cell hbk _).symm.trans g3))
           have g4' : w2.cell? ⟨b, x5.toNat * 6 + 4, none⟩ = some (.slice A4 x.f3.length c4) := (blk_cell hk3 _).trans ((o3 _ (by omega)).trans ((blk_cell hbk _).symm.trans g4))
           have z3' := blk_frozen hk3 (x5.toNat * 6 + 3)
           clear g0 g1 g2 g3 g4 z0 z1 z2)
        | (go_at_call 71
           obtain ⟨cs4, hk4, s4, p3, o4, hK4, hB4⟩ := put1 (v := .string (MT (x1 + 3))) hk3 (show x5.toNat * 6 + 3 < cs3.size by omega) hK2 hB2 hgeb
           have hr4 := VRow.same d r4 (Same.kept (VRow.lt d r4) hK4 (fun q hq e => hbn (by rw [← e]; exact hin4 q hq)))
           have hr5 := r5.same (Same.kept r5.lt hK4 (fun q hq e => hbn (by rw [← e]; exact hin5 q hq)))
           refine (ih (by omega) w0 _ A4 c4 x.f3 f4 (x1 + 4) hr4 (List.nodup_append.1 hnd45).1 l4 (by have := e0.out; omega) (by have := e0.out; omega) hB4 (fun q hq => hge q (hin4 q hq))).mono ?_
           rintro e' w5 ⟨rfl, ⟨y3, hy, hyl, hyc, hym⟩, hB5, hK5⟩
           have hk5 := (hK5.2 b (blk_lt hk4) (fun h => hbn (hin4 b h))).trans hk4
           have hr5' := hr5.same (Same.kept hr5.lt hK5 h45)
           have g5' : w5.cell? ⟨b, x5.toNat * 6 + 5, none⟩ = some (.slice A5 x.f4.length c5) := (blk_cell hk5 _).trans ((o4 _ (by omega)).trans ((o3 _ (by omega)).trans ((blk_cell hbk _).symm.trans g5)))
           have e5 : wrap64 (x1 + 4 + (cnt d x.f3 : Nat)) = x1 + 4 + (cnt d x.f3 : Nat) := w64' (by have := e0.out; omega) (by have := e0.out; omega)
           clear g3' g4' z3')
        | (go_at_call 32
           refine (markStringS_calls w0 _ A5 c5 x.f4 f5 (x1 + 4 + (cnt d x.f3 : Nat)) hr5' l5 (by have := e0.out; omega) (by have := e0.out; omega) hB5 (fun q hq => hge q (hin5 q hq))).mono ?_
           rintro e' w6 ⟨rfl, ⟨y4, hz, hzl, hzm⟩, hB6, hK6⟩
           have hk6 := (hK6.2 b (blk_lt hk5) (fun h => hbn (hin5 b h))).trans hk5))
      go_roundg k1
      case measure => omega
      case rel =>
        have hx1 := hx.out
        have h1' := H1.out
        have hHK := HK.out
        have hx0 := e0.out
        have hln : xs.length ≤ cnt (d + 1) xs := len_le_cnt (cnt d) xs
        have e6 : wrap64 (x5 + 1) = x5 + 1 := w64' (by omega) (by omega)
        have e7 : (x5 + 1).toNat = x5.toNat + 1 := by omega
        have hK6' : Kept wr w6 (fun q => q = b ∨ q ∈ f4 ++ f5) := ((hK4.mono (fun q hq => .inl hq)).then_ hK5 (fun q hq => .inl (.inr (List.mem_append_left _ hq)))).then_ hK6 (fun q hq => .inl (.inr (List.mem_append_right _ hq)))
        have hy6 := VRow.same d hy (Same.kept (VRow.lt d hy) hK6 (fun q hq h => h45 q h hq))
        have hmp : (cur.set x5.toNat ⟨x1, ⟨x1 + 1, x1 + 2⟩, MT (x1 + 3), y3, y4⟩).map (cntI (cnt d)) = cur.map (cntI (cnt d)) := by
          rw [List.map_set]
          have hcq : cntI (cnt d) (⟨x1, ⟨x1 + 1, x1 + 2⟩, MT (x1 + 3), y3, y4⟩ : S28) = cntI (cnt d) x := by show 4 + cnt d y3 + y4.length = 4 + cnt d x.f3 + x.f4.length; rw [hyc, hzl]
          rw [hcq]
          apply List.ext_getElem?
          intro j
          by_cases hj : j = x5.toNat
          · subst hj
            rw [List.getElem?_set_self (by rw [List.length_map]; exact hi), List.getElem?_map, hcx]; rfl
          · rw [List.getElem?_set_ne (fun e => hj e.symm)]
        refine ⟨x1 + 4 + (cnt d x.f3 : Nat) + (x.f4.length : Nat), wrap64 (x5 + 1), cur.set x5.toNat ⟨x1, ⟨x1 + 1, x1 + 2⟩, MT (x1 + 3), y3, y4⟩, rfl, rfl, ⟨?_⟩, ⟨by rw [e6]; omega⟩, ⟨?_⟩, ⟨hmp.trans hl.out⟩, ⟨?_⟩, ⟨hB6⟩,
          ⟨hkk.out.then_ hK6' (fun q hq => .inl (by rw [hfe]; exact hq.elim (fun e => by rw [e]; exact List.mem_cons_self) (fun h => List.mem_cons_of_mem _ (List.mem_flatten.2 ⟨_, hfm, h⟩))))⟩⟩
        · rw [e6, e7, hstep]
          show _ = k + ((_ + (4 + cnt d x.f3 + x.f4.length) : Nat) : Int)
          omega
        · refine .inr ⟨b, cs4, fps, rfl, hfe, hk6, by rw [List.length_set]; omega, VItems.put (fun A xs fp => VRow.same d) ⟨hfl, hit⟩ hfx (fun j hj => ?_) ?_ (fun j f' hj hf' => ?_)⟩
          · exact (o4 j (by omega)).trans (o3 j (by omega))
          · exact ⟨A4, c4, A5, c5, f4, f5, rfl, (o4 _ (by omega)).trans p0, (o4 _ (by omega)).trans p1, (o4 _ (by omega)).trans p2, p3,
              (by rw [hyl]; exact (o4 _ (by omega)).trans ((o3 _ (by omega)).trans ((blk_cell hbk _).symm.trans g4s.out))), (by rw [hzl]; exact (o4 _ (by omega)).trans ((o3 _ (by omega)).trans ((blk_cell hbk _).symm.trans g5))), by rw [hyl]; exact l4, by rw [hzl]; exact l5, hy6, hz⟩
          · refine Same.kept (fun q hq => ?_) hK6' (fun q hq h => ?_)
            · exact VRow.lt (d + 1) hn.out q (by rw [hfe]; exact List.mem_cons_of_mem _ (List.mem_flatten.2 ⟨f', List.mem_of_getElem? hf', hq⟩))
            · rcases h with rfl | h
              · exact hbn (List.mem_flatten.2 ⟨f', List.mem_of_getElem? hf', hq⟩)
              · exact apart_of_nodup hndf hj hfx hf' q hq h
        · intro j x' hj hx'
          rw [e6] at hj
          by_cases hji : j = x5.toNat
          · subst hji
            rw [List.getElem?_set_self hi] at hx'
            rw [← Option.some.inj hx', ← hx1]
            exact ⟨rfl, rfl, rfl, rfl, hym, by rw [hyc]; exact hzm⟩
          · rw [List.getElem?_set_ne (fun e => hji e.symm)] at hx'
            exact hm.out j x' (by omega) hx'

theorem markValueS_calls : ∀ d, MarkC d
  | d + 1 => fun w0 w A c xs fp k hr hnd hc h0 h1 hB hfp => markValueS_succ d w0 w A c xs fp k (fun _ => markValueS_calls d) hr hnd hc h0 h1 hB hfp
  | 0 => by
    intro w0 w A c xs fp k hr hnd hc h0 h1 hB hfp
    have h := markValueS_succ 0 w0 w A c xs fp k (fun h => by rw [hr.1] at h; simp at h) (.inl hr) hnd hc h0 (by rw [hr.1]; simpa [cnt] using h1) hB hfp
    refine h.mono ?_
    rintro e w' ⟨rfl, ⟨xs', h2, h3, h4, h5⟩, h6, h7⟩
    have hx : xs' = [] := List.length_eq_zero_iff.1 (by rw [h3, hr.1]; rfl)
    exact ⟨by rw [hr.1]; rfl, ⟨xs', ⟨hx, hr.2⟩, h3, rfl, trivial⟩, h6, h7⟩

theorem markValue_calls (d : Nat) (w0 w : World) (n m e : Int) (s : ByteArray) (A4 : Option Addr) (c4 : Nat) (xs : List S28) (A5 : Option Addr) (c5 : Nat) (ns : List ByteArray) (f4 f5 : List Nat) (k : Int) (h4 : VRow d w A4 xs f4) (h5 : NRow w A5 ns f5)
    (hnd : (f4 ++ f5).Nodup) (l4 : xs.length ≤ c4) (l5 : ns.length ≤ c5) (h0 : 0 ≤ k) (h1 : k + (cnt d xs : Nat) + ns.length ≤ 1099511627776) (hB : Below w0.heap.size w0 w) (hfp : ∀ b ∈ f4 ++ f5, w0.heap.size ≤ b) :
    Calls Tryd.prog 27 #[.agg #[.int .i64 n, .int .i64 m, .int .i64 e, .string s, .slice A4 xs.length c4, .slice A5 ns.length c5], .int .i64 k] w fun e w' =>
      e = .returned (.int .i64 (k + (cnt d xs : Nat) + ns.length)) ∧ (∃ xs' ns', VRow d w' A4 xs' f4 ∧ NRow w' A5 ns' f5 ∧ xs'.length = xs.length ∧ cnt d xs' = cnt d xs ∧ ns'.length = ns.length ∧ Marks d xs' k ∧ NMarks ns' (k + (cnt d xs : Nat))) ∧
        Below w0.heap.size w0 w' ∧ Kept w w' (fun b => b ∈ f4 ++ f5) := by
  have H1 := Aside0.mk h1
  clear h1
  have h45 : ∀ q ∈ f5, q ∉ f4 := fun q h5 h4 => (List.nodup_append.1 hnd).2.2 q h4 q h5 rfl
  go_enter Tryd.func27, Tryd.ntmps27
  go_wp2_with (first
    | (go_at_call 71
       have hb1 := below_alloc (Below.refl w.heap.size w) (.cells #[.int .i64 n, .int .i64 m, .int .i64 e, .string s, .slice A4 xs.length c4, .slice A5 ns.length c5] 28)
       have bx := heap_alloc_new w (.cells #[.int .i64 n, .int .i64 m, .int .i64 e, .string s, .slice A4 xs.length c4, .slice A5 ns.length c5] 28)
       refine (markValueS_calls d w0 _ A4 c4 xs f4 k (VRow.same d h4 (Same.below (VRow.lt d h4) hb1)) (List.nodup_append.1 hnd).1 l4 h0 (by have := H1.out; omega) (below_step hB hb1) (fun q hq => hfp q (List.mem_append_left _ hq))).mono ?_
       rintro e' w2 ⟨rfl, ⟨xs', r4, rl, rc, rm⟩, hB2, hK2⟩
       have bx2 := (hK2.2 w.heap.size (blk_lt bx) (fun hq => absurd (VRow.lt d h4 _ hq) (Nat.lt_irrefl _))).trans bx
       have g5 : w2.cell? ⟨w.heap.size, 5, none⟩ = some (.slice A5 ns.length c5) := blk_cell bx2 5
       have hn2 := (h5.same (Same.below h5.lt hb1)).same (Same.kept (h5.same (Same.below h5.lt hb1)).lt hK2 h45))
    | (go_at_call 32
       refine (markStringS_calls w0 _ A5 c5 ns f5 (k + (cnt d xs : Nat)) hn2 l5 (by omega) (by have := H1.out; omega) hB2 (fun q hq => hfp q (List.mem_append_right _ hq))).mono ?_
       rintro e' w3 ⟨rfl, ⟨ns', r5, rl5, rm5⟩, hB3, hK3⟩))
  go_ret
  refine ⟨rfl, ⟨xs', ns', VRow.same d r4 (Same.kept (VRow.lt d r4) hK3 (fun q hq h => h45 q h hq)), r5, rl, rc, rl5, rm, rm5⟩, hB3, ?_⟩
  exact (((Kept.of_below hb1 _).then_ hK2 (fun q hq => .inl (List.mem_append_left _ hq))).then_ hK3 (fun q hq => .inl (List.mem_append_right _ hq)))
end Go.Proofs.YtebcepbamlokcaaDoor.Q
namespace Go.Proofs.YtebcepbamlokcaaDoor.Q
open Go.RowKit Go.Proofs.YtebcepbamlokcaaDoorW.PrintWords Go.Proofs.YtebcepbamlokcaaDoorW.PrintLast
set_option linter.unusedVariables false
set_option linter.unusedSimpArgs false

set_option maxHeartbeats 1000000 in
set_option maxRecDepth 100000 in
theorem heldStringS_calls (w : World) (A : Option Addr) (c : Nat) (ns : List ByteArray) (fp : List Nat) (k : Int) (hr : NRow w A ns fp) (hc : ns.length ≤ c) (h0 : 0 ≤ k) (h1 : k + ns.length ≤ 1099511627776) (hm : NMarks ns k) :
    Calls Tryd.prog 73 #[.slice A ns.length c, .int .i64 k] w fun e w' => e = .returned (.int .i64 (k + ns.length)) ∧ Below w.heap.size w w' := by
  go_enter Tryd.func73, Tryd.ntmps73
  go_wp2
  go_loopg [1, 5] ns.length (fun kq v1 v5 w' => ∃ (x1 x5 : Int), v1 = .int .i64 x1 ∧ v5 = .int .i64 x5 ∧ Aside0 (x1 = k + x5 ∧ 0 ≤ x5 ∧ x5 + kq = ns.length) ∧ Aside0 (Below w.heap.size w w'))
  case atStart => exact ⟨k, 0, rfl, rfl, ⟨by omega⟩, ⟨Below.refl _ _⟩⟩
  case round =>
    obtain ⟨x1, x5, rfl, rfl, hk, hb⟩ := hrel
    cases gk with
    | zero =>
      have hd : decide (x5 < (ns.length : Int)) = false := decide_eq_false (by have := hk.out; omega)
      go_wp2
      go_ret
      have hx5 : x1 = k + ns.length := by have := hk.out; omega
      exact ⟨by rw [← hx5]; rfl, hb.out⟩
    | succ k1 =>
      have HX : Aside0 (0 ≤ x1 ∧ x1 ≤ 1099511627775) := ⟨by have := hk.out; omega⟩
      have hd : decide (x5 < (ns.length : Int)) = true := decide_eq_true (by have := hk.out; omega)
      have hp : (0 ≤ x5) = True := eq_true (by have := hk.out; omega)
      have hq : (x5 < (ns.length : Int)) = True := eq_true (by have := hk.out; omega)
      obtain ⟨b, rfl, hfb, hbl, hcell, -⟩ := hr.cell x5 (by have := hk.out; omega) (by have := hk.out; omega)
      have hrd : rdOf ByteArray.empty ns x5 = MT x1 := by
        have hk' := hk.out
        have hil : x5.toNat < ns.length := by omega
        have := hm x5.toNat ns[x5.toNat] (List.getElem?_eq_getElem hil)
        unfold rdOf
        rw [List.getD_eq_getElem?_getD, List.getElem?_eq_getElem hil]
        show ns[x5.toNat] = _
        rw [this]; congr 1; omega
      rw [hrd] at hcell
      replace hcell : wr.drew.cell? ⟨b, x5.toNat, none⟩ = some (.string (MT x1)) := (hb.out.cell hbl).trans hcell
      have hB7 := below_drew1 hb.out
      have HK := Aside0.mk hk.out
      clear hk
      go_wp2
      refine start_ (n := 7) (S := fun w' => w'.cell? ⟨b, x5.toNat, none⟩ = some (.string (MT x1))) (ds := []) #[false, false, false, false, false, false, false] (by kernel_rfl) rfl rfl (hcell) (fun hHeld => ?_)
      generalize wr.drew = w7 at hB7 hcell hHeld ⊢
      refine pure_ (i := 0) (N := some 12) (v := ?_) (a' := ?_) #[true, false, false, false, false, false, false] rfl rfl (by kernel_rfl) (fun _ _ _ h => h) (Or.inl ⟨by rfl, ?_⟩) ?_ ?_
      rotate_left
      · intro w'
        go_simp; with_reducible rfl
      rotate_left
      · simp only [Act.put, List.setIfInBounds_toArray, List.set_cons_zero, List.set_cons_succ, i64_w, i32_w]; rfl
      refine pure_ (i := 1) (N := some 13) (v := ?_) (a' := ?_) #[true, true, false, false, false, false, false] rfl rfl (by kernel_rfl) (fun _ _ _ h => h) (Or.inl ⟨by rfl, ?_⟩) ?_ ?_
      rotate_left
      · intro w'
        go_simp; with_reducible rfl
      rotate_left
      · simp only [Act.put, List.setIfInBounds_toArray, List.set_cons_zero, List.set_cons_succ, i64_w, i32_w]; rfl
      refine pure_ (i := 2) (N := some 14) (v := ?_) (a' := ?_) #[true, true, true, false, false, false, false] rfl rfl (by kernel_rfl) (fun _ _ _ h => h) (Or.inl ⟨by rfl, ?_⟩) ?_ ?_
      rotate_left
      · intro w'
        go_simp; with_reducible rfl
      rotate_left
      · simp only [Act.put, List.setIfInBounds_toArray, List.set_cons_zero, List.set_cons_succ, i64_w, i32_w]; rfl
      refine pure_ (i := 4) (N := some 16) (v := ?_) (a' := ?_) #[true, true, true, false, true, false, false] rfl rfl (by kernel_rfl) (fun _ _ _ h => h) (Or.inl ⟨by rfl, ?_⟩) ?_ ?_
      rotate_left
      · intro w'
        go_simp; with_reducible rfl
      rotate_left
      · simp only [Act.put, List.setIfInBounds_toArray, List.set_cons_zero, List.set_cons_succ, i64_w, i32_w]; rfl
      refine take_ (i := 3) (N := some 15) (v := ?_) (a' := ?_) #[true, true, true, true, true, false, false] rfl rfl (by kernel_rfl) (fun _ _ _ h => h) (Or.inl ⟨by rfl, ?_⟩) hHeld ?_ ?_
      rotate_left
      · intro w' s0
        go_simp; with_reducible rfl
      rotate_left
      · simp only [Act.put, List.setIfInBounds_toArray, List.set_cons_zero, List.set_cons_succ, i64_w, i32_w]; rfl
      refine one_ (i := 5) (N := some 17) #[true, true, true, true, true, true, false] rfl rfl (by kernel_rfl) (by decide) (fun K hK => ?_)
      refine goes_ Tryd.func74 (by kernel_rfl) rfl #[.int .i64 x1] (by rfl) rfl rfl (by (try simp only [List.map_toArray, List.map_cons, List.map_nil]); first | done | rfl) ?_
      with_reducible refine (markText_calls x1 _ (by have := HX.out; omega)).mono ?_
      rintro e w8 ⟨rfl, hb8⟩
      refine ⟨_, rfl, hK.out _ _ ((hb8.cell (World.block_lt_of_cell? w7 _ hcell)).trans hcell) (fun hHeld => ?_)⟩
      clear hK K
      refine norm_ (a' := ?_) ?_ ?_
      rotate_left
      · show Act.put _ (some 17) _ = _
        simp only [Act.put, List.setIfInBounds_toArray, List.set_cons_zero, List.set_cons_succ, i64_w, i32_w]; rfl
      refine pure_ (i := 6) (N := some 18) (v := ?_) (a' := ?_) #[true, true, true, true, true, true, true] rfl rfl (by kernel_rfl) (fun _ _ _ h => h) (Or.inl ⟨by rfl, ?_⟩) ?_ ?_
      rotate_left
      · intro w'
        go_simp; with_reducible rfl
      rotate_left
      · simp only [Act.put, List.setIfInBounds_toArray, List.set_cons_zero, List.set_cons_succ, i64_w, i32_w]; rfl
      refine done_ (by kernel_rfl) ?_
      go_wp2
      go_roundg k1
      case measure => omega
      case rel =>
        have h2 := HK.out
        exact ⟨wrap64 (x1 + 1), wrap64 (x5 + 1), rfl, rfl, ⟨by rw [w64' (by omega) (by omega), w64' (by omega) (by omega)]; omega⟩, ⟨below_step hB7 hb8⟩⟩

abbrev HeldC (d : Nat) : Prop := ∀ (w : World) (A : Option Addr) (c : Nat) (xs : List S28) (fp : List Nat) (k : Int), VRow d w A xs fp → xs.length ≤ c → 0 ≤ k → k + (cnt d xs : Nat) ≤ 1099511627776 → Marks d xs k →
    Calls Tryd.prog 72 #[.slice A xs.length c, .int .i64 k] w fun e w' => e = .returned (.int .i64 (k + (cnt d xs : Nat))) ∧ Below w.heap.size w w'

set_option maxHeartbeats 2000000 in
set_option maxRecDepth 100000 in
theorem heldValueS_succ (d : Nat) (w : World) (A : Option Addr) (c : Nat) (xs : List S28) (fp : List Nat) (k : Int) (ih : 0 < xs.length → HeldC d) (hr : VRow (d + 1) w A xs fp) (hc : xs.length ≤ c) (h0 : 0 ≤ k) (h1 : k + (cnt (d + 1) xs : Nat) ≤ 1099511627776) (hm : Marks (d + 1) xs k) :
    Calls Tryd.prog 72 #[.slice A xs.length c, .int .i64 k] w fun e w' => e = .returned (.int .i64 (k + (cnt (d + 1) xs : Nat))) ∧ Below w.heap.size w w' := by
  have hcs : ((xs.map (cntI (cnt d))).sum : Nat) = cnt (d + 1) xs := rfl
  have hln : xs.length ≤ cnt (d + 1) xs := len_le_cnt (cnt d) xs
  have H1 := Aside0.mk h1
  have HM := Aside0.mk hm
  clear h1 hm
  go_enter Tryd.func72, Tryd.ntmps72
  go_wp2
  go_loopg [1, 5] xs.length (fun kq v1 v5 w' => ∃ (x1 x5 : Int), v1 = .int .i64 x1 ∧ v5 = .int .i64 x5 ∧ Aside0 (x1 = k + (((xs.map (cntI (cnt d))).take x5.toNat).sum : Nat) ∧ 0 ≤ x5 ∧ x5 + kq = xs.length) ∧ Aside0 (Below w.heap.size w w'))
  case atStart => exact ⟨k, 0, rfl, rfl, ⟨by simp⟩, ⟨Below.refl _ _⟩⟩
  case round =>
    obtain ⟨x1, x5, rfl, rfl, hk, hb⟩ := hrel
    cases gk with
    | zero =>
      have hd : decide (x5 < (xs.length : Int)) = false := decide_eq_false (by have := hk.out; omega)
      go_wp2
      go_ret
      have hx5 : x1 = k + (cnt (d + 1) xs : Nat) := by
        have h2 := hk.out
        rw [List.take_of_length_le (by rw [List.length_map]; omega)] at h2
        exact h2.1
      exact ⟨by rw [← hx5]; rfl, hb.out⟩
    | succ k1 =>
      have HK := Aside0.mk hk.out
      clear hk
      have hd : decide (x5 < (xs.length : Int)) = true := decide_eq_true (by have := HK.out; omega)
      have hp : (0 ≤ x5) = True := eq_true (by have := HK.out; omega)
      have hq : (x5 < (xs.length : Int)) = True := eq_true (by have := HK.out; omega)
      have hi : x5.toNat < xs.length := by have := HK.out; omega
      rcases VRow.same (d + 1) hr (Same.below (VRow.lt (d + 1) hr) hb.out) with ⟨h, _⟩ | ⟨b, cs, fps, rfl, hfe, hbk, hcl, hfl, hit⟩
      · rw [h] at hi; simp at hi
      have hcx := List.getElem?_eq_getElem hi
      have hfx := List.getElem?_eq_getElem (show x5.toNat < fps.length by omega)
      generalize xs[x5.toNat] = x at hcx
      generalize fps[x5.toNat]'(show x5.toNat < fps.length by omega) = f at hfx
      obtain ⟨A4, c4, A5, c5, f4, f5, rfl, g0, g1, g2, g3, g4, g5, l4, l5, r4, r5⟩ := VItem.cells hbk (hit x5.toNat x f hcx hfx)
      have hblt := blk_lt hbk
      have hci : (xs.map (cntI (cnt d)))[x5.toNat]? = some (cntI (cnt d) x) := by rw [List.getElem?_map, hcx]; rfl
      have hstep := take_sum_succ _ _ _ hci
      have hle := take_sum_le (xs.map (cntI (cnt d))) (x5.toNat + 1)
      have hcI : cntI (cnt d) x = 4 + cnt d x.f3 + x.f4.length := rfl
      obtain ⟨m0, m1, m2, m3, m4, m5⟩ := HM.out x5.toNat x hcx
      rw [← HK.out.1] at m0 m1 m2 m3 m4 m5
      rw [m0] at g0
      rw [m1] at g1
      rw [m2] at g2
      rw [m3] at g3
      have hx1 := HK.out.1
      have h1' := H1.out
      have e1 : wrap64 (x1 + 1) = x1 + 1 := w64' (by omega) (by omega)
      have e2 : wrap64 (x1 + 1 + 1) = x1 + 2 := by rw [w64' (by omega) (by omega)]; omega
      have e3 : wrap64 (x1 + 2 + 1) = x1 + 3 := by rw [w64' (by omega) (by omega)]; omega
      have e4 : wrap64 (x1 + 3 + 1) = x1 + 4 := by rw [w64' (by omega) (by omega)]; omega
      have HX : Aside0 (0 ≤ x1 ∧ x1 + cnt d x.f3 + x.f4.length + 4 ≤ 1099511627776) := ⟨by omega⟩
      have n5 : decide (x1 + 4 + (cnt d x.f3 : Nat) < 0) = false := decide_eq_false (by omega)
      have n6 : decide (x1 + 4 + (cnt d x.f3 : Nat) + (x.f4.length : Nat) < 0) = false := decide_eq_false (by omega)
      have M4 := Aside0.mk m4
      have M5 := Aside0.mk m5
      have hB7 := below_drew1 hb.out
      have hlt7 : b < wr.drew.heap.size := hblt
      replace g3 : wr.drew.cell? ⟨b, x5.toNat * 6 + 3, none⟩ = some (.string (MT (x1 + 3))) := g3
      have hk7 : wr.drew.heap[b]? = some (.cells cs 28 (0, 0)) := hbk
      have r47 := VRow.same d (w1 := wr.drew) r4 (fun _ _ => rfl)
      have r57 := r5.same (w1 := wr.drew) (fun _ _ => rfl)
      have G4 := Aside0.mk ((blk_cell hbk _).symm.trans g4)
      have G5 := Aside0.mk ((blk_cell hbk _).symm.trans g5)
      clear hx1 h1' hcI hle m0 m1 m2 m3 m4 m5 hit
      go_wp2
      refine start_ (n := 8) (S := fun w' => w'.cell? ⟨b, x5.toNat * 6 + 3, none⟩ = some (.string (MT (x1 + 3)))) (ds := []) #[false, false, false, false, false, false, false, false] (by kernel_rfl) rfl rfl (g3) (fun hHeld => ?_)
      generalize wr.drew = w7 at hB7 g3 hlt7 hk7 r47 r57 hHeld ⊢
      refine pure_ (i := 0) (N := some 41) (v := ?_) (a' := ?_) #[true, false, false, false, false, false, false, false] rfl rfl (by kernel_rfl) (fun _ _ _ h => h) (Or.inl ⟨by rfl, ?_⟩) ?_ ?_
      rotate_left
      · intro w'
        go_simp; with_reducible rfl
      rotate_left
      · simp only [Act.put, List.setIfInBounds_toArray, List.set_cons_zero, List.set_cons_succ, i64_w, i32_w]; rfl
      refine pure_ (i := 1) (N := some 42) (v := ?_) (a' := ?_) #[true, true, false, false, false, false, false, false] rfl rfl (by kernel_rfl) (fun _ _ _ h => h) (Or.inl ⟨by rfl, ?_⟩) ?_ ?_
      rotate_left
      · intro w'
        go_simp; with_reducible rfl
      rotate_left
      · simp only [Act.put, List.setIfInBounds_toArray, List.set_cons_zero, List.set_cons_succ, i64_w, i32_w]; rfl
      refine pure_ (i := 2) (N := some 43) (v := ?_) (a' := ?_) #[true, true, true, false, false, false, false, false] rfl rfl (by kernel_rfl) (fun _ _ _ h => h) (Or.inl ⟨by rfl, ?_⟩) ?_ ?_
      rotate_left
      · intro w'
        go_simp; with_reducible rfl
      rotate_left
      · simp only [Act.put, List.setIfInBounds_toArray, List.set_cons_zero, List.set_cons_succ, i64_w, i32_w]; rfl
      refine pure_ (i := 3) (N := some 44) (v := ?_) (a' := ?_) #[true, true, true, true, false, false, false, false] rfl rfl (by kernel_rfl) (fun _ _ _ h => h) (Or.inl ⟨by rfl, ?_⟩) ?_ ?_
      rotate_left
      · intro w'
        go_simp; with_reducible rfl
      rotate_left
      · simp only [Act.put, List.setIfInBounds_toArray, List.set_cons_zero, List.set_cons_succ, i64_w, i32_w]; rfl
      refine pure_ (i := 5) (N := some 46) (v := ?_) (a' := ?_) #[true, true, true, true, false, true, false, false] rfl rfl (by kernel_rfl) (fun _ _ _ h => h) (Or.inl ⟨by rfl, ?_⟩) ?_ ?_
      rotate_left
      · intro w'
        go_simp; with_reducible rfl
      rotate_left
      · simp only [Act.put, List.setIfInBounds_toArray, List.set_cons_zero, List.set_cons_succ, i64_w, i32_w]; rfl
      refine take_ (i := 4) (N := some 45) (v := ?_) (a' := ?_) #[true, true, true, true, true, true, false, false] rfl rfl (by kernel_rfl) (fun _ _ _ h => h) (Or.inl ⟨by rfl, ?_⟩) hHeld ?_ ?_
      rotate_left
      · intro w' s0
        go_simp; with_reducible rfl
      rotate_left
      · simp only [Act.put, List.setIfInBounds_toArray, List.set_cons_zero, List.set_cons_succ, i64_w, i32_w]; rfl
      refine one_ (i := 6) (N := some 47) #[true, true, true, true, true, true, true, false] rfl rfl (by kernel_rfl) (by decide) (fun K hK => ?_)
      refine goes_ Tryd.func74 (by kernel_rfl) rfl #[.int .i64 (x1 + 3)] (by rfl) rfl rfl (by (try simp only [List.map_toArray, List.map_cons, List.map_nil]); first | done | rfl) ?_
      with_reducible refine (markText_calls (x1 + 3) _ (by have := HX.out; omega)).mono ?_
      rintro e w8 ⟨rfl, hb8⟩
      refine ⟨_, rfl, hK.out _ _ ((hb8.cell (World.block_lt_of_cell? w7 _ g3)).trans g3) (fun hHeld => ?_)⟩
      clear hK K
      refine norm_ (a' := ?_) ?_ ?_
      rotate_left
      · show Act.put _ (some 47) _ = _
        simp only [Act.put, List.setIfInBounds_toArray, List.set_cons_zero, List.set_cons_succ, i64_w, i32_w]; rfl
      refine pure_ (i := 7) (N := some 48) (v := ?_) (a' := ?_) #[true, true, true, true, true, true, true, true] rfl rfl (by kernel_rfl) (fun _ _ _ h => h) (Or.inl ⟨by rfl, ?_⟩) ?_ ?_
      rotate_left
      · intro w'
        go_simp; with_reducible rfl
      rotate_left
      · simp only [Act.put, List.setIfInBounds_toArray, List.set_cons_zero, List.set_cons_succ, i64_w, i32_w]; rfl
      refine done_ (by kernel_rfl) ?_
      have hk8 := (hb8.block b hlt7).trans hk7
      have g4' : w8.cell? ⟨b, x5.toNat * 6 + 4, none⟩ = some (.slice A4 x.f3.length c4) := (blk_cell hk8 _).trans G4.out
      clear g0 g1 g2 g3 g4
      go_wp2_with (first
        | (go_at_call 72
           refine (ih (by omega) _ A4 c4 x.f3 f4 (x1 + 4) (VRow.same d r47 (Same.below (VRow.lt d r47) hb8)) l4 (by have := HX.out; omega) (by have := HX.out; omega) M4.out).mono ?_
           rintro e' w5 ⟨rfl, hb5⟩
           have hk5 := (hb5.block b (blk_lt hk8)).trans hk8
           have g5' : w5.cell? ⟨b, x5.toNat * 6 + 5, none⟩ = some (.slice A5 x.f4.length c5) := (blk_cell hk5 _).trans G5.out
           clear g4')
        | (go_at_call 73
           have r58 := r57.same (Same.below r57.lt hb8)
           refine (heldStringS_calls _ A5 c5 x.f4 f5 (x1 + 4 + (cnt d x.f3 : Nat)) (r58.same (Same.below r58.lt hb5)) l5 (by have := HX.out; omega) (by have := HX.out; omega) M5.out).mono ?_
           rintro e' w6 ⟨rfl, hb6⟩))
      go_roundg k1
      case measure => omega
      case rel =>
        have h2 := HK.out
        have h3 := H1.out
        have e6 : wrap64 (x5 + 1) = x5 + 1 := w64' (by omega) (by omega)
        have e7 : (x5 + 1).toNat = x5.toNat + 1 := by omega
        refine ⟨x1 + 4 + (cnt d x.f3 : Nat) + (x.f4.length : Nat), wrap64 (x5 + 1), rfl, rfl, ⟨?_, by rw [e6]; omega, by rw [e6]; omega⟩, ⟨below_step (below_step (below_step hB7 hb8) hb5) hb6⟩⟩
        rw [e6, e7, hstep]
        show _ = k + ((_ + (4 + cnt d x.f3 + x.f4.length) : Nat) : Int)
        omega

theorem heldValueS_calls : ∀ d, HeldC d
  | d + 1 => fun w A c xs fp k hr hc h0 h1 hm => heldValueS_succ d w A c xs fp k (fun _ => heldValueS_calls d) hr hc h0 h1 hm
  | 0 => by
    intro w A c xs fp k hr hc h0 h1 hm
    have h := heldValueS_succ 0 w A c xs fp k (fun h => by rw [hr.1] at h; simp at h) (.inl hr) hc h0 (by rw [hr.1]; simpa [cnt] using h1) (fun i x hx => by rw [hr.1] at hx; simp at hx)
    refine h.mono ?_
    rintro e w' ⟨rfl, h6⟩
    exact ⟨by rw [hr.1]; rfl, h6⟩

set_option maxHeartbeats 1000000 in
theorem heldValue_calls (d : Nat) (w : World) (n m e : Int) (s : ByteArray) (A4 : Option Addr) (c4 : Nat) (xs : List S28) (A5 : Option Addr) (c5 : Nat) (ns : List ByteArray) (f4 f5 : List Nat) (k : Int) (h4 : VRow d w A4 xs f4) (h5 : NRow w A5 ns f5)
    (l4 : xs.length ≤ c4) (l5 : ns.length ≤ c5) (h0 : 0 ≤ k) (h1 : k + (cnt d xs : Nat) + ns.length ≤ 1099511627776) (hm : Marks d xs k) (hm5 : NMarks ns (k + (cnt d xs : Nat))) :
    Calls Tryd.prog 28 #[.agg #[.int .i64 n, .int .i64 m, .int .i64 e, .string s, .slice A4 xs.length c4, .slice A5 ns.length c5], .int .i64 k] w fun e w' =>
      e = .returned (.int .i64 (k + (cnt d xs : Nat) + ns.length)) ∧ Below w.heap.size w w' := by
  have H1 := Aside0.mk h1
  have n5 : decide (k + (cnt d xs : Nat) < 0) = false := decide_eq_false (by omega)
  have n6 : decide (k + (cnt d xs : Nat) + (ns.length : Nat) < 0) = false := decide_eq_false (by omega)
  clear h1
  go_enter Tryd.func28, Tryd.ntmps28
  go_wp2_with (first
    | (go_at_call 72
       have hb1 := below_alloc (Below.refl w.heap.size w) (.cells #[.int .i64 n, .int .i64 m, .int .i64 e, .string s, .slice A4 xs.length c4, .slice A5 ns.length c5] 28)
       have bx := heap_alloc_new w (.cells #[.int .i64 n, .int .i64 m, .int .i64 e, .string s, .slice A4 xs.length c4, .slice A5 ns.length c5] 28)
       refine (heldValueS_calls d _ A4 c4 xs f4 k (VRow.same d h4 (Same.below (VRow.lt d h4) hb1)) l4 h0 (by have := H1.out; omega) hm).mono ?_
       rintro e' w2 ⟨rfl, hb2⟩
       have g5 : w2.cell? ⟨w.heap.size, 5, none⟩ = some (.slice A5 ns.length c5) := blk_cell ((hb2.block _ (blk_lt bx)).trans bx) 5
       have hbB := below_step hb1 hb2
       have hn2 := h5.same (Same.below h5.lt hbB))
    | (go_at_call 73
       refine (heldStringS_calls _ A5 c5 ns f5 (k + (cnt d xs : Nat)) hn2 l5 (by omega) (by have := H1.out; omega) hm5).mono ?_
       rintro e' w3 ⟨rfl, hb3⟩))
  go_ret
  exact ⟨rfl, below_step hbB hb3⟩
end Go.Proofs.YtebcepbamlokcaaDoor.Q
namespace Go.Proofs.YtebcepbamlokcaaDoor.Q
open Go.RowKit Go.Proofs.YtebcepbamlokcaaDoorW.PrintWords Go.Proofs.YtebcepbamlokcaaDoorW.PrintLast
set_option linter.unusedVariables false
set_option linter.unusedSimpArgs false

theorem gateI_ {P : Program} {ops : Array Oper} {Q : Exit → Act → World → Prop} {oi : Oper} (N : Option Tmp) {a : Act} {w : World} {K : Act → World → Prop} (h : if Region.wanted oi (yielded ops a.tmps) = true then Oper.wp P oi a w K Q else K (a.put N undef) w) : if Region.wanted oi (yielded ops a.tmps) = true then Oper.wp P oi a w K Q else K (a.put N undef) w := h
theorem gateL_ {P : Program} {md : Region.Mode} {ops : Array Oper} {Q : Exit → Act → World → Prop} {S : World → Prop} {ds : List Nat} {fuel : Nat} (l : Array Bool) {a : Act} {w : World} (h : wpAnyLast P md ops Q S ds fuel l a w) : wpAnyLast P md ops Q S ds fuel l a w := h

def withT (P : S28 → ByteArray → Int) : S28 → List ByteArray → S28 → S28
 | _, [], x => x
 | v, s :: r, x => ⟨v.f0, v.f1, v.f2, v.f3.set (P v s).toNat (withT P (rd_T28 v.f3 (P v s)) r x), v.f4⟩

theorem VRow.succ : ∀ (d : Nat) {w : World} {A : Option Addr} {xs : List S28} {fp : List Nat}, VRow d w A xs fp → VRow (d + 1) w A xs fp
 | 0, _, _, _, _, h => .inl h
 | d + 1, w, A, xs, fp, h => by
  rcases h with h | ⟨b, cs, fps, hA, hfp, hb, hl, hf, hi⟩
  ·exact .inl h
  ·refine .inr ⟨b, cs, fps, hA, hfp, hb, hl, hf, fun i x f hx hff => ?_⟩
   obtain ⟨A4, c4, A5, c5, f4, f5, rfl, h0, h1, h2, h3, h4, h5, l4, l5, r4, r5⟩ := hi i x f hx hff
   exact ⟨A4, c4, A5, c5, f4, f5, rfl, h0, h1, h2, h3, h4, h5, l4, l5, VRow.succ d r4, r5⟩
theorem VRow.mono {d : Nat} {w : World} {A : Option Addr} {xs : List S28} {fp : List Nat} (h : VRow d w A xs fp) : ∀ (n : Nat), VRow (d + n) w A xs fp
 | 0 => h
 | n + 1 => VRow.succ _ (VRow.mono h n)
theorem mem_set_flat {α : Type} {q : α} {f : List α} : ∀ {fps : List (List α)} {i : Nat}, q ∈ (fps.set i f).flatten → q ∈ fps.flatten ∨ q ∈ f
 | [], _, h => .inl h
 | a :: r, 0, h => by
  rw [List.set_cons_zero, List.flatten_cons] at h
  rcases List.mem_append.1 h with h | h
  ·exact .inr h
  ·exact .inl (List.mem_append_right _ h)
 | a :: r, i + 1, h => by
  rw [List.set_cons_succ, List.flatten_cons] at h
  rcases List.mem_append.1 h with h | h
  ·exact .inl (List.mem_append_left _ h)
  ·exact (mem_set_flat h).imp (List.mem_append_right _) id
theorem nodup_set {α : Type} {f : List α} (hf : f.Nodup) : ∀ {fps : List (List α)} {i : Nat}, fps.flatten.Nodup → (∀ q ∈ f, q ∉ fps.flatten) → (fps.set i f).flatten.Nodup
 | [], _, h, _ => h
 | a :: r, 0, h, hd => by
  rw [List.set_cons_zero, List.flatten_cons]
  rw [List.flatten_cons] at h
  have h2 := List.nodup_append.1 h
  exact List.nodup_append.2 ⟨hf, h2.2.1, fun x hx y hy e => hd x hx (List.mem_append_right _ (e ▸ hy))⟩
 | a :: r, i + 1, h, hd => by
  rw [List.set_cons_succ, List.flatten_cons]
  rw [List.flatten_cons] at h
  have h2 := List.nodup_append.1 h
  refine List.nodup_append.2 ⟨h2.1, nodup_set hf h2.2.1 (fun q hq hm => hd q hq (List.mem_append_right _ hm)), fun x hx y hy e => ?_⟩
  rcases mem_set_flat hy with hy | hy
  ·exact h2.2.2 x hx y hy e
  ·exact hd y hy (List.mem_append_left _ (e ▸ hx))

theorem six_same {w : World} {g : Nat} {v0 v1 v2 v3 v4 v5 : Value} (q : Nat) (h : q ≠ g) :
  ((((((w.setCell ⟨g, 0, none⟩ v0).setCell ⟨g, 1, none⟩ v1).setCell ⟨g, 2, none⟩ v2).setCell ⟨g, 3, none⟩ v3).setCell ⟨g, 4, none⟩ v4).setCell ⟨g, 5, none⟩ v5).heap[q]? = w.heap[q]? :=
 (Below.heap_setCell _ ⟨g, 5, none⟩ v5 q h).trans ((Below.heap_setCell _ ⟨g, 4, none⟩ v4 q h).trans ((Below.heap_setCell _ ⟨g, 3, none⟩ v3 q h).trans ((Below.heap_setCell _ ⟨g, 2, none⟩ v2 q h).trans ((Below.heap_setCell _ ⟨g, 1, none⟩ v1 q h).trans (Below.heap_setCell _ ⟨g, 0, none⟩ v0 q h)))))
theorem R_six {α : Type} {dk : Kd α} {e : Nat} {w : World} {base : Nat} {ok : Nat → Prop} {u : Value} {xs : List α} {g : Nat} {v0 v1 v2 v3 v4 v5 : Value} (h : dk.R e w base ok u xs) (hg : g < base) :
  dk.R e ((((((w.setCell ⟨g, 0, none⟩ v0).setCell ⟨g, 1, none⟩ v1).setCell ⟨g, 2, none⟩ v2).setCell ⟨g, 3, none⟩ v3).setCell ⟨g, 4, none⟩ v4).setCell ⟨g, 5, none⟩ v5) base (fun _ => True) u xs :=
 Kd.R_mono (Kd.R_step (Kd.R_bound h) (fun k hk _ => six_same k (by have := hk.2.1; omega))) (fun _ _ => trivial)
theorem VItems.swap {R : World → Option Addr → List S28 → List Nat → Prop} {w w1 : World} {g g' : Nat → Option Value} {xs : List S28} {fps : List (List Nat)} (hR : ∀ A xs fp, R w A xs fp → Same w w1 fp → R w1 A xs fp)
  (h : VItems R w g xs fps) {i : Nat} {x' : S28} {f : List Nat} (hg : ∀ j, (j < i * 6 ∨ i * 6 + 6 ≤ j) → g' j = g j) (hx : VItem R w1 g' (i * 6) x' f)
  (hs : ∀ f' ∈ fps, Same w w1 f') : VItems R w1 g' (xs.set i x') (fps.set i f) := by
 refine ⟨by rw [List.length_set, List.length_set]; exact h.1, fun j x f' hj hf' => ?_⟩
 by_cases hji : j = i
 ·subst hji
  have hjl : j < (xs.set j x').length := (List.getElem?_eq_some_iff.1 hj).1
  have hjf : j < (fps.set j f).length := (List.getElem?_eq_some_iff.1 hf').1
  rw [List.getElem?_set_self (by simpa using hjl)] at hj
  rw [List.getElem?_set_self (by simpa using hjf)] at hf'
  obtain rfl := Option.some.inj hj
  obtain rfl := Option.some.inj hf'
  exact hx
 ·rw [List.getElem?_set_ne (fun e => hji e.symm)] at hj hf'
  refine VItem.same hR (VItem.of (fun q hq => ?_) (h.2 j x f' hj hf')) (hs f' (List.mem_of_getElem? hf'))
  refine hg _ ?_
  rcases Nat.lt_or_gt_of_ne hji with hlt | hgt
  ·have := Nat.mul_le_mul_right 6 (Nat.succ_le_of_lt hlt); simp only [Nat.succ_mul] at this; omega
  ·have := Nat.mul_le_mul_right 6 (Nat.succ_le_of_lt hgt); simp only [Nat.succ_mul] at this; omega

theorem six_at {w : World} {b : Nat} {cs : Array Value} {t o : Nat} (h : w.heap[b]? = some (.cells cs t (0, 0))) (ho : o + 6 ≤ cs.size) (v0 v1 v2 v3 v4 v5 : Value) :
  ∃ cs', ((((((w.setCell ⟨b, o, none⟩ v0).setCell ⟨b, o + 1, none⟩ v1).setCell ⟨b, o + 2, none⟩ v2).setCell ⟨b, o + 3, none⟩ v3).setCell ⟨b, o + 4, none⟩ v4).setCell ⟨b, o + 5, none⟩ v5).heap[b]? = some (.cells cs' t (0, 0)) ∧ cs'.size = cs.size ∧
   (∀ j, (j < o ∨ o + 6 ≤ j) → cs'[j]? = cs[j]?) ∧ cs'[o]? = some v0 ∧ cs'[o + 1]? = some v1 ∧ cs'[o + 2]? = some v2 ∧ cs'[o + 3]? = some v3 ∧ cs'[o + 4]? = some v4 ∧ cs'[o + 5]? = some v5 := by
 refine ⟨_, blk_set (blk_set (blk_set (blk_set (blk_set (blk_set h o v0) (o + 1) v1) (o + 2) v2) (o + 3) v3) (o + 4) v4) (o + 5) v5, (by simp), fun j hj => ?_, ?_, ?_, ?_, ?_, ?_, ?_⟩
 ·repeat rw [Array.getElem?_setIfInBounds_ne (by omega)]
 ·repeat rw [Array.getElem?_setIfInBounds_ne (by omega)]
  rw [Array.getElem?_setIfInBounds_self_of_lt (by first | omega | (simp; omega))]
 ·repeat rw [Array.getElem?_setIfInBounds_ne (by omega)]
  rw [Array.getElem?_setIfInBounds_self_of_lt (by first | omega | (simp; omega))]
 ·repeat rw [Array.getElem?_setIfInBounds_ne (by omega)]
  rw [Array.getElem?_setIfInBounds_self_of_lt (by first | omega | (simp; omega))]
 ·repeat rw [Array.getElem?_setIfInBounds_ne (by omega)]
  rw [Array.getElem?_setIfInBounds_self_of_lt (by first | omega | (simp; omega))]
 ·repeat rw [Array.getElem?_setIfInBounds_ne (by omega)]
  rw [Array.getElem?_setIfInBounds_self_of_lt (by first | omega | (simp; omega))]
 ·rw [Array.getElem?_setIfInBounds_self_of_lt (by first | omega | (simp; omega))]
theorem six_old {w : World} {b : Nat} {cs : Array Value} {t o : Nat} (h : w.heap[b]? = some (.cells cs t (0, 0))) (ho : o + 6 ≤ cs.size) :
  ∃ v0 v1 v2 v3 v4 v5, w.cell? ⟨b, o, none⟩ = some v0 ∧ w.cell? ⟨b, o + 1, none⟩ = some v1 ∧ w.cell? ⟨b, o + 2, none⟩ = some v2 ∧ w.cell? ⟨b, o + 3, none⟩ = some v3 ∧ w.cell? ⟨b, o + 4, none⟩ = some v4 ∧ w.cell? ⟨b, o + 5, none⟩ = some v5 ∧
   w.frozen? ⟨b, o, none⟩ = false ∧ w.frozen? ⟨b, o + 1, none⟩ = false ∧ w.frozen? ⟨b, o + 2, none⟩ = false ∧ w.frozen? ⟨b, o + 3, none⟩ = false ∧ w.frozen? ⟨b, o + 4, none⟩ = false ∧ w.frozen? ⟨b, o + 5, none⟩ = false := by
 have hc : ∀ j (hj : j < cs.size), w.cell? ⟨b, j, none⟩ = some cs[j] := fun j hj => (blk_cell h j).trans (Array.getElem?_eq_getElem hj)
 exact ⟨_, _, _, _, _, _, hc o (by omega), hc (o + 1) (by omega), hc (o + 2) (by omega), hc (o + 3) (by omega), hc (o + 4) (by omega), hc (o + 5) (by omega), blk_frozen h _, blk_frozen h _, blk_frozen h _, blk_frozen h _, blk_frozen h _, blk_frozen h _⟩
theorem six_at_other {w : World} {b o : Nat} {v0 v1 v2 v3 v4 v5 : Value} (q : Nat) (h : q ≠ b) :
  ((((((w.setCell ⟨b, o, none⟩ v0).setCell ⟨b, o + 1, none⟩ v1).setCell ⟨b, o + 2, none⟩ v2).setCell ⟨b, o + 3, none⟩ v3).setCell ⟨b, o + 4, none⟩ v4).setCell ⟨b, o + 5, none⟩ v5).heap[q]? = w.heap[q]? :=
 (Below.heap_setCell _ ⟨b, o + 5, none⟩ v5 q h).trans ((Below.heap_setCell _ ⟨b, o + 4, none⟩ v4 q h).trans ((Below.heap_setCell _ ⟨b, o + 3, none⟩ v3 q h).trans ((Below.heap_setCell _ ⟨b, o + 2, none⟩ v2 q h).trans ((Below.heap_setCell _ ⟨b, o + 1, none⟩ v1 q h).trans (Below.heap_setCell _ ⟨b, o, none⟩ v0 q h)))))
theorem six_at_below {B : Nat} {a W : World} {b o : Nat} {v0 v1 v2 v3 v4 v5 : Value} (h : Below B a W) (hg : B ≤ b) :
  Below B a ((((((W.setCell ⟨b, o, none⟩ v0).setCell ⟨b, o + 1, none⟩ v1).setCell ⟨b, o + 2, none⟩ v2).setCell ⟨b, o + 3, none⟩ v3).setCell ⟨b, o + 4, none⟩ v4).setCell ⟨b, o + 5, none⟩ v5) :=
 Below.setCell (p := ⟨b, o + 5, none⟩) (Below.setCell (p := ⟨b, o + 4, none⟩) (Below.setCell (p := ⟨b, o + 3, none⟩) (Below.setCell (p := ⟨b, o + 2, none⟩) (Below.setCell (p := ⟨b, o + 1, none⟩) (Below.setCell (p := ⟨b, o, none⟩) h hg v0) hg v1) hg v2) hg v3) hg v4) hg v5

theorem VRow.swap {d : Nat} {w : World} {b : Nat} {xs : List S28} {fp f5 : List Nat} (h : VRow (d + 1) w (some ⟨b, 0, none⟩) xs fp) (hnd : (fp ++ f5).Nodup) {i : Nat} (hi : i < xs.length) {y : S28} {B4 B5 : Option Addr} {b4 b5 : Nat} {k4 k5 : List Nat}
  (l4 : y.f3.length ≤ b4) (l5 : y.f4.length ≤ b5) (hV : VRow d w B4 y.f3 k4) (hN : NRow w B5 y.f4 k5) (hk : (k4 ++ k5).Nodup) (hap : ∀ q ∈ k4 ++ k5, q ∉ fp ++ f5) (hb5 : b ∉ f5) :
  ∃ fp', VRow (d + 1) ((((((w.setCell ⟨b, i * 6, none⟩ (.int .i64 y.f0)).setCell ⟨b, i * 6 + 1, none⟩ (.int .i64 y.f1.f0)).setCell ⟨b, i * 6 + 2, none⟩ (.int .i64 y.f1.f1)).setCell ⟨b, i * 6 + 3, none⟩ (.string y.f2)).setCell ⟨b, i * 6 + 4, none⟩ (.slice B4 y.f3.length b4)).setCell ⟨b, i * 6 + 5, none⟩ (.slice B5 y.f4.length b5)) (some ⟨b, 0, none⟩) (xs.set i y) fp' ∧
   (fp' ++ f5).Nodup ∧ (∀ q ∈ fp', q ∈ fp ∨ q ∈ k4 ++ k5) := by
 rcases h with ⟨rfl, _⟩ | ⟨b', cs, fps, hA, rfl, hb, hl, hit⟩
 ·simp at hi
 ·obtain rfl : b = b' := by injection hA with h; injection h
  obtain ⟨cs', e1, e2, e3, c0, c1, c2, c3, c4, c5⟩ := six_at hb (o := i * 6) (by omega) (.int .i64 y.f0) (.int .i64 y.f1.f0) (.int .i64 y.f1.f1) (.string y.f2) (.slice B4 y.f3.length b4) (.slice B5 y.f4.length b5)
  have hbk : b ∉ k4 ++ k5 := fun hm => hap b hm (List.mem_append_left _ List.mem_cons_self)
  have hnd1 := (List.nodup_append.1 hnd).1
  have hbf : b ∉ fps.flatten := (List.nodup_cons.1 hnd1).1
  refine ⟨b :: (fps.set i (k4 ++ k5)).flatten, .inr ⟨b, cs', _, rfl, rfl, e1, (by rw [List.length_set, e2]; exact hl), VItems.swap (fun A xs fp h hs => VRow.same d h hs) hit (f := k4 ++ k5) e3 ⟨B4, b4, B5, b5, k4, k5, rfl, c0, c1, c2, c3, c4, c5, l4, l5, ?_, ?_⟩ ?_⟩, ?_, ?_⟩
  ·exact VRow.same d hV (fun q hq => six_at_other q (fun e => hbk (e ▸ List.mem_append_left _ hq)))
  ·exact hN.same (fun q hq => six_at_other q (fun e => hbk (e ▸ List.mem_append_right _ hq)))
  ·exact fun f' hf' q hq => six_at_other q (fun e => hbf (e ▸ List.mem_flatten.2 ⟨f', hf', hq⟩))
  ·have h2 := List.nodup_append.1 hnd
   refine List.nodup_append.2 ⟨List.nodup_cons.2 ⟨fun hm => (mem_set_flat hm).elim hbf hbk, nodup_set hk (List.nodup_cons.1 hnd1).2 (fun q hq hm => hap q hq (List.mem_append_left _ (List.mem_cons_of_mem _ hm)))⟩, h2.2.1, fun x hx z hz e => ?_⟩
   subst e
   rcases List.mem_cons.1 hx with rfl | hx
   ·exact hb5 hz
   ·rcases mem_set_flat hx with hx | hx
    ·exact h2.2.2 x (List.mem_cons_of_mem _ hx) x hz rfl
    ·exact hap x hx (List.mem_append_right _ hz)
  ·intro q hq
   rcases List.mem_cons.1 hq with rfl | hq
   ·exact .inl List.mem_cons_self
   ·exact (mem_set_flat hq).imp (List.mem_cons_of_mem _) id

theorem R_form6 {w : World} {base : Nat} {ok : Nat → Prop} {v : Value} {xs : List S28} (h : k28.R 28 w base ok v xs) {i : Nat} (hi : i < xs.length) : ∃ b cap cs, v = .slice (some ⟨b, 0, none⟩) xs.length cap ∧ base ≤ b ∧ w.heap[b]? = some (.cells cs 28 (0, 0)) ∧ i * 6 + 6 ≤ cs.size := by
 obtain ⟨inner, hw, hr⟩ := h.2
 have hsz : k28.sz = 6 := rfl
 rw [hsz] at hw
 obtain ⟨hl, hw⟩ := hw
 rcases hw with ⟨_, he⟩ | ⟨g, cap, cur, he, hbg, hg, hnc, hm, hs, ht⟩
 ·omega
 ·exact ⟨g, cap, cur, he, hbg, hg, (by rw [hs]; omega)⟩
theorem R_swap {w : World} {base : Nat} {b n cap : Nat} {xs : List S28} (h : k28.R 28 w base (fun _ => True) (.slice (some ⟨b, 0, none⟩) n cap) xs) {i : Nat} (hi : i < xs.length) {y : S28} {v4 v5 : Value} {base' hi' : Nat}
  (h4 : k28.R 28 w base' (fun k => k < hi') v4 y.f3) (h5 : Kd.string.R 9 w base' (fun k => k < hi') v5 y.f4) (hb : base' ≤ base) (hhi : hi' ≤ b) :
  k28.R 28 ((((((w.setCell ⟨b, i * 6, none⟩ (.int .i64 y.f0)).setCell ⟨b, i * 6 + 1, none⟩ (.int .i64 y.f1.f0)).setCell ⟨b, i * 6 + 2, none⟩ (.int .i64 y.f1.f1)).setCell ⟨b, i * 6 + 3, none⟩ (.string y.f2)).setCell ⟨b, i * 6 + 4, none⟩ v4).setCell ⟨b, i * 6 + 5, none⟩ v5) base' (fun _ => True) (.slice (some ⟨b, 0, none⟩) n cap) (xs.set i y) := by
 obtain ⟨v, hv⟩ : ∃ v, v = Value.slice (some ⟨b, 0, none⟩) n cap := ⟨_, rfl⟩
 rw [← hv] at h ⊢
 have ho : v.ownBlock = some b := by rw [hv]; rfl
 obtain ⟨inner, hw, hr⟩ := h.2
 have hsz : k28.sz = 6 := rfl
 rw [hsz] at hw
 obtain ⟨hl, hw⟩ := hw
 rcases hw with ⟨he, _⟩ | ⟨g, cap', cur, he, hbg, hg, hnc, hm, hs, ht⟩
 ·rw [he] at ho; simp [Value.ownBlock] at ho
 ·obtain rfl : g = b := by rw [he] at ho; simpa [Value.ownBlock] using ho
  have he' := he
  clear hv
  have hin : i * 6 + 6 ≤ cur.size := by rw [hs]; omega
  obtain ⟨cs', e1, e2, e3, c0, c1, c2, c3, c4, c5⟩ := six_at hg hin (.int .i64 y.f0) (.int .i64 y.f1.f0) (.int .i64 y.f1.f1) (.string y.f2) v4 v5
  have hnl : xs.length * 6 ≤ cs'.size := by rw [e2, hs]; omega
  have hself : ∀ j, j < xs.length * 6 → (cs'.toList.take (xs.length * 6))[j]? = cs'[j]? := fun j hj => by rw [List.getElem?_take, if_pos hj, Array.getElem?_toList]
  have hold : ∀ j, j < xs.length * 6 → inner[j]? = cur[j]? := fun j hj => by rw [← ht, List.getElem?_take, if_pos hj, Array.getElem?_toList]
  have hll : cs'.toList.length = cs'.size := Array.length_toList
  refine ⟨fun _ _ => trivial, cs'.toList.take (xs.length * 6), ⟨?_, .inr ⟨g, cap', cs', ?_, Nat.le_trans hb hbg, e1, ?_, hm, (by rw [e2, hs]; rfl), ?_⟩⟩, ?_, fun j p hj => ?_⟩
  ·rw [List.length_take, List.length_set, hll]; show min _ _ = xs.length * 6; omega
  ·rw [List.length_set]; exact he
  ·rw [List.length_set]; exact hnc
  ·rw [List.length_set]; rfl
  ·rw [List.length_take, List.length_set, hll]; show min _ _ = xs.length * 6; omega
  ·show k28.M _ base' _ p ((List.drop (j * 6) _).take 6)
   by_cases hji : j = i
   ·subst hji
    rw [List.getElem?_set_self hi] at hj
    obtain rfl := Option.some.inj hj
    have hcut : (List.drop (j * 6) (cs'.toList.take (xs.length * 6))).take 6 = [.int .i64 y.f0, .int .i64 y.f1.f0, .int .i64 y.f1.f1, .string y.f2, v4, v5] := by
     refine List.ext_getElem? fun q => ?_
     rw [List.getElem?_take]
     by_cases hq : q < 6
     ·rw [if_pos hq, List.getElem?_drop, hself _ (by omega)]
      match q, hq with
      | 0, _ => exact c0
      | 1, _ => exact c1
      | 2, _ => exact c2
      | 3, _ => exact c3
      | 4, _ => exact c4
      | 5, _ => exact c5
     ·rw [if_neg hq, List.getElem?_eq_none (by show 6 ≤ q; omega)]
    rw [hcut]
    have hk : ∀ k, k < hi' → some k ≠ v.ownBlock := fun k hk e => by
     rw [ho] at e
     have : k = g := Option.some.inj e
     omega
    exact k28_mkM _ base' _ y (Kd.R_mono (Kd.R_step h4 (fun k hk' _ => six_at_other k (by omega))) (fun k hk' => ⟨trivial, hk k hk'⟩)) (Kd.R_mono (Kd.R_step h5 (fun k hk' _ => six_at_other k (by omega))) (fun k hk' => ⟨trivial, hk k hk'⟩))
   ·rw [List.getElem?_set_ne (fun e => hji e.symm)] at hj
    have hjl := (List.getElem?_eq_some_iff.1 hj).1
    have hcut : (List.drop (j * 6) (cs'.toList.take (xs.length * 6))).take 6 = (List.drop (j * 6) inner).take 6 := by
     refine List.ext_getElem? fun q => ?_
     rw [List.getElem?_take, List.getElem?_take]
     by_cases hq : q < 6
     ·rw [if_pos hq, if_pos hq, List.getElem?_drop, List.getElem?_drop, hself _ (by omega), hold _ (by omega)]
      exact e3 _ (by omega)
     ·rw [if_neg hq, if_neg hq]
    rw [hcut]
    refine k28.M_lower hb (Kd.M_step (hr.2 j p hj) (fun k hk _ => six_at_other k (fun e => hk.2 (by rw [e, ho]))))
end Go.Proofs.YtebcepbamlokcaaDoor.Q
namespace Go.Proofs.YtebcepbamlokcaaDoor.Q
open Go.RowKit Go.Proofs.YtebcepbamlokcaaDoorW.PrintWords Go.Proofs.YtebcepbamlokcaaDoorW.PrintLast
set_option linter.unusedVariables false
set_option linter.unusedSimpArgs false

def At (P : S28 → ByteArray → Int) : S28 → List ByteArray → Option S28
  | v, [] => some v
  | v, s :: r => if P v s < 0 then none else At P (rd_T28 v.f3 (P v s)) r
def atRes (P : S28 → ByteArray → Int) (ok : Bool) (v : S28) (path : List ByteArray) : Option S28 := if ok = true then At P v path else none
def orZero (r : Option S28) : S28 := r.getD z28

structure Good (G : S28 → Prop) (d : Nat) (P : S28 → ByteArray → Int) (path : List ByteArray) : Prop where
  kid : ∀ x, G x → ∀ y ∈ x.f3, G y
  fit : ∀ x, G x → Fit d x.f3 ∧ x.f4.length ≤ 2097152
  lt : ∀ x, G x → ∀ s ∈ path, P x s < (x.f3.length : Int)

theorem drop_cons_of {path : List ByteArray} {i : Nat} {s : ByteArray} (h : path[i]? = some s) : path.drop i = s :: path.drop (i + 1) := by
  obtain ⟨hl, rfl⟩ := List.getElem?_eq_some_iff.1 h
  exact List.drop_eq_getElem_cons hl

set_option maxHeartbeats 4000000 in
set_option maxRecDepth 100000 in
theorem implAt_calls (G : S28 → Prop) (d : Nat) (P : S28 → ByteArray → Int) (k : Nat) (okb : Bool) (v : S28) (path : List ByteArray) (HG0 : okb = true → Good G d P path) (hv0 : okb = true → G v) (hok : impl_ValueOk.f k v.f0 v.f1.f0 v.f1.f1 v.f2 v.f3 v.f4 = some okb)
    (hst0 : okb = true → ∀ x, G x → ∀ s ∈ path, impl_Value_place.f x.f0 x.f1.f0 x.f1.f1 x.f2 x.f3 x.f4 s = some (P x s))
    (w : World) (A4 : Option Addr) (c4 : Nat) (A5 : Option Addr) (c5 : Nat) (AP : Option Addr) (cP : Nat) (h4 : Kd.C k28 w A4 v.f3.length v.f3) (l4 : v.f3.length ≤ c4) (h5 : Kd.C Kd.string w A5 v.f4.length v.f4) (l5 : v.f4.length ≤ c5)
    (hp : Kd.C Kd.string w AP path.length path) (lp : path.length ≤ cP) (hl : LaidG 15 w) :
    Calls Tryd.prog 11 #[.agg #[.int .i64 v.f0, .int .i64 v.f1.f0, .int .i64 v.f1.f1, .string v.f2, .slice A4 v.f3.length c4, .slice A5 v.f4.length c5], .slice AP path.length cP] w fun e' w' => ∃ (x : S28) (B4 : Option Addr) (b4 : Nat) (B5 : Option Addr) (b5 : Nat) (f4 f5 : List Nat),
      x = orZero (atRes P okb v path) ∧ e' = .returned (.tuple #[.agg #[.int .i64 x.f0, .int .i64 x.f1.f0, .int .i64 x.f1.f1, .string x.f2, .slice B4 x.f3.length b4, .slice B5 x.f4.length b5], .bool (atRes P okb v path).isSome]) ∧
      x.f3.length ≤ b4 ∧ x.f4.length ≤ b5 ∧ VRow d w' B4 x.f3 f4 ∧ NRow w' B5 x.f4 f5 ∧ (f4 ++ f5).Nodup ∧ (∀ q ∈ f4 ++ f5, w.heap.size ≤ q) ∧ Below w.heap.size w w' := by
  have H4 := Aside0.mk h4; have H5 := Aside0.mk h5; have HP := Aside0.mk hp; have HL := Aside0.mk hl; have HOK := Aside0.mk hok
  have HPL := Aside0.mk hp.2.1
  clear h4 h5 hp hl hok
  cases okb with
  | false =>
    go_enter Tryd.func11, Tryd.ntmps11
    go_wp2_with (first
      | ((with_reducible refine gate_dst (N := 2) rfl ?_); refine box_event ?hg (N := 2) ?hd (cs := #[.int .i64 v.f0, .int .i64 v.f1.f0, .int .i64 v.f1.f1, .string v.f2, .slice A4 v.f3.length c4, .slice A5 v.f4.length c5]) (t := 28) ?hr ?_; (case hd => rfl); (case hg => rfl); (case hr => first | (go_simp; done) | (go_simp; rfl))
         intro g1 hg1 w1 hbox1 hb1; have G1 := Aside0.mk hg1; have B1 := Aside0.mk hbox1; have L1 := Aside0.mk hb1; clear hg1 hbox1 hb1)
      | ((with_reducible refine gate_dst (N := 4) rfl ?_); refine box_event ?hg (N := 4) ?hd (cs := #[.int .i64 0, .int .i64 0, .int .i64 0, .string (⟨#[]⟩ : ByteArray), .slice none 0 0, .slice none 0 0]) (t := 28) ?hr ?_; (case hd => rfl); (case hg => rfl); (case hr => first | (go_simp; done) | (go_simp; rfl))
         intro g2 hg2 w2 hbox2 hb2; have G2 := Aside0.mk hg2; have B2 := Aside0.mk hbox2; have L2 := Aside0.mk (below_step L1.out hb2)
         have B1' := Aside0.mk (blk_keep B1.out hb2 (blk_lt B1.out)); clear hg2 hbox2 hb2
         obtain ⟨p0, p1, p2, p3, p4, p5, -⟩ := six_cells B1'.out)
      | (go_at_call 21
         refine (impl_ValueOk.calls k v.f0 v.f1.f0 v.f1.f1 v.f2 A4 c4 v.f3 A5 c5 v.f4 false _ (Kd.C_below H4.out L2.out) l4 (Kd.C_below H5.out L2.out) l5 (LaidG.below (m := 2) (by decide) HL.out L2.out) HOK.out).mono ?_
         rintro e' w3 ⟨rfl, hb3⟩
         have L3 := Aside0.mk (below_step L2.out hb3)
         have C2 := Aside0.mk (blk_keep B2.out hb3 (blk_lt B2.out))
         clear p0 p1 p2 p3 p4 p5 hb3
         obtain ⟨r0, r1, r2, r3, r4, r5, z0, z1, z2, z3, z4, z5⟩ := six_cells C2.out))
    have hP := six_put (v0 := .int .i64 0) (v1 := .int .i64 0) (v2 := .int .i64 0) (v3 := .string ⟨#[]⟩) (v4 := .slice none 0 0) (v5 := .slice none 0 0) C2.out
    refine bodyPost_ret (results_ct rfl _ _ g2 28 #[.int .i64 0, .int .i64 0, .int .i64 0, .string ⟨#[]⟩, .slice none 0 0, .slice none 0 0] (0, 0) _ rfl hP Tryd.underlying28 rfl (by kernel_rfl)) rfl ?_
    have g2w : w.heap.size ≤ g2 := by have := L1.out.size; have := G2.out; omega
    exact ⟨z28, none, 0, none, 0, [], [], rfl, rfl, Nat.le_refl _, Nat.le_refl _, by cases d; exact ⟨rfl, rfl⟩; exact .inl ⟨rfl, rfl⟩, .inl ⟨rfl, rfl⟩, List.nodup_nil, by simp, six_below L3.out g2w⟩
  | true =>
    have HG := HG0 rfl
    have hv := hv0 rfl
    have hst := hst0 rfl
    have HR := Aside0.mk (show atRes P true v path = At P v path from rfl)
    go_enter Tryd.func11, Tryd.ntmps11
    go_wp2_with (first
      | ((with_reducible refine gate_dst (N := 2) rfl ?_); refine box_event ?hg (N := 2) ?hd (cs := #[.int .i64 v.f0, .int .i64 v.f1.f0, .int .i64 v.f1.f1, .string v.f2, .slice A4 v.f3.length c4, .slice A5 v.f4.length c5]) (t := 28) ?hr ?_; (case hd => rfl); (case hg => rfl); (case hr => first | (go_simp; done) | (go_simp; rfl))
         intro g1 hg1 w1 hbox1 hb1; have G1 := Aside0.mk hg1; have B1 := Aside0.mk hbox1; have L1 := Aside0.mk hb1; clear hg1 hbox1 hb1)
      | ((with_reducible refine gate_dst (N := 4) rfl ?_); refine box_event ?hg (N := 4) ?hd (cs := #[.int .i64 0, .int .i64 0, .int .i64 0, .string (⟨#[]⟩ : ByteArray), .slice none 0 0, .slice none 0 0]) (t := 28) ?hr ?_; (case hd => rfl); (case hg => rfl); (case hr => first | (go_simp; done) | (go_simp; rfl))
         intro g2 hg2 w2 hbox2 hb2; have G2 := Aside0.mk hg2; have B2 := Aside0.mk hbox2; have L2 := Aside0.mk (below_step L1.out hb2)
         have B1' := Aside0.mk (blk_keep B1.out hb2 (blk_lt B1.out)); clear hg2 hbox2 hb2
         obtain ⟨p0, p1, p2, p3, p4, p5, -⟩ := six_cells B1'.out)
      | (go_at_call 21
         refine (impl_ValueOk.calls k v.f0 v.f1.f0 v.f1.f1 v.f2 A4 c4 v.f3 A5 c5 v.f4 true _ (Kd.C_below H4.out L2.out) l4 (Kd.C_below H5.out L2.out) l5 (LaidG.below (m := 2) (by decide) HL.out L2.out) HOK.out).mono ?_
         rintro e' w3 ⟨rfl, hb3⟩
         have L3 := Aside0.mk (below_step L2.out hb3)
         have C1 := Aside0.mk (blk_keep B1'.out hb3 (blk_lt B1'.out)); have C2 := Aside0.mk (blk_keep B2.out hb3 (blk_lt B2.out))
         clear p0 p1 p2 p3 p4 p5 hb3))
    have g1w : w.heap.size ≤ g1 := Nat.le_of_eq G1.out.symm
    have g2w : w.heap.size ≤ g2 := by have := L1.out.size; have := G2.out; omega
    have hne : g1 ≠ g2 := by have := blk_lt B1.out; have := G2.out; omega
    have hne' := hne.symm
    go_loopg [15] path.length (fun kq v15 w' => ∃ (i : Nat) (x : S28) (X4 : Option Addr) (x4 : Nat) (X5 : Option Addr) (x5 : Nat), v15 = .int .i64 (i : Int) ∧ Aside0 (i + kq = path.length) ∧ Aside0 (At P x (path.drop i) = At P v path) ∧ Aside0 (G x) ∧
      Aside0 (w'.heap[g1]? = some (.cells #[.int .i64 x.f0, .int .i64 x.f1.f0, .int .i64 x.f1.f1, .string x.f2, .slice X4 x.f3.length x4, .slice X5 x.f4.length x5] 28 (0, 0))) ∧ Aside0 (w'.heap[g2]? = some (.cells #[.int .i64 0, .int .i64 0, .int .i64 0, .string (⟨#[]⟩ : ByteArray), .slice none 0 0, .slice none 0 0] 28 (0, 0))) ∧
      Aside0 (Kd.C k28 w X4 x.f3.length x.f3 ∧ x.f3.length ≤ x4 ∧ Kd.C Kd.string w X5 x.f4.length x.f4 ∧ x.f4.length ≤ x5) ∧ Aside0 (Below w.heap.size w w'))
    case atStart => exact ⟨0, v, A4, c4, A5, c5, rfl, ⟨by omega⟩, ⟨rfl⟩, ⟨hv⟩, C1, C2, ⟨H4.out, l4, H5.out, l5⟩, L3⟩
    case round =>
      obtain ⟨i, x, X4, x4, X5, x5, rfl, HI, HA, HX, D1, D2, HC, LB⟩ := hrel
      cases gk with
      | zero =>
        have hd : decide ((i : Int) < (path.length : Int)) = false := decide_eq_false (by have := HI.out; omega)
        have hd' : decide (i < path.length) = false := decide_eq_false (by have := HI.out; omega)
        have HAe : Aside0 (At P v path = some x) := ⟨by
          have h := HA.out
          rw [List.drop_of_length_le (by have := HI.out; omega)] at h
          exact h.symm⟩
        obtain ⟨p0, p1, p2, p3, p4, p5, -⟩ := six_cells D1.out
        go_wp2_with (
          go_at_call 45
          have hf := HG.fit x HX.out
          refine (own_calls d _ x.f0 x.f1.f0 x.f1.f1 x.f2 X4 x4 x.f3 X5 x5 x.f4 (Kd.C_below HC.out.1 LB.out) HC.out.2.1 (Kd.C_below HC.out.2.2.1 LB.out) HC.out.2.2.2 hf.1 hf.2).mono ?_
          rintro e' w5 ⟨O4, O5, f4, f5, rfl, V4, N5, D45, F45, _, hb5⟩
          have L5 := Aside0.mk (below_step LB.out hb5)
          have LS := Aside0.mk hb5.size
          have E2 := Aside0.mk (blk_keep D2.out hb5 (blk_lt D2.out))
          obtain ⟨r0, r1, r2, r3, r4, r5, z0, z1, z2, z3, z4, z5⟩ := six_cells E2.out
          clear hb5)
        have hP := six_put (v0 := .int .i64 x.f0) (v1 := .int .i64 x.f1.f0) (v2 := .int .i64 x.f1.f1) (v3 := .string x.f2) (v4 := .slice O4 x.f3.length x.f3.length) (v5 := .slice O5 x.f4.length x.f4.length) E2.out
        refine bodyPost_ret (results_ct rfl _ _ g2 28 #[.int .i64 x.f0, .int .i64 x.f1.f0, .int .i64 x.f1.f1, .string x.f2, .slice O4 x.f3.length x.f3.length, .slice O5 x.f4.length x.f4.length] (0, 0) _ rfl hP Tryd.underlying28 rfl (by kernel_rfl)) rfl ?_
        have hg2 := blk_lt D2.out
        have hS : ∀ q ∈ f4 ++ f5, ((((((w5.setCell ⟨g2, 0, none⟩ (.int .i64 x.f0)).setCell ⟨g2, 1, none⟩ (.int .i64 x.f1.f0)).setCell ⟨g2, 2, none⟩ (.int .i64 x.f1.f1)).setCell ⟨g2, 3, none⟩ (.string x.f2)).setCell ⟨g2, 4, none⟩ (.slice O4 x.f3.length x.f3.length)).setCell ⟨g2, 5, none⟩ (.slice O5 x.f4.length x.f4.length)).heap[q]? = w5.heap[q]? := fun q hq => six_same q (by have := F45 q hq; omega)
        exact ⟨x, O4, x.f3.length, O5, x.f4.length, f4, f5, by rw [HR.out, HAe.out]; rfl, by rw [HR.out, HAe.out]; rfl, Nat.le_refl _, Nat.le_refl _, VRow.same d V4 (fun q hq => hS q (List.mem_append_left _ hq)), N5.same (fun q hq => hS q (List.mem_append_right _ hq)), D45, fun q hq => Nat.le_trans LB.out.size (F45 q hq), six_below L5.out g2w⟩
      | succ k1 =>
        have hd : decide ((i : Int) < (path.length : Int)) = true := decide_eq_true (by have := HI.out; omega)
        have hp : (0 ≤ (i : Int)) = True := eq_true (by omega)
        have hq : ((i : Int) < (path.length : Int)) = True := eq_true (by have := HI.out; omega)
        have hi : i < path.length := by have := HI.out; omega
        have HIk : Aside0 (i + 1 + k1 = path.length) := ⟨by have := HI.out; omega⟩
        have E6 : Aside0 (wrap64 ((i : Int) + 1) = ((i + 1 : Nat) : Int)) := ⟨by have := HPL.out; rw [w64o (by omega) (by omega)]; omega⟩
        obtain ⟨ad, rfl, hsrc⟩ := Kd.at_string HP.out (i : Int) (by omega) (by omega)
        have hxe : rdOf ByteArray.empty path (i : Int) = path[i] := by unfold rdOf; rw [Int.toNat_natCast, List.getD_eq_getElem?_getD, List.getElem?_eq_getElem hi]; rfl
        have hcx := List.getElem?_eq_getElem hi
        rw [hxe] at hsrc
        simp only [Int.toNat_natCast] at hsrc
        generalize path[i] = s at hcx hsrc
        have hsm := List.mem_of_getElem? hcx
        replace hsrc := (LB.out.cell (World.block_lt_of_cell? w _ hsrc)).trans hsrc
        obtain ⟨p0, p1, p2, p3, p4, p5, -⟩ := six_cells D1.out
        have hplace := impl_Value_place.calls x.f0 x.f1.f0 x.f1.f1 x.f2 X4 x4 x.f3 X5 x5 x.f4 s (P x s) wr (Kd.C_below HC.out.1 LB.out) HC.out.2.1 (Kd.C_below HC.out.2.2.1 LB.out) HC.out.2.2.2 (LaidG.below (m := 13) (by decide) HL.out LB.out) (hst x HX.out s hsm)
        have HAc := Aside0.mk (show At P v path = if P x s < 0 then none else At P (rd_T28 x.f3 (P x s)) (path.drop (i + 1)) from by rw [← HA.out, drop_cons_of hcx]; rfl)
        have HLT := Aside0.mk (HG.lt x HX.out s hsm)
        generalize P x s = u at hplace HAc HLT
        by_cases hu : u < 0
        · have hdu : decide (u < 0) = true := decide_eq_true hu
          have HU := Aside0.mk hu
          clear hu
          go_wp2_with (
            go_at_call 44
            refine hplace.mono ?_
            rintro e' w5 ⟨rfl, hb5⟩
            have L5 := Aside0.mk (below_step LB.out hb5)
            have E2 := Aside0.mk (blk_keep D2.out hb5 (blk_lt D2.out))
            obtain ⟨r0, r1, r2, r3, r4, r5, z0, z1, z2, z3, z4, z5⟩ := six_cells E2.out
            clear hb5)
          have hP := six_put (v0 := .int .i64 0) (v1 := .int .i64 0) (v2 := .int .i64 0) (v3 := .string ⟨#[]⟩) (v4 := .slice none 0 0) (v5 := .slice none 0 0) E2.out
          refine bodyPost_ret (results_ct rfl _ _ g2 28 #[.int .i64 0, .int .i64 0, .int .i64 0, .string ⟨#[]⟩, .slice none 0 0, .slice none 0 0] (0, 0) _ rfl hP Tryd.underlying28 rfl (by kernel_rfl)) rfl ?_
          have hn : atRes P true v path = none := by rw [HR.out, HAc.out, if_pos HU.out]
          exact ⟨z28, none, 0, none, 0, [], [], by rw [hn]; rfl, by rw [hn]; rfl, Nat.le_refl _, Nat.le_refl _, by cases d; exact ⟨rfl, rfl⟩; exact .inl ⟨rfl, rfl⟩, .inl ⟨rfl, rfl⟩, List.nodup_nil, by simp, six_below L5.out g2w⟩
        · have hdu : decide (u < 0) = false := decide_eq_false hu
          have hu0 : (0 ≤ u) = True := eq_true (by omega)
          have hu1 : (u < (x.f3.length : Int)) = True := eq_true HLT.out
          have hun : u.toNat < x.f3.length := by have := HLT.out; omega
          obtain ⟨ad2, Y4, y4, Y5, y5, rfl, x0, x1, x2, x3, x4', x5', m4, s4, m5, s5⟩ := at_T28 HC.out.1 u (by omega) HLT.out
          have hym : rd_T28 x.f3 u ∈ x.f3 := by
            unfold rd_T28
            rw [List.getD_eq_getElem?_getD, List.getElem?_eq_getElem hun]
            exact List.getElem_mem hun
          have HU := Aside0.mk hu
          generalize rd_T28 x.f3 u = y at *
          have HY := Aside0.mk (HG.kid x HX.out y hym)
          clear hu
          go_wp2_with (
            go_at_call 44
            refine hplace.mono ?_
            rintro e' w5 ⟨rfl, hb5⟩
            have L5 := Aside0.mk (below_step LB.out hb5)
            have E1 := Aside0.mk (blk_keep D1.out hb5 (blk_lt D1.out))
            have E2 := Aside0.mk (blk_keep D2.out hb5 (blk_lt D2.out))
            clear p0 p1 p2 p3 p4 p5
            obtain ⟨p0, p1, p2, p3, p4, p5, z0, z1, z2, z3, z4, z5⟩ := six_cells E1.out
            replace x0 := (L5.out.cell (World.block_lt_of_cell? w _ x0)).trans x0
            replace x1 := (L5.out.cell (World.block_lt_of_cell? w _ x1)).trans x1
            replace x2 := (L5.out.cell (World.block_lt_of_cell? w _ x2)).trans x2
            replace x3 := (L5.out.cell (World.block_lt_of_cell? w _ x3)).trans x3
            replace x4' := (L5.out.cell (World.block_lt_of_cell? w _ x4')).trans x4'
            replace x5' := (L5.out.cell (World.block_lt_of_cell? w _ x5')).trans x5'
            clear hb5)
          go_roundg k1
          case measure => exact Nat.lt_succ_self k1
          case rel =>
            have hS2 := six_same (w := w5) (g := g1) (v0 := .int .i64 y.f0) (v1 := .int .i64 y.f1.f0) (v2 := .int .i64 y.f1.f1) (v3 := .string y.f2) (v4 := .slice Y4 y.f3.length y4) (v5 := .slice Y5 y.f4.length y5) g2 hne'
            exact ⟨i + 1, y, Y4, y4, Y5, y5, by rw [E6.out], HIk, ⟨by rw [HAc.out, if_neg (by have := HU.out; omega)]⟩, HY, ⟨six_put E1.out⟩, ⟨hS2.trans E2.out⟩, ⟨s4, m4, s5, m5⟩, ⟨six_below L5.out g1w⟩⟩
end Go.Proofs.YtebcepbamlokcaaDoor.Q
namespace Go.Proofs.YtebcepbamlokcaaDoor.Q
open Go.RowKit Go.Proofs.YtebcepbamlokcaaDoorW.PrintWords Go.Proofs.YtebcepbamlokcaaDoorW.PrintLast
set_option linter.unusedVariables false
set_option linter.unusedSimpArgs false

structure Mk (n : Nat) : Prop where mk ::

structure FitV (d : Nat) (v : S28) : Prop where
  f3 : Fit d v.f3
  f4 : v.f4.length ≤ 2097152
  cn : cnt d v.f3 + v.f4.length ≤ 1073741824

structure TreeAt (d : Nat) (W : World) (v : S28) (B4 : Option Addr) (b4 : Nat) (B5 : Option Addr) (b5 : Nat) (f4 f5 : List Nat) : Prop where
  l4 : v.f3.length ≤ b4
  l5 : v.f4.length ≤ b5
  V : VRow d W B4 v.f3 f4
  N : NRow W B5 v.f4 f5
  nd : (f4 ++ f5).Nodup
section
variable {d : Nat} {W W' : World} {v : S28} {B4 B5 : Option Addr} {b4 b5 : Nat} {f4 f5 : List Nat}
theorem TreeAt.lt (h : TreeAt d W v B4 b4 B5 b5 f4 f5) : ∀ q ∈ f4 ++ f5, q < W.heap.size := fun q hq => (List.mem_append.1 hq).elim (VRow.lt d h.V q) (h.N.lt q)
theorem TreeAt.below (h : TreeAt d W v B4 b4 B5 b5 f4 f5) (hb : Below W.heap.size W W') : TreeAt d W' v B4 b4 B5 b5 f4 f5 := ⟨h.l4, h.l5, VRow.same d h.V (Same.below (VRow.lt d h.V) hb), h.N.same (Same.below h.N.lt hb), h.nd⟩
theorem TreeAt.kept {S : Nat → Prop} (h : TreeAt d W v B4 b4 B5 b5 f4 f5) (hk : Kept W W' S) (hn : ∀ q ∈ f4 ++ f5, ¬ S q) : TreeAt d W' v B4 b4 B5 b5 f4 f5 :=
  ⟨h.l4, h.l5, VRow.same d h.V (Same.kept (VRow.lt d h.V) hk (fun q hq => hn q (List.mem_append_left _ hq))), h.N.same (Same.kept h.N.lt hk (fun q hq => hn q (List.mem_append_right _ hq))), h.nd⟩
theorem TreeAt.c4 (h : TreeAt d W v B4 b4 B5 b5 f4 f5) (hf : FitV d v) : Kd.C k28 W B4 v.f3.length v.f3 := VRow.reads d h.V (Fit.long d hf.f3)
theorem TreeAt.c5 (h : TreeAt d W v B4 b4 B5 b5 f4 f5) (hf : FitV d v) : Kd.C Kd.string W B5 v.f4.length v.f4 := h.N.reads (Nat.le_trans hf.f4 (by decide))

structure ReadAt (W : World) (v : S28) (A4 : Option Addr) (c4 : Nat) (A5 : Option Addr) (c5 : Nat) (hi : Nat) : Prop where
  l4 : v.f3.length ≤ c4
  l5 : v.f4.length ≤ c5
  r4 : Kd.R k28 28 W 0 (fun k => k < hi) (.slice A4 v.f3.length c4) v.f3
  r5 : Kd.R Kd.string 9 W 0 (fun k => k < hi) (.slice A5 v.f4.length c5) v.f4
variable {A4 A5 : Option Addr} {c4 c5 hi : Nat}
theorem ReadAt.of {base : Nat} {v4 v5 : Value} (h4 : Kd.R k28 28 W base (fun _ => True) v4 v.f3) (h5 : Kd.R Kd.string 9 W base (fun _ => True) v5 v.f4) (hh : W.heap.size ≤ hi) :
    ∃ A4 c4 A5 c5, v4 = .slice A4 v.f3.length c4 ∧ v5 = .slice A5 v.f4.length c5 ∧ ReadAt W v A4 c4 A5 c5 hi := by
  obtain ⟨A4, c4, rfl, l4, _⟩ := Kd.R_reads h4
  obtain ⟨A5, c5, rfl, l5, _⟩ := Kd.R_reads h5
  exact ⟨A4, c4, A5, c5, rfl, rfl, l4, l5, Kd.R_lower (Kd.R_mono (Kd.R_bound h4) (fun k hk => Nat.lt_of_lt_of_le hk.2.2.1 hh)) (Nat.zero_le _), Kd.R_lower (Kd.R_mono (Kd.R_bound h5) (fun k hk => Nat.lt_of_lt_of_le hk.2.2.1 hh)) (Nat.zero_le _)⟩
theorem ReadAt.below (h : ReadAt W v A4 c4 A5 c5 hi) (hb : Below W.heap.size W W') : ReadAt W' v A4 c4 A5 c5 hi := ⟨h.l4, h.l5, Kd.R_below h.r4 hb, Kd.R_below h.r5 hb⟩
theorem ReadAt.kept {S : Nat → Prop} (h : ReadAt W v A4 c4 A5 c5 hi) (hk : Kept W W' S) (hn : ∀ q, S q → hi ≤ q) : ReadAt W' v A4 c4 A5 c5 hi :=
  ⟨h.l4, h.l5, Kd.R_kept h.r4 hk (fun k hk' hs => Nat.lt_irrefl _ (Nat.lt_of_lt_of_le hk' (hn k hs))), Kd.R_kept h.r5 hk (fun k hk' hs => Nat.lt_irrefl _ (Nat.lt_of_lt_of_le hk' (hn k hs)))⟩
theorem ReadAt.c4_ (h : ReadAt W v A4 c4 A5 c5 hi) : Kd.C k28 W A4 v.f3.length v.f3 := (Kd.R_reads' h.r4).2.2
theorem ReadAt.c5_ (h : ReadAt W v A4 c4 A5 c5 hi) : Kd.C Kd.string W A5 v.f4.length v.f4 := (Kd.R_reads' h.r5).2.2
end

theorem toValue_v (d : Nat) (a : S45) (w : World) (A4 : Option Addr) (c4 : Nat) (A5 : Option Addr) (c5 : Nat) (h4 : Kd.C k45 w A4 a.f3.length a.f3) (l4 : a.f3.length ≤ c4) (h5 : Kd.C Kd.string w A5 a.f4.length a.f4) (l5 : a.f4.length ≤ c5) (hf : Fit45 d a.f3) (hn : a.f4.length ≤ 2097152) (v : S28) (hv : v = toV (toL d) a) :
    Calls Tryd.prog 24 #[.agg #[.int .i64 a.f0, .int .i64 a.f1.f0, .int .i64 a.f1.f1, .string a.f2, .slice A4 a.f3.length c4, .slice A5 a.f4.length c5]] w fun e' w' => ∃ B4 b4 B5 b5 f4 f5,
      e' = .returned (.agg #[.int .i64 v.f0, .int .i64 v.f1.f0, .int .i64 v.f1.f1, .string v.f2, .slice B4 v.f3.length b4, .slice B5 v.f4.length b5]) ∧ TreeAt d w' v B4 b4 B5 b5 f4 f5 ∧ (∀ q ∈ f4 ++ f5, w.heap.size ≤ q) ∧ Below w.heap.size w w' := by
  refine (toValue_of d (toValueS_calls d) w a.f0 a.f1.f0 a.f1.f1 a.f2 A4 c4 a.f3 A5 c5 a.f4 h4 l4 h5 l5 hf hn).mono ?_
  rintro e' w' ⟨B4, b4, B5, b5, f4, f5, rfl, m4, m5, V, N, nd, F, hb⟩
  have hl : v.f3.length = a.f3.length := by rw [hv]; exact toL_length d a.f3 hf
  subst hv
  exact ⟨B4, b4, B5, b5, f4, f5, by rw [hl]; rfl, ⟨by rw [hl]; exact m4, m5, V, N, nd⟩, F, hb⟩

theorem eqValue_v (d : Nat) (v : S28) (hf : FitV d v) (w : World) (A4 B4 : Option Addr) (c4 d4 : Nat) (A5 B5 : Option Addr) (c5 d5 : Nat) (h4 : Kd.C k28 w A4 v.f3.length v.f3) (g4 : Kd.C k28 w B4 v.f3.length v.f3) (l4 : v.f3.length ≤ c4) (m4 : v.f3.length ≤ d4)
    (h5 : Kd.C Kd.string w A5 v.f4.length v.f4) (g5 : Kd.C Kd.string w B5 v.f4.length v.f4) (l5 : v.f4.length ≤ c5) (m5 : v.f4.length ≤ d5) :
    Calls Tryd.prog 26 #[.agg #[.int .i64 v.f0, .int .i64 v.f1.f0, .int .i64 v.f1.f1, .string v.f2, .slice A4 v.f3.length c4, .slice A5 v.f4.length c5], .agg #[.int .i64 v.f0, .int .i64 v.f1.f0, .int .i64 v.f1.f1, .string v.f2, .slice B4 v.f3.length d4, .slice B5 v.f4.length d5]] w fun e' w' =>
      e' = .returned (.bool true) ∧ Below w.heap.size w w' :=
  eqValue_of d (eqValueS_calls d) w v.f0 v.f1.f0 v.f1.f1 v.f2 A4 B4 c4 d4 v.f3 A5 B5 c5 d5 v.f4 h4 g4 l4 m4 h5 g5 l5 m5 hf.f3

theorem markValue_v (d : Nat) (x : S28) (hf : FitV d x) (w0 w : World) (B4 : Option Addr) (b4 : Nat) (B5 : Option Addr) (b5 : Nat) (f4 f5 : List Nat) (h : TreeAt d w x B4 b4 B5 b5 f4 f5) (hB : Below w0.heap.size w0 w) (hfp : ∀ b ∈ f4 ++ f5, w0.heap.size ≤ b) :
    Calls Tryd.prog 27 #[.agg #[.int .i64 x.f0, .int .i64 x.f1.f0, .int .i64 x.f1.f1, .string x.f2, .slice B4 x.f3.length b4, .slice B5 x.f4.length b5], .int .i64 1] w fun e w' =>
      e = .returned (.int .i64 (1 + (cnt d x.f3 : Nat) + x.f4.length)) ∧ (∃ v' : S28, TreeAt d w' v' B4 b4 B5 b5 f4 f5 ∧ v'.f3.length = x.f3.length ∧ v'.f4.length = x.f4.length ∧ cnt d v'.f3 = cnt d x.f3 ∧ Marks d v'.f3 1 ∧ NMarks v'.f4 (1 + (cnt d x.f3 : Nat))) ∧
        Below w0.heap.size w0 w' ∧ Kept w w' (fun b => b ∈ f4 ++ f5) := by
  refine (markValue_calls d w0 w x.f0 x.f1.f0 x.f1.f1 x.f2 B4 b4 x.f3 B5 b5 x.f4 f4 f5 1 h.V h.N h.nd h.l4 h.l5 (by omega) (by have := hf.cn; omega) hB hfp).mono ?_
  rintro e w' ⟨rfl, ⟨xs', ns', V, N, l3, lc, l4, m, mn⟩, hb, hk⟩
  exact ⟨rfl, ⟨⟨x.f0, x.f1, x.f2, xs', ns'⟩, ⟨by rw [show (⟨x.f0, x.f1, x.f2, xs', ns'⟩ : S28).f3 = xs' from rfl, l3]; exact h.l4, by rw [show (⟨x.f0, x.f1, x.f2, xs', ns'⟩ : S28).f4 = ns' from rfl, l4]; exact h.l5, V, N, h.nd⟩, l3, l4, lc, m, mn⟩, hb, hk⟩
theorem heldValue_v (d : Nat) (x v' : S28) (hf : FitV d x) (w : World) (B4 : Option Addr) (b4 : Nat) (B5 : Option Addr) (b5 : Nat) (f4 f5 : List Nat) (h : TreeAt d w v' B4 b4 B5 b5 f4 f5) (l3 : v'.f3.length = x.f3.length) (l4 : v'.f4.length = x.f4.length) (lc : cnt d v'.f3 = cnt d x.f3)
    (m : Marks d v'.f3 1) (mn : NMarks v'.f4 (1 + (cnt d x.f3 : Nat))) :
    Calls Tryd.prog 28 #[.agg #[.int .i64 x.f0, .int .i64 x.f1.f0, .int .i64 x.f1.f1, .string x.f2, .slice B4 x.f3.length b4, .slice B5 x.f4.length b5], .int .i64 1] w fun e w' =>
      e = .returned (.int .i64 (1 + (cnt d x.f3 : Nat) + x.f4.length)) ∧ Below w.heap.size w w' := by
  have hc := heldValue_calls d w x.f0 x.f1.f0 x.f1.f1 x.f2 B4 b4 v'.f3 B5 b5 v'.f4 f4 f5 1 h.V h.N h.l4 h.l5 (by omega) (by have := hf.cn; omega) m (by rw [lc]; exact mn)
  rw [l3, l4, lc] at hc
  exact hc

theorem six_kept (w : World) (g : Nat) (v0 v1 v2 v3 v4 v5 : Value) :
    Kept w ((((((w.setCell ⟨g, 0, none⟩ v0).setCell ⟨g, 1, none⟩ v1).setCell ⟨g, 2, none⟩ v2).setCell ⟨g, 3, none⟩ v3).setCell ⟨g, 4, none⟩ v4).setCell ⟨g, 5, none⟩ v5) (fun q => q = g) :=
  ⟨by simp only [World.setCell, Array.size_modify]; exact Nat.le_refl _, fun q _ hq => six_same q hq⟩

end Go.Proofs.YtebcepbamlokcaaDoor.Q
