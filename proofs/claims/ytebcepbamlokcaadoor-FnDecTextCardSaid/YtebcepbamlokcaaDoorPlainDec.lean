/- Decimals as texts, in plain lists: what the numerals are, and that both readers read them back. -/
import Derived.Test.YtebcepbamlokcaaDoorQx9
import Derived.Lib.AtoiAll
import Derived.Lib.IndexMore
import Derived.Laws.Bits64
namespace Go.Proofs.YtebcepbamlokcaaDoor.Q
open Go.RowKit Go.Proofs.YtebcepbamlokcaaDoorW.PrintWords Go.Proofs.YtebcepbamlokcaaDoorW.PrintLast Go.Proofs.YtebcepbamlokcaaDoorW.PrintMore

/-! ### Bytes as lists -/
def bs (l : List UInt8) : ByteArray := ⟨l.toArray⟩
theorem bs_app (a b : List UInt8) : bs a ++ bs b = bs (a ++ b) := by
  apply ByteArray.ext
  rw [ByteArray.data_append]
  simp [bs]
theorem bs_size (a : List UInt8) : (bs a).size = a.length := by simp [bs, ByteArray.size]
theorem bs_data (a : List UInt8) : (bs a).data.toList = a := by simp [bs]
theorem bs_toList (a : List UInt8) : (bs a).toList = a := by rw [Lib.toList_data, bs_data]
theorem bs_extract (a : List UInt8) (i j : Nat) : (bs a).extract i j = bs ((a.drop i).take (j - i)) := by
  rw [Lib.extract_eq, bs_data]; rfl
theorem bs_bt (a : List UInt8) (i : Int) (c : UInt8) (h : a[i.toNat]? = some c) : bt (bs a) i = (c.toNat : Int) := by
  obtain ⟨hl, hc⟩ := List.getElem?_eq_some_iff.1 h
  unfold bt
  rw [dif_pos (by rw [bs_size]; exact hl)]
  rw [← hc]
  exact congrArg (fun c : UInt8 => (c.toNat : Int)) (List.getElem_toArray (xs := a) (i := i.toNat) (by simpa using hl))

/-! ### Rows of figures -/
def Dig (l : List UInt8) : Prop := ∀ c ∈ l, 48 ≤ c.toNat ∧ c.toNat ≤ 57
def valF (acc : Nat) (l : List UInt8) : Nat := l.foldl (fun a c => a * 10 + (c.toNat - 48)) acc
theorem valF_nil (acc : Nat) : valF acc [] = acc := List.foldl_nil
theorem valF_cons (acc : Nat) (c : UInt8) (r : List UInt8) : valF acc (c :: r) = valF (acc * 10 + (c.toNat - 48)) r := List.foldl_cons ..
theorem valF_app (acc : Nat) (a b : List UInt8) : valF acc (a ++ b) = valF (valF acc a) b := by
  induction a generalizing acc with
  | nil => rw [List.nil_append, valF_nil]
  | cons c r ih => rw [List.cons_append, valF_cons, valF_cons, ih]
theorem valF_ge (acc : Nat) (a : List UInt8) : acc ≤ valF acc a := by
  induction a generalizing acc with
  | nil => rw [valF_nil]; exact Nat.le_refl _
  | cons c r ih => rw [valF_cons]; exact Nat.le_trans (by omega) (ih _)
theorem valF_noughts (n : Nat) : valF 0 (List.replicate n 48) = 0 := by
  induction n with
  | zero => exact valF_nil 0
  | succ n ih => rw [List.replicate_succ, valF_cons, show 0 * 10 + ((48 : UInt8).toNat - 48) = 0 from by decide]; exact ih
theorem valF_noughts_after (acc n : Nat) : valF acc (List.replicate n 48) = acc * 10 ^ n := by
  induction n generalizing acc with
  | zero => rw [List.replicate_zero, valF_nil]; omega
  | succ n ih =>
    have e : acc * 10 + ((48 : UInt8).toNat - 48) = acc * 10 := by
      have : (48 : UInt8).toNat = 48 := by decide
      omega
    rw [List.replicate_succ, valF_cons, e, ih, Nat.pow_succ, Nat.mul_comm (10 ^ n) 10, Nat.mul_assoc]
theorem Dig.noughts (n : Nat) : Dig (List.replicate n 48) := by
  intro c hc
  rw [(List.mem_replicate.1 hc).2]
  decide
theorem Dig.app {a b : List UInt8} (ha : Dig a) (hb : Dig b) : Dig (a ++ b) := by
  intro c hc
  rcases List.mem_append.1 hc with h | h
  · exact ha c h
  · exact hb c h
theorem Dig.of_app_left {a b : List UInt8} (h : Dig (a ++ b)) : Dig a := fun c hc => h c (List.mem_append_left _ hc)
theorem Dig.take {a : List UInt8} (h : Dig a) (n : Nat) : Dig (a.take n) := fun c hc => h c (List.mem_of_mem_take hc)
theorem Dig.drop {a : List UInt8} (h : Dig a) (n : Nat) : Dig (a.drop n) := fun c hc => h c (List.mem_of_mem_drop hc)

theorem nat8 (n : Nat) (h : n < 256) : (UInt8.ofNat n).toNat = n := by
  rw [UInt8.toNat_ofNat']; exact Nat.mod_eq_of_lt h
theorem decDigits_all (u : Nat) : Dig (Lib.decDigits u) ∧ valF 0 (Lib.decDigits u) = u ∧ Lib.decDigits u ≠ [] ∧ ((Lib.decDigits u).head? = some 48 → u = 0) := by
  induction u using Nat.strongRecOn with
  | _ u ih =>
    by_cases h : u < 10
    · rw [Lib.decDigits, dif_pos h]
      have e : (UInt8.ofNat (48 + u)).toNat = 48 + u := nat8 _ (by omega)
      refine ⟨fun c hc => ?_, ?_, by simp, fun hh => ?_⟩
      · rw [List.mem_singleton.1 hc, e]; omega
      · rw [valF_cons, valF_nil, e]; omega
      · simp only [List.head?_cons, Option.some.injEq] at hh
        have := congrArg UInt8.toNat hh
        rw [e] at this
        have h48 : (48 : UInt8).toNat = 48 := rfl
        omega
    · obtain ⟨h1, h2, h3, h4⟩ := ih (u / 10) (by omega)
      rw [Lib.decDigits, dif_neg h]
      have e : (UInt8.ofNat (48 + u % 10)).toNat = 48 + u % 10 := nat8 _ (by omega)
      refine ⟨h1.app fun c hc => ?_, ?_, by simp, fun hh => ?_⟩
      · rw [List.mem_singleton.1 hc, e]; omega
      · rw [valF_app, h2]; rw [valF_cons, valF_nil, e]; omega
      · rw [List.head?_append, Option.or_eq_some_iff] at hh
        rcases hh with hh | ⟨hh, _⟩
        case inr => exact absurd (List.head?_eq_none_iff.1 hh) h3
        have := h4 hh
        omega

/-! ### strconv.Atoi on figures -/
theorem parseUint10_dig (l : List UInt8) : ∀ acc, Dig l → valF acc l < 9223372036854775808 → Lib.parseUint10 acc l = .ok (valF acc l) := by
  induction l with
  | nil => intro acc _ _; rw [valF_nil]; rfl
  | cons c r ih =>
    intro acc hd hv
    have hc := hd c List.mem_cons_self
    rw [valF_cons] at hv
    have hge := valF_ge (acc * 10 + (c.toNat - 48)) r
    simp only [Lib.parseUint10]
    rw [valF_cons]
    rw [if_pos hc, if_neg (by omega), if_neg (by omega)]
    exact ih _ (fun x hx => hd x (List.mem_cons_of_mem _ hx)) hv
theorem atoiAll_dig (l : List UInt8) (hd : Dig l) (hn : l ≠ []) (hv : valF 0 l < 9223372036854775808) : Lib.atoiAll l = .ok (valF 0 l : Int) := by
  cases l with
  | nil => exact absurd rfl hn
  | cons c r =>
    have hc := hd c List.mem_cons_self
    unfold Lib.atoiAll Lib.parseMag
    simp only
    rw [if_neg (show ¬ (c.toNat = 43 ∨ c.toNat = 45) by omega), if_neg (by simp), parseUint10_dig _ _ hd hv]
    simp only
    have hne : ¬ c.toNat = 45 := by omega
    simp only [hne, not_false_eq_true, true_and, false_and, if_false]
    rw [if_neg (by omega)]

/-! ### strings.Cut at the point -/
theorem index_none_dig (l : List UInt8) (hd : Dig l) : Lib.index l [46] = -1 := by
  induction l with
  | nil => rfl
  | cons c r ih =>
    have hc := hd c List.mem_cons_self
    have hne : ((46 : UInt8) == c) = false := by
      rw [beq_eq_false_iff_ne]; intro h; rw [← h] at hc; exact absurd hc (by decide)
    unfold Lib.index
    rw [if_neg (by simp [List.isPrefixOf, hne])]
    rw [ih (fun x hx => hd x (List.mem_cons_of_mem _ hx))]
    rfl
theorem index_some_dig (a b : List UInt8) (hd : Dig a) : Lib.index (a ++ 46 :: b) [46] = (a.length : Int) := by
  induction a with
  | nil => rfl
  | cons c r ih =>
    have hc := hd c List.mem_cons_self
    have hne : ((46 : UInt8) == c) = false := by
      rw [beq_eq_false_iff_ne]; intro h; rw [← h] at hc; exact absurd hc (by decide)
    rw [List.cons_append]
    unfold Lib.index
    rw [if_neg (by simp [List.isPrefixOf, hne])]
    rw [ih (fun x hx => hd x (List.mem_cons_of_mem _ hx))]
    have : ((r.length : Int) == -1) = false := by rw [beq_eq_false_iff_ne]; omega
    simp [this]
theorem cut_none (l : List UInt8) (hd : Dig l) : Lib.cut l [46] = (l, [], false) := by
  unfold Lib.cut
  rw [index_none_dig l hd]
  rfl
theorem cut_some (a b : List UInt8) (hd : Dig a) : Lib.cut (a ++ 46 :: b) [46] = (a, b, true) := by
  unfold Lib.cut
  rw [index_some_dig a b hd, if_pos (by omega)]
  simp

/-! ### The text of a decimal -/
def Ok (m e : Int) : Prop := (m = 0 ∧ e = 0) ∨ (m ≠ 0 ∧ -99999999 ≤ m ∧ m ≤ 99999999 ∧ -8 ≤ e ∧ e ≤ 8 ∧ Int.tmod m 10 ≠ 0)
instance (m e : Int) : Decidable (Ok m e) := by unfold Ok; infer_instance
def padL (u n : Nat) : List UInt8 := List.replicate (n + 1 - (Lib.decDigits u).length) 48 ++ Lib.decDigits u
/-- The text of u·10^e. -/
def bodyL (u : Nat) (e : Int) : List UInt8 :=
  if 0 ≤ e then Lib.decDigits u ++ List.replicate e.toNat 48
  else (padL u (-e).toNat).take ((padL u (-e).toNat).length - (-e).toNat) ++ 46 :: (padL u (-e).toNat).drop ((padL u (-e).toNat).length - (-e).toNat)
def textL (m e : Int) : List UInt8 := if m < 0 then 45 :: bodyL m.natAbs e else bodyL m.natAbs e

theorem Ok.iff {m e t : Int} (h : Int.tmod m 10 = t) : Ok m e ↔ (m = 0 ∧ e = 0) ∨ (m ≠ 0 ∧ -99999999 ≤ m ∧ m ≤ 99999999 ∧ -8 ≤ e ∧ e ≤ 8 ∧ t ≠ 0) := by rw [← h]; exact Iff.rfl
theorem impl_ok {m e : Int} : impl_DecOk.f m e = some (decide (Ok m e)) := by
  have hz : m = 0 → Int.tmod m 10 = 0 := by rintro rfl; rfl
  obtain ⟨t, ht⟩ : ∃ t, Int.tmod m 10 = t := ⟨_, rfl⟩
  have hok := Ok.iff (e := e) ht
  unfold impl_DecOk.f
  rw [ht] at hz ⊢
  by_cases h1 : -99999999 ≤ m
  · rw [if_pos h1]
    by_cases h2 : m ≤ 99999999
    · rw [if_pos h2]
      by_cases h3 : -8 ≤ e
      · rw [if_pos h3]
        by_cases h4 : e ≤ 8
        · rw [if_pos h4]
          by_cases h5 : t = 0
          · rw [if_pos h5]
            by_cases h6 : m = 0
            · by_cases h7 : e = 0
              · rw [decide_eq_true (hok.2 (by omega))]; simp [h6, h7]
              · rw [decide_eq_false (fun h => absurd (hok.1 h) (by omega))]; simp [h7]
            · rw [decide_eq_false (fun h => absurd (hok.1 h) (by omega))]; simp [h6]
          · rw [if_neg h5, decide_eq_true (hok.2 (by omega))]
        · rw [if_neg h4, decide_eq_false (fun h => absurd (hok.1 h) (by omega))]
      · rw [if_neg h3, decide_eq_false (fun h => absurd (hok.1 h) (by omega))]
    · rw [if_neg h2, decide_eq_false (fun h => absurd (hok.1 h) (by omega))]
  · rw [if_neg h1, decide_eq_false (fun h => absurd (hok.1 h) (by omega))]
theorem spec_ok {m e : Int} : spec_DecOk.f m e = some (decide (Ok m e)) := by
  obtain ⟨t, ht⟩ : ∃ t, Int.tmod m 10 = t := ⟨_, rfl⟩
  have hok := Ok.iff (e := e) ht
  unfold spec_DecOk.f spec_l1In.f
  by_cases h0 : m = 0
  · rw [if_pos h0]
    by_cases h1 : e = 0
    · rw [decide_eq_true (hok.2 (by omega))]; simp [h1]
    · rw [decide_eq_false (fun h => absurd (hok.1 h) (by omega))]; simp [h1]
  · rw [if_neg h0]
    rw [ht]
    by_cases h1 : m ≥ -99999999
    · rw [if_pos h1]
      by_cases h2 : m ≤ 99999999
      · rw [decide_eq_true h2]
        rw [Option.bind_some, if_pos rfl]
        by_cases h3 : e ≥ -8
        · rw [if_pos h3]
          by_cases h4 : e ≤ 8
          · rw [decide_eq_true h4]
            rw [Option.bind_some, if_pos rfl]
            by_cases h5 : t = 0
            · rw [decide_eq_false (fun h => absurd (hok.1 h) (by omega))]; simp [h5]
            · rw [decide_eq_true (hok.2 (by omega))]; simp [h5]
          · rw [decide_eq_false h4, decide_eq_false (fun h => absurd (hok.1 h) (by omega))]; rfl
        · rw [if_neg h3, decide_eq_false (fun h => absurd (hok.1 h) (by omega))]; rfl
      · rw [decide_eq_false h2, decide_eq_false (fun h => absurd (hok.1 h) (by omega))]; rfl
    · rw [if_neg h1, decide_eq_false (fun h => absurd (hok.1 h) (by omega))]; rfl

/-! ### impl.DecText gives the text -/
theorem repeatL_48 (n : Nat) : Lib.repeatL [48] n = List.replicate n 48 := by
  induction n with
  | zero => rfl
  | succ n ih => rw [Lib.repeatL, ih]; rfl
theorem Ok.small {m e : Int} (h : Ok m e) : m.natAbs ≤ 99999999 ∧ -8 ≤ e ∧ e ≤ 8 := by
  rcases h with h | h <;> omega
theorem decDigits_le8 {u : Nat} (h : u ≤ 99999999) : 1 ≤ (Lib.decDigits u).length ∧ (Lib.decDigits u).length ≤ 8 := by
  rw [Lib.decDigits_length]
  exact ⟨Lib.nDigits_pos _, nDigits_le 8 u (by omega) (by omega)⟩
theorem absB_bs (m : Int) : absB m = bs (Lib.decDigits m.natAbs) := by
  unfold absB bs Lib.itoa
  have : mx m (-m) = (m.natAbs : Int) := by unfold mx; split <;> omega
  rw [this, if_neg (by omega)]
  rfl
theorem padB_bs (m e : Int) (h : e < 0) : padB m e = bs (padL m.natAbs (-e).toNat) := by
  unfold padB padL noughtsB
  rw [absB_bs, bs_size]
  split
  · rename_i h1
    rw [repeatL_48]
    show bs _ ++ bs _ = _
    rw [bs_app]
    congr 3
    omega
  · rename_i h1
    rw [show (-e).toNat + 1 - (Lib.decDigits m.natAbs).length = 0 by omega]
    rfl
theorem padL_length (u n : Nat) : n < (padL u n).length := by
  unfold padL
  rw [List.length_append, List.length_replicate]
  omega
theorem minusB_bs (m : Int) (l : List UInt8) : minusB m ++ bs l = bs (if m < 0 then 45 :: l else l) := by
  unfold minusB
  split
  · show bs [45] ++ bs l = _
    rw [bs_app]; rfl
  · show bs [] ++ bs l = _
    rw [bs_app]; rfl
theorem decTextB_bs (m e : Int) : decTextB m e = bs (textL m e) := by
  have hp := padL_length m.natAbs (-e).toNat
  unfold decTextB textL bodyL
  by_cases h : 0 ≤ e
  · rw [if_pos h, if_pos h, absB_bs, minusB_bs]
    unfold noughtsB
    rw [repeatL_48]
    show bs _ ++ bs _ = _
    rw [bs_app]
    split <;> rfl
  · rw [if_neg h, if_neg h, padB_bs m e (by omega), bs_size, bs_extract, bs_extract, minusB_bs]
    show bs _ ++ bs [46] ++ bs _ = _
    rw [bs_app, bs_app, List.drop_zero, Nat.sub_zero]
    have e1 : (((padL m.natAbs (-e).toNat).length : Int) + e).toNat = (padL m.natAbs (-e).toNat).length - (-e).toNat := by omega
    rw [e1]
    have e2 : ((padL m.natAbs (-e).toNat).drop ((padL m.natAbs (-e).toNat).length - (-e).toNat)).take ((padL m.natAbs (-e).toNat).length - ((padL m.natAbs (-e).toNat).length - (-e).toNat)) = (padL m.natAbs (-e).toNat).drop ((padL m.natAbs (-e).toNat).length - (-e).toNat) := by
      rw [List.take_of_length_le]
      rw [List.length_drop]
      omega
    rw [e2]
    split <;> simp
theorem impl_text {m e : Int} (h : Ok m e) : impl_DecText.f m e = some (bs (textL m e)) := by
  unfold impl_DecText.f
  rw [impl_ok, decide_eq_true h, decTextB_bs]; rfl
theorem impl_text_no {m e : Int} (h : ¬ Ok m e) : impl_DecText.f m e = some (bs []) := by
  unfold impl_DecText.f
  rw [impl_ok, decide_eq_false h]; rfl

/-! ### spec.DecText gives the text -/
theorem w64 {n : Int} (h0 : -9223372036854775808 ≤ n) (h1 : n ≤ 9223372036854775807) : wrap64 n = n := by unfold wrap64; omega
theorem tdivN (u : Nat) : Int.tdiv (u : Int) 10 = ((u / 10 : Nat) : Int) := by rw [Int.tdiv_eq_ediv_of_nonneg (by omega)]; omega
theorem tmodN (u : Nat) : Int.tmod (u : Int) 10 = ((u % 10 : Nat) : Int) := by rw [Int.tmod_eq_emod_of_nonneg (by omega)]; omega
theorem digStr (u : Nat) (h : u < 10) : strOfNums ([(wrap64 (48 + (u : Int))) % 256] : List Int) = bs [UInt8.ofNat (48 + u)] := by
  rw [w64 (by omega) (by omega), show (48 + (u : Int)) % 256 = ((48 + u : Nat) : Int) by omega]
  rfl
theorem spec_dec : ∀ (n u : Nat), 1 ≤ n → n ≤ 8 → u < 10 ^ n → ∀ k, n ≤ k → spec_l1Dec.f k (u : Int) = some (bs (Lib.decDigits u))
  | 0, _, h, _, _, _, _ => absurd h (by omega)
  | n + 1, u, _, h8, hu, 0, hk => absurd hk (by omega)
  | n + 1, u, _, h8, hu, k + 1, hk => by
    have hb : u ≤ 99999999 := by
      have : (10 : Nat) ^ (n + 1) ≤ 10 ^ 8 := Nat.pow_le_pow_right (by omega) h8
      omega
    rw [spec_l1Dec.f, if_neg (by omega), if_neg (by omega)]
    by_cases h : u < 10
    · rw [if_pos (by omega), digStr u h, Lib.decDigits, dif_pos h]
    · rw [if_neg (by omega), tdivN, tmodN, w64 (by omega) (by omega)]
      have hn : 1 ≤ n := by
        rcases Nat.eq_zero_or_pos n with h0 | h0
        · subst h0; simp at hu; omega
        · exact h0
      rw [spec_dec n (u / 10) hn (by omega) (by rw [Nat.pow_succ] at hu; omega) k (by omega), Option.bind_some, Option.bind_some, digStr _ (Nat.mod_lt _ (by omega))]
      have hl := (decDigits_le8 (u := u / 10) (by omega)).2
      rw [if_pos (by rw [bs_size, bs_size]; simp; omega), bs_app]
      conv => rhs; rw [Lib.decDigits, dif_neg h]
theorem spec_many_l0 : ∀ (n e a b : Nat), e < 2 ^ n → n ≤ 10 → 1 ≤ a → a * 2 ^ n ≤ 1024 → b + 1024 * n ≤ 20000 → ∀ k, n < k →
    spec_l1Many.l0 k (bs (List.replicate a 48)) (e : Int) (bs (List.replicate b 48)) = some (bs (List.replicate (b + a * e) 48))
  | _, _, _, _, _, _, _, _, _, 0, hk => absurd hk (by omega)
  | 0, e, a, b, he, hu, h1, hs, hb, k + 1, hk => by
    have : e = 0 := by simpa using he
    subst this
    rw [spec_l1Many.l0, if_neg (by omega), Nat.mul_zero, Nat.add_zero]
  | n + 1, e, a, b, he, hu, h1, hs, hb, k + 1, hk => by
    rw [spec_l1Many.l0]
    by_cases h0 : e = 0
    · subst h0
      rw [if_neg (by omega), Nat.mul_zero, Nat.add_zero]
    · have hpos : (e : Int) > 0 := by omega
      have hle : 2 ^ (n + 1) ≤ 2 ^ 10 := Nat.pow_le_pow_right (by omega) hu
      have he2 : e / 2 < 2 ^ n := by rw [Nat.pow_succ] at he; omega
      have hmod : e % 2 = 1 ∨ e % 2 = 0 := by omega
      have e1 : a * (2 ^ n * 2) = (a + a) * 2 ^ n := by rw [Nat.mul_comm (2 ^ n) 2, ← Nat.mul_assoc, Nat.mul_two]
      rw [Nat.pow_succ, e1] at hs
      have ha : a + a ≤ 1024 := Nat.le_trans (Nat.le_mul_of_pos_right _ Nat.one_le_two_pow) hs
      have hm : Int.tmod (e : Int) 2 = ((e % 2 : Nat) : Int) := by rw [Int.tmod_eq_emod_of_nonneg (by omega)]; omega
      have hd : Int.tdiv (e : Int) 2 = ((e / 2 : Nat) : Int) := by rw [Int.tdiv_eq_ediv_of_nonneg (by omega)]; omega
      have hw : wrap64 ((e / 2 : Nat) : Int) = ((e / 2 : Nat) : Int) := w64 (by omega) (by omega)
      have hae : (a + a) * (e / 2) + a * (e % 2) = a * e := by
        have : e = 2 * (e / 2) + e % 2 := by omega
        conv => rhs; rw [this, Nat.mul_add, ← Nat.mul_assoc, Nat.mul_two]
      have s1 : b + a ≤ 9223372036854775807 := by omega
      have s2 : a + a ≤ 9223372036854775807 := by omega
      have b1 : b + a + 1024 * n ≤ 20000 := by omega
      have b2 : b + 1024 * n ≤ 20000 := by omega
      rw [if_pos hpos, hm, hd, hw, bs_app, bs_app, List.replicate_append_replicate, List.replicate_append_replicate]
      simp only [bs_size, List.length_replicate]
      rcases hmod with hp | hp
      · rw [hp, Nat.mul_one] at hae
        have e2 : b + a + (a + a) * (e / 2) = b + a * e := by omega
        rw [hp, if_pos (show ((1 : Nat) : Int) = 1 by decide), if_pos s1, if_pos s2, spec_many_l0 n (e / 2) (a + a) (b + a) he2 (by omega) (by omega) hs b1 k (by omega), e2]
      · rw [hp, Nat.mul_zero] at hae
        have e2 : b + (a + a) * (e / 2) = b + a * e := by omega
        rw [hp, if_neg (by decide), if_pos s2, spec_many_l0 n (e / 2) (a + a) b he2 (by omega) (by omega) hs b2 k (by omega), e2]
theorem spec_many (e : Int) (h0 : 0 ≤ e) (h8 : e ≤ 8) (k : Nat) (hk : 10 ≤ k) : spec_l1Many.f k (⟨#[48]⟩ : ByteArray) e = some (bs (List.replicate e.toNat 48)) := by
  have := spec_many_l0 4 e.toNat 1 0 (by omega) (by omega) (by omega) (by omega) (by omega) k (by omega)
  rw [show ((e.toNat : Nat) : Int) = e by omega, Nat.zero_add, Nat.one_mul] at this
  exact this
theorem spec_pad (m e : Int) (he : -8 ≤ e) (he0 : e < 0) : ∀ (n : Nat) (l : List UInt8), l.length ≤ 100 → 1 ≤ l.length → (-e).toNat + 1 - l.length = n → ∀ k, n < k →
    spec_l1Text.l0 k (bs l) m e = some (bs ((List.replicate n 48 ++ l).take ((List.replicate n 48 ++ l).length - (-e).toNat) ++ 46 :: (List.replicate n 48 ++ l).drop ((List.replicate n 48 ++ l).length - (-e).toNat)))
  | 0, l, hl, hl1, hn, 0, hk => absurd hk (by omega)
  | n + 1, l, hl, hl1, hn, 0, hk => absurd hk (by omega)
  | 0, l, hl, hl1, hn, k + 1, hk => by
    rw [spec_l1Text.l0, bs_size, w64 (n := -e) (by omega) (by omega), if_neg (by omega), w64 (n := (l.length : Int) + e) (by omega) (by omega), if_pos (by omega), if_pos (by omega), bs_extract, bs_extract]
    rw [show (⟨#[46]⟩ : ByteArray) = bs [46] from rfl, bs_app, bs_app, bs_size, bs_size, bs_size]
    have e1 : ((l.length : Int) + e).toNat = l.length - (-e).toNat := by omega
    rw [e1, List.drop_zero, Nat.sub_zero]
    have e2 : (l.drop (l.length - (-e).toNat)).take (l.length - (l.length - (-e).toNat)) = l.drop (l.length - (-e).toNat) := by
      rw [List.take_of_length_le]
      rw [List.length_drop]
      omega
    rw [e2, if_pos (by rw [List.length_take]; omega), if_pos (by rw [List.length_append, List.length_take, List.length_drop]; simp; omega)]
    simp
  | n + 1, l, hl, hl1, hn, k + 1, hk => by
    rw [spec_l1Text.l0, bs_size, w64 (n := -e) (by omega) (by omega), if_pos (by omega), if_pos (by omega)]
    rw [show (⟨#[48]⟩ : ByteArray) = bs [48] from rfl, bs_app]
    have := spec_pad m e he he0 n (48 :: l) (by simp; omega) (by simp) (by simp; omega) k (by omega)
    rw [List.singleton_append, this, List.replicate_succ']
    simp
theorem spec_body (u : Nat) (e : Int) (hu : u ≤ 99999999) (h0 : -8 ≤ e) (h8 : e ≤ 8) (k : Nat) (hk : 20 ≤ k) : spec_l1Text.f k (u : Int) e = some (bs (bodyL u e)) := by
  obtain ⟨k, rfl⟩ : ∃ j, k = j + 1 := ⟨k - 1, by omega⟩
  have hd := decDigits_le8 hu
  rw [spec_l1Text.f, if_neg (by omega), spec_dec 8 u (by omega) (by omega) (by omega) k (by omega), Option.bind_some]
  unfold bodyL
  by_cases h : 0 ≤ e
  · rw [if_pos h, if_pos h, spec_many e h h8 k (by omega), Option.bind_some, bs_size, bs_size, if_pos (by rw [List.length_replicate]; omega), bs_app]
  · rw [if_neg h, if_neg h, spec_pad u e h0 (by omega) _ _ (by omega) hd.1 rfl k (by omega)]
    rfl
theorem spec_textL (m e : Int) (hm : m.natAbs ≤ 99999999) (h0 : -8 ≤ e) (h8 : e ≤ 8) (k : Nat) (hk : 21 ≤ k) : spec_l1Text.f k m e = some (bs (textL m e)) := by
  unfold textL
  by_cases h : m < 0
  · obtain ⟨k, rfl⟩ : ∃ j, k = j + 1 := ⟨k - 1, by omega⟩
    rw [spec_l1Text.f, if_pos h, if_pos h]
    unfold spec_l1Neg.f
    rw [Option.bind_some, w64 (by omega) (by omega)]
    show (spec_l1Text.f k (-m) e).bind _ = _
    rw [show -m = (m.natAbs : Int) by omega, spec_body m.natAbs e hm h0 h8 k (by omega), Option.bind_some]
    have hd := decDigits_le8 hm
    have : (bodyL m.natAbs e).length ≤ 100 := by
      unfold bodyL padL
      split
      · rw [List.length_append, List.length_replicate]; omega
      · simp only [List.length_append, List.length_cons, List.length_take, List.length_drop, List.length_replicate]; omega
    rw [if_pos (by rw [bs_size]; omega), show (⟨#[45]⟩ : ByteArray) = bs [45] from rfl, bs_app]
    rfl
  · rw [if_neg h]
    have := spec_body m.natAbs e hm h0 h8 k (by omega)
    rw [show (m.natAbs : Int) = m by omega] at this
    exact this
end Go.Proofs.YtebcepbamlokcaaDoor.Q
