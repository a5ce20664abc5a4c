/- Decimals as texts, in plain lists: both readers read the text back. -/
import Derived.Test.YtebcepbamlokcaaDoorPlainDec
namespace Go.Proofs.YtebcepbamlokcaaDoor.Q
open Go.RowKit Go.Proofs.YtebcepbamlokcaaDoorW.PrintWords Go.Proofs.YtebcepbamlokcaaDoorW.PrintLast Go.Proofs.YtebcepbamlokcaaDoorW.PrintMore

/-- What the text of a decimal is made of: the figures ahead of the point, and those behind it. -/
structure Halves (u : Nat) (e : Int) (W Q : List UInt8) : Prop where
  digW : Dig W
  digQ : Dig Q
  one : 1 ≤ W.length
  head : W[0]? = some 48 → W.length = 1
  body : bodyL u e = if e < 0 then W ++ 46 :: Q else W
  after : Q.length = (-e).toNat
  few : W.length + Q.length ≤ 17
  val : valF 0 (W ++ Q) = u * 10 ^ e.toNat

theorem decDigits_head {u : Nat} (hu : u ≠ 0) (l : List UInt8) : (Lib.decDigits u ++ l)[0]? ≠ some 48 := by
  intro h
  obtain ⟨_, _, h3, h4⟩ := decDigits_all u
  cases hd : Lib.decDigits u with
  | nil => exact h3 hd
  | cons c r =>
    rw [hd] at h h4
    exact hu (h4 (by simpa using h))
theorem halves {m e : Int} (h : Ok m e) : ∃ W Q, Halves m.natAbs e W Q := by
  obtain ⟨hm, he0, he8⟩ := h.small
  obtain ⟨d1, d2, d3, d4⟩ := decDigits_all m.natAbs
  have hl := decDigits_le8 hm
  by_cases h0 : 0 ≤ e
  · refine ⟨Lib.decDigits m.natAbs ++ List.replicate e.toNat 48, [], ⟨d1.app (Dig.noughts _), (fun c hc => by cases hc), ?_, ?_, ?_, ?_, ?_, ?_⟩⟩
    · rw [List.length_append]; omega
    · intro hh
      by_cases hz : m.natAbs = 0
      · have he : e = 0 := by rcases h with h | h <;> omega
        subst he
        rw [hz, Lib.decDigits]; simp
      · exact absurd hh (decDigits_head hz _)
    · unfold bodyL; rw [if_pos h0, if_neg (by omega)]
    · simp; omega
    · simp; omega
    · rw [List.append_nil, valF_app, d2, valF_noughts_after]
  · have hz : m.natAbs ≠ 0 := by rcases h with h | h <;> omega
    have hp := padL_length m.natAbs (-e).toNat
    have hd : Dig (padL m.natAbs (-e).toNat) := (Dig.noughts _).app d1
    have hle : (padL m.natAbs (-e).toNat).length ≤ 9 := by
      unfold padL
      rw [List.length_append, List.length_replicate]
      omega
    refine ⟨(padL m.natAbs (-e).toNat).take ((padL m.natAbs (-e).toNat).length - (-e).toNat), (padL m.natAbs (-e).toNat).drop ((padL m.natAbs (-e).toNat).length - (-e).toNat), ⟨hd.take _, hd.drop _, ?_, ?_, ?_, ?_, ?_, ?_⟩⟩
    · rw [List.length_take]; omega
    · intro hh
      rw [List.length_take]
      by_cases hpad : (-e).toNat + 1 ≤ (Lib.decDigits m.natAbs).length
      · exfalso
        have e0 : padL m.natAbs (-e).toNat = Lib.decDigits m.natAbs ++ [] := by
          unfold padL
          rw [show (-e).toNat + 1 - (Lib.decDigits m.natAbs).length = 0 by omega]
          simp
        rw [e0] at hh
        rw [List.getElem?_take] at hh
        split at hh
        · exact decDigits_head hz _ hh
        · cases hh
      · have : (padL m.natAbs (-e).toNat).length = (-e).toNat + 1 := by
          unfold padL
          rw [List.length_append, List.length_replicate]
          omega
        omega
    · unfold bodyL; rw [if_neg h0, if_pos (by omega)]
    · rw [List.length_drop]; omega
    · rw [List.length_take, List.length_drop]; omega
    · rw [List.take_append_drop]
      unfold padL
      rw [valF_app, valF_noughts, d2, show e.toNat = 0 by omega]; simp

/-! ### What the two do at the end: the noughts go -/
theorem pow_le8 (j : Nat) (h : j ≤ 8) : 10 ^ j ≤ 100000000 ∧ 1 ≤ 10 ^ j := ⟨Nat.pow_le_pow_right (n := 10) (by omega) h, Nat.one_le_pow _ _ (by omega)⟩
theorem tmod10 (x : Int) : Int.tmod (x * 10) 10 = 0 := Int.mul_tmod_left x 10
theorem tdiv10 (x : Int) : Int.tdiv (x * 10) 10 = x := Int.mul_tdiv_cancel x (by decide)
def Sized (m : Int) (j : Nat) : Prop := -9999999900000000 ≤ m * 10 ^ j ∧ m * 10 ^ j ≤ 9999999900000000
theorem sized {m : Int} (hm : m.natAbs ≤ 99999999) (j : Nat) (hj : j ≤ 8) : Sized m j := by
  obtain ⟨h1, h2⟩ := pow_le8 j hj
  unfold Sized
  have hc : (10 : Int) ^ j = ((10 ^ j : Nat) : Int) := by simp
  rw [hc]
  generalize (10 ^ j : Nat) = p at h1 h2
  have h3 : m.natAbs * p ≤ 99999999 * 100000000 := Nat.mul_le_mul hm h1
  have h4 : (m * (p : Int)).natAbs = m.natAbs * p := by rw [Int.natAbs_mul]; simp
  omega
theorem powSucc (m : Int) (j : Nat) : m * 10 ^ (j + 1) = m * 10 ^ j * 10 := by rw [Int.pow_succ, Int.mul_assoc]
theorem impl_form_l0 {m e : Int} (h : Ok m e) (h0 : m ≠ 0) : ∀ (j : Nat) (e0 : Int), e0 + j = e → j ≤ 8 → -100 ≤ e0 → ∀ k, j < k → impl_form.l0 k (m * 10 ^ j) e0 = some (m, e, true)
  | _, _, _, _, _, 0, hk => absurd hk (by omega)
  | 0, e0, he, hj, hl, k + 1, hk => by
    have ht : Int.tmod m 10 ≠ 0 := by rcases h with h | h <;> omega
    have e1 : m * 10 ^ 0 = m := by rw [Int.pow_zero, Int.mul_one]
    have e2 : e0 = e := by omega
    rw [impl_form.l0, e1, if_neg ht, e2, impl_ok, decide_eq_true h]; rfl
  | j + 1, e0, he, hj, hl, k + 1, hk => by
    obtain ⟨hm, _, _⟩ := h.small
    obtain ⟨s1, s2⟩ := sized hm j (by omega)
    rw [impl_form.l0, powSucc, tmod10, if_pos rfl, tdiv10, w64 (by omega) (by omega), w64 (by omega) (by omega)]
    exact impl_form_l0 h h0 j (e0 + 1) (by omega) (by omega) (by omega) k (by omega)
theorem impl_form_ok {m e : Int} (h : Ok m e) (j : Nat) (e0 : Int) (he : e0 + j = e) (hj : j ≤ 8) (hl : -100 ≤ e0) (k : Nat) (hk : 9 < k) : impl_form.f k (m * 10 ^ j) e0 = some (m, e, true) := by
  unfold impl_form.f
  by_cases h0 : m = 0
  · have : e = 0 := by rcases h with h | h <;> omega
    subst h0; subst this
    rw [Int.zero_mul, if_pos rfl]
  · rw [if_neg, impl_form_l0 h h0 j e0 he hj hl k (by omega)]
    intro hz
    rcases Int.mul_eq_zero.1 hz with h1 | h1
    · exact h0 h1
    · exact absurd h1 (by have := (pow_le8 j hj).2; have hc : (10 : Int) ^ j = ((10 ^ j : Nat) : Int) := by simp
                          omega)
theorem spec_form_l0 {m e : Int} (h : Ok m e) (h0 : m ≠ 0) : ∀ (j : Nat) (e0 : Int), e0 + j = e → j ≤ 8 → -100 ≤ e0 → ∀ k, j < k → spec_l1New.l0 k (m * 10 ^ j) e0 = some (m, e, true)
  | _, _, _, _, _, 0, hk => absurd hk (by omega)
  | 0, e0, he, hj, hl, k + 1, hk => by
    have ht : Int.tmod m 10 ≠ 0 := by rcases h with h | h <;> omega
    have e1 : m * 10 ^ 0 = m := by rw [Int.pow_zero, Int.mul_one]
    have e2 : e0 = e := by omega
    rw [spec_l1New.l0, e1, if_neg ht, e2, spec_ok, decide_eq_true h]; rfl
  | j + 1, e0, he, hj, hl, k + 1, hk => by
    obtain ⟨hm, _, _⟩ := h.small
    obtain ⟨s1, s2⟩ := sized hm j (by omega)
    rw [spec_l1New.l0, powSucc, tmod10, if_pos rfl, tdiv10, w64 (by omega) (by omega), w64 (by omega) (by omega)]
    exact spec_form_l0 h h0 j (e0 + 1) (by omega) (by omega) (by omega) k (by omega)
theorem spec_form_ok {m e : Int} (h : Ok m e) (j : Nat) (e0 : Int) (he : e0 + j = e) (hj : j ≤ 8) (hl : -100 ≤ e0) (k : Nat) (hk : 9 < k) : spec_l1New.f k (m * 10 ^ j) e0 = some (m, e, true) := by
  unfold spec_l1New.f
  by_cases h0 : m = 0
  · have : e = 0 := by rcases h with h | h <;> omega
    subst h0; subst this
    rw [Int.zero_mul, if_pos rfl]
  · rw [if_neg, spec_form_l0 h h0 j e0 he hj hl k (by omega)]
    intro hz
    rcases Int.mul_eq_zero.1 hz with h1 | h1
    · exact h0 h1
    · exact absurd h1 (by have := (pow_le8 j hj).2; have hc : (10 : Int) ^ j = ((10 ^ j : Nat) : Int) := by simp
                          omega)

/-! ### impl.DecRead -/
theorem cp_minus (l : List UInt8) : strings_CutPrefix.f (bs (45 :: l)) (⟨#[45]⟩ : ByteArray) = some (bs l, true) := by
  unfold strings_CutPrefix.f stringslite_CutPrefix.f stringslite_HasPrefix.f
  rw [show (⟨#[45]⟩ : ByteArray) = bs [45] from rfl]
  simp only [bs_size, bs_extract, bs_toList, List.length_cons, List.length_nil]
  have h1 : ((l.length + 1 : Nat) : Int) ≥ ((0 + 1 : Nat) : Int) := by omega
  have h2 : (0 : Int) ≤ ((0 + 1 : Nat) : Int) := by omega
  rw [if_pos h1, if_pos h2, if_pos h1]
  simp [show (1 : Int) ≤ (l.length : Int) + 1 by omega]
theorem cp_plain (c : UInt8) (l : List UInt8) (hc : c ≠ 45) : strings_CutPrefix.f (bs (c :: l)) (⟨#[45]⟩ : ByteArray) = some (bs (c :: l), false) := by
  unfold strings_CutPrefix.f stringslite_CutPrefix.f stringslite_HasPrefix.f
  rw [show (⟨#[45]⟩ : ByteArray) = bs [45] from rfl]
  simp only [bs_size, bs_extract, bs_toList, List.length_cons, List.length_nil]
  have h1 : ((l.length + 1 : Nat) : Int) ≥ ((0 + 1 : Nat) : Int) := by omega
  have h2 : (0 : Int) ≤ ((0 + 1 : Nat) : Int) := by omega
  rw [if_pos h1, if_pos h2, if_pos h1]
  have : (List.take (((0 + 1 : Nat) : Int).toNat - 0) (List.drop 0 (c :: l)) == [45]) = false := by
    simp [hc]
  rw [this]
  rfl
theorem figB_dig (l : List UInt8) (hd : Dig l) (hn : 1 ≤ l.length) : figB (bs l) = true := by
  unfold figB
  rw [bs_data]
  have h1 : l.all digB = true := by
    rw [List.all_eq_true]
    intro c hc
    have := hd c hc
    unfold digB
    rw [decide_eq_true (by omega), decide_eq_true (by omega)]; rfl
  rw [h1]
  cases l with
  | nil => simp at hn
  | cons c r => rfl
theorem readTail_ok {m e : Int} (h : Ok m e) {W Q : List UInt8} (hh : Halves m.natAbs e W Q) (point : Bool) (hp : point = true → e < 0) : readTail (decide (m < 0)) (bs W) (bs Q) point = some (m, e, true) := by
  obtain ⟨hm, he0, he8⟩ := h.small
  have hf := hh.few
  have hW := hh.one
  unfold readTail
  rw [if_pos (by rw [bs_size, bs_size]; omega)]
  have hbad : badB (bs W) (bs Q) point = false := by
    unfold badB
    rw [figB_dig W hh.digW hW, bs_size, bs_size]
    have h1 : (bt (bs W) 0 == 48 && decide ((W.length : Int) > 1)) = false := by
      by_cases hl : W.length = 1
      · rw [decide_eq_false (by omega), Bool.and_false]
      · cases hw : W with
        | nil => rw [hw] at hW; simp at hW
        | cons c r =>
          have : bt (bs (c :: r)) 0 = (c.toNat : Int) := bs_bt _ 0 c rfl
          rw [this]
          have hne : ¬ c.toNat = 48 := by
            intro h48
            have : c = 48 := UInt8.toNat_inj.1 h48
            exact hl (hh.head (by rw [hw, this]; rfl))
          have : ((c.toNat : Int) == 48) = false := by rw [beq_eq_false_iff_ne]; omega
          rw [this]; rfl
    have h2 : (point && !figB (bs Q)) = false := by
      cases point with
      | false => rfl
      | true =>
        have := hp rfl
        rw [figB_dig Q hh.digQ (by rw [hh.after]; omega)]; rfl
    rw [h1, h2, decide_eq_false (by omega)]; rfl
  rw [hbad, if_neg (by decide)]
  have hv := hh.val
  have hj : e.toNat ≤ 8 := by omega
  obtain ⟨p1, p2⟩ := pow_le8 e.toNat hj
  have hlt : m.natAbs * 10 ^ e.toNat ≤ 99999999 * 100000000 := Nat.mul_le_mul hm p1
  have hat : strconv_Atoi.f (bs W ++ bs Q) = some (((m.natAbs * 10 ^ e.toNat : Nat) : Int), none) := by
    unfold strconv_Atoi.f
    rw [bs_app, bs_size, if_pos (by rw [List.length_append]; omega), bs_data, atoiAll_dig (W ++ Q) (hh.digW.app hh.digQ) (by intro hn; rw [(List.append_eq_nil_iff.1 hn).1] at hW; simp at hW) (by rw [hv]; omega), hv]
  rw [hat, Option.bind_some]
  have hc : (((m.natAbs * 10 ^ e.toNat : Nat) : Int)) = (m.natAbs : Int) * 10 ^ e.toNat := by simp
  simp only
  rw [if_pos (by omega), bs_size, hh.after, hc]
  have hsign : (if decide (m < 0) = true then -((m.natAbs : Int) * 10 ^ e.toNat) else (m.natAbs : Int) * 10 ^ e.toNat) = m * 10 ^ e.toNat := by
    by_cases hn : m < 0
    · rw [if_pos (decide_eq_true hn), ← Int.neg_mul, show -(m.natAbs : Int) = m by omega]
    · rw [if_neg (by simpa using hn), show (m.natAbs : Int) = m by omega]
  rw [hsign]
  exact impl_form_ok h e.toNat _ (by omega) hj (by omega) 40 (by omega)
theorem impl_read_body {m e : Int} (h : Ok m e) : (strings_Cut.f (bs (bodyL m.natAbs e)) (⟨#[46]⟩ : ByteArray)).bind (fun q => readTail (decide (m < 0)) q.1 q.2.1 q.2.2) = some (m, e, true) := by
  obtain ⟨W, Q, hh⟩ := halves h
  have hf := hh.few
  unfold strings_Cut.f
  rw [hh.body]
  by_cases he : e < 0
  · rw [if_pos he, bs_size, if_pos (by rw [List.length_append, List.length_cons]; omega), bs_data, cut_some W Q hh.digW, Option.bind_some]
    exact readTail_ok h hh true (fun _ => he)
  · rw [if_neg he, bs_size, if_pos (by omega), bs_data, cut_none W hh.digW, Option.bind_some]
    have hq : Q = [] := List.eq_nil_of_length_eq_zero (by rw [hh.after]; omega)
    have := readTail_ok h hh false (fun h => by cases h)
    rw [hq] at this
    exact this
theorem body_head {m e : Int} (h : Ok m e) : ∃ c r, bodyL m.natAbs e = c :: r ∧ 48 ≤ c.toNat ∧ c.toNat ≤ 57 := by
  obtain ⟨W, Q, hh⟩ := halves h
  cases hw : W with
  | nil => have := hh.one; rw [hw] at this; simp at this
  | cons c r =>
    have hc := hh.digW c (by rw [hw]; exact List.mem_cons_self)
    rw [hh.body, hw]
    split
    · exact ⟨c, _, rfl, hc⟩
    · exact ⟨c, _, rfl, hc⟩
theorem impl_read {m e : Int} (h : Ok m e) : impl_DecRead.f (bs (textL m e)) = some (m, e, true) := by
  unfold impl_DecRead.f textL
  have hb := impl_read_body h
  by_cases hn : m < 0
  · rw [if_pos hn, cp_minus, Option.bind_some]
    rw [decide_eq_true hn] at hb
    exact hb
  · rw [if_neg hn]
    obtain ⟨c, r, hc, h1, h2⟩ := body_head h
    rw [decide_eq_false hn, hc] at hb
    rw [hc, cp_plain c r (by intro h45; rw [h45] at h1; exact absurd h1 (by decide)), Option.bind_some]
    exact hb

/-! ### spec.DecRead -/
theorem spec_figures_l0 (l : List UInt8) (hd : Dig l) (hs : l.length ≤ 1000) : ∀ (n i : Nat), i + n = l.length → ∀ k, n < k → spec_l1Figures.l0 k (bs l) (i : Int) = some (decide (1 ≤ l.length))
  | _, _, _, 0, hk => absurd hk (by omega)
  | 0, i, hi, k + 1, hk => by
    rw [spec_l1Figures.l0, bs_size, if_neg (by omega)]
    congr 1
    exact decide_eq_decide.2 (by omega)
  | n + 1, i, hi, k + 1, hk => by
    have hlt : i < l.length := by omega
    have hc := hd l[i] (List.getElem_mem _)
    have hb : bt (bs l) (i : Int) = (l[i].toNat : Int) := bs_bt l (i : Int) l[i] (by simp [hlt])
    rw [spec_l1Figures.l0, bs_size, if_pos (by omega), if_pos (by omega), hb, if_neg (by omega), if_neg (by omega), w64 (by omega) (by omega), show (i : Int) + 1 = ((i + 1 : Nat) : Int) by omega]
    exact spec_figures_l0 l hd hs n (i + 1) (by omega) k (by omega)
theorem spec_figures (l : List UInt8) (hd : Dig l) (hs : l.length ≤ 1000) (k : Nat) (hk : l.length < k) : spec_l1Figures.f k (bs l) = some (decide (1 ≤ l.length)) :=
  spec_figures_l0 l hd hs l.length 0 (by omega) k hk
theorem spec_read_l1 {m e : Int} (h : Ok m e) (hm0 : 0 ≤ m) (l : List UInt8) (Q : List UInt8) (hq : Q.length = (-e).toNat) (hd : Dig l) (hl : l.length ≤ 17) (hv : valF 0 l = m.natAbs * 10 ^ e.toNat) :
    ∀ (n i : Nat), i + n = l.length → ∀ k, n + 11 < k → spec_l1Read.l1 k (bs Q) ((valF 0 (l.take i) : Nat) : Int) (bs l) (i : Int) = some (m, e, true)
  | n, i, hi, 0, hk => absurd hk (by omega)
  | 0, i, hi, k + 1, hk => by
    obtain ⟨hm, he0, he8⟩ := h.small
    rw [spec_l1Read.l1, bs_size, if_neg (by omega), List.take_of_length_le (by omega), hv, bs_size, hq, w64 (by omega) (by omega)]
    have hc : (((m.natAbs * 10 ^ e.toNat : Nat) : Int)) = (m.natAbs : Int) * 10 ^ e.toNat := by simp
    rw [hc, show (m.natAbs : Int) = m by omega, spec_form_ok h e.toNat _ (by omega) (by omega) (by omega) k (by omega)]
    rfl
  | n + 1, i, hi, k + 1, hk => by
    obtain ⟨hm, he0, he8⟩ := h.small
    have hlt : i < l.length := by omega
    have hc := hd l[i] (List.getElem_mem _)
    have hb : bt (bs l) (i : Int) = (l[i].toNat : Int) := bs_bt l (i : Int) l[i] (by simp [hlt])
    have hstep : valF 0 (l.take (i + 1)) = valF 0 (l.take i) * 10 + (l[i].toNat - 48) := by
      rw [List.take_succ_eq_append_getElem hlt, valF_app, valF_cons, valF_nil]
    have hle : valF 0 (l.take (i + 1)) ≤ 9999999900000000 := by
      have h1 : valF 0 (l.take (i + 1)) ≤ valF 0 l := by
        have := valF_ge (valF 0 (l.take (i + 1))) (l.drop (i + 1))
        rw [← valF_app, List.take_append_drop] at this
        exact this
      have h2 := (pow_le8 e.toNat (by omega)).1
      have h3 : m.natAbs * 10 ^ e.toNat ≤ 99999999 * 100000000 := Nat.mul_le_mul hm h2
      omega
    have hw : (((l[i].toNat : Nat) : Int) - 48) % 256 = ((l[i].toNat - 48 : Nat) : Int) := by omega
    rw [spec_l1Read.l1, bs_size, if_pos (by omega), if_pos (by omega), hb, hw, w64 (n := _ * 10) (by omega) (by omega), w64 (n := _ * 10 + _) (by omega) (by omega), w64 (n := (i : Int) + 1) (by omega) (by omega)]
    rw [show ((valF 0 (l.take i) : Nat) : Int) * 10 + ((l[i].toNat - 48 : Nat) : Int) = ((valF 0 (l.take (i + 1)) : Nat) : Int) by rw [hstep]; omega, show (i : Int) + 1 = ((i + 1 : Nat) : Int) by omega]
    exact spec_read_l1 h hm0 l Q hq hd hl hv n (i + 1) (by omega) k (by omega)
theorem Ok.neg {m e : Int} (h : Ok m e) : Ok (-m) e := by
  have : Int.tmod (-m) 10 = -Int.tmod m 10 := Int.neg_tmod ..
  rw [Ok.iff this]
  rcases h with h | h <;> omega
theorem spec_read_j1 {m e : Int} (h : Ok m e) (hm0 : 0 ≤ m) {W Q : List UInt8} (hh : Halves m.natAbs e W Q) (k : Nat) (hk : 40 ≤ k) : spec_l1Read.j1 k (bs W) (bs Q) = some (m, e, true) := by
  obtain ⟨k, rfl⟩ : ∃ j, k = j + 2 := ⟨k - 2, by omega⟩
  have hW := hh.one
  have hf := hh.few
  have hend : spec_l1Read.j2 (k + 1) (bs W) (bs Q) false = some (m, e, true) := by
    rw [spec_l1Read.j2, if_neg (by decide), bs_size, bs_size, if_pos (by omega), bs_app]
    have := spec_read_l1 h hm0 (W ++ Q) Q hh.after (hh.digW.app hh.digQ) (by rw [List.length_append]; omega) hh.val (W ++ Q).length 0 (by omega) k (by rw [List.length_append]; omega)
    rw [List.take_zero, valF_nil] at this
    exact this
  have h17 : decide (wrap64 (((bs W).size : Int) + ((bs Q).size : Int)) > 17) = false := by
    rw [bs_size, bs_size, w64 (by omega) (by omega)]
    exact decide_eq_false (by omega)
  rw [spec_l1Read.j1, spec_figures W hh.digW (by omega) (k + 1) (by omega), Option.bind_some, if_pos (decide_eq_true hW), h17, hend]
  by_cases hl : ((bs W).size : Int) > 1
  · rw [if_pos hl, if_pos (by omega)]
    rw [bs_size] at hl
    rw [if_neg]
    intro h48
    cases hw : W with
    | nil => rw [hw] at hW; simp at hW
    | cons c r =>
      rw [hw] at h48
      rw [show bt (bs (c :: r)) 0 = (c.toNat : Int) from bs_bt _ 0 c rfl] at h48
      have : c = 48 := UInt8.toNat_inj.1 (by show c.toNat = 48; omega)
      have := hh.head (by rw [hw, this]; rfl)
      omega
  · rw [if_neg hl]
theorem spec_read_scan (s : List UInt8) (hs : s.length ≤ 100) (r : Option (Int × Int × Bool)) (W : List UInt8) (hd : Dig W) (hW : s.take W.length = W) (K : Nat) (x4 x5 : ByteArray)
    (hend : ∀ k, K ≤ k → spec_l1Read.l0 k (bs s) x4 x5 (W.length : Int) = r) : ∀ (n i : Nat), i + n = W.length → ∀ k, n + K ≤ k → spec_l1Read.l0 k (bs s) x4 x5 (i : Int) = r
  | 0, i, hi, k, hk => by rw [show i = W.length by omega]; exact hend k (by omega)
  | n + 1, i, hi, 0, hk => absurd hk (by omega)
  | n + 1, i, hi, k + 1, hk => by
    have hlen : W.length ≤ s.length := by
      have := congrArg List.length hW
      rw [List.length_take] at this
      omega
    have hlt : i < s.length := by omega
    have hWi : s[i]? = W[i]? := by rw [← hW, List.getElem?_take]; simp; omega
    have hc := hd W[i] (List.getElem_mem (by omega))
    have hb : bt (bs s) (i : Int) = (W[i].toNat : Int) := bs_bt s (i : Int) W[i] (by simp only [Int.toNat_natCast]; rw [hWi]; simp)
    rw [spec_l1Read.l0, bs_size, if_pos (by omega), if_pos (by omega), hb, if_neg (by omega), w64 (by omega) (by omega), show (i : Int) + 1 = ((i + 1 : Nat) : Int) by omega]
    exact spec_read_scan s hs r W hd hW K x4 x5 hend n (i + 1) (by omega) k (by omega)
theorem spec_read_body {m e : Int} (h : Ok m e) (hm0 : 0 ≤ m) (k : Nat) (hk : 100 ≤ k) : spec_l1Read.f k (bs (bodyL m.natAbs e)) = some (m, e, true) := by
  obtain ⟨W, Q, hh⟩ := halves h
  have hf := hh.few
  unfold spec_l1Read.f
  rw [hh.body]
  by_cases he : e < 0
  · rw [if_pos he]
    refine spec_read_scan _ (by simp; omega) _ W hh.digW (by simp) 60 _ _ (fun k hk => ?_) W.length 0 (by omega) k (by omega)
    obtain ⟨k, rfl⟩ : ∃ j, k = j + 1 := ⟨k - 1, by omega⟩
    have hb : bt (bs (W ++ 46 :: Q)) (W.length : Int) = 46 := bs_bt _ _ 46 (by simp)
    rw [spec_l1Read.l0, hb, bs_size, List.length_append, List.length_cons, if_pos (by omega), if_pos (by omega), if_pos rfl, if_pos (by omega), w64 (by omega) (by omega), if_pos (by omega), if_pos (by omega), bs_extract, bs_extract]
    have e1 : List.take (W.length + (Q.length + 1) - ((W.length : Int) + 1).toNat) (List.drop ((W.length : Int) + 1).toNat (W ++ 46 :: Q)) = Q := by
      rw [show ((W.length : Int) + 1).toNat = W.length + 1 by omega, List.drop_append, List.drop_of_length_le (by omega)]
      simp [show W.length + (Q.length + 1) - (W.length + 1) = Q.length by omega]
    have e2 : List.take ((W.length : Int).toNat - 0) (List.drop 0 (W ++ 46 :: Q)) = W := by simp
    rw [e1, e2, spec_figures Q hh.digQ (by omega) k (by omega), Option.bind_some, if_pos (decide_eq_true (by rw [hh.after]; omega))]
    exact spec_read_j1 h hm0 hh k (by omega)
  · rw [if_neg he]
    refine spec_read_scan _ (by omega) _ W hh.digW (by simp) 60 _ _ (fun k hk => ?_) W.length 0 (by omega) k (by omega)
    obtain ⟨k, rfl⟩ : ∃ j, k = j + 1 := ⟨k - 1, by omega⟩
    have hq : Q = [] := List.eq_nil_of_length_eq_zero (by rw [hh.after]; omega)
    rw [spec_l1Read.l0, bs_size, if_neg (by omega)]
    have := spec_read_j1 h hm0 hh k (by omega)
    rw [hq] at this
    exact this
theorem spec_read {m e : Int} (h : Ok m e) (k : Nat) (hk : 200 ≤ k) : spec_DecRead.f k (bs (textL m e)) = some (m, e, true) := by
  obtain ⟨k, rfl⟩ : ∃ j, k = j + 1 := ⟨k - 1, by omega⟩
  obtain ⟨hm, _, _⟩ := h.small
  unfold spec_DecRead.f textL
  by_cases hn : m < 0
  · rw [if_pos hn, bs_size, List.length_cons, if_pos (by omega), if_pos (by omega), show bt (bs (45 :: bodyL m.natAbs e)) 0 = 45 from bs_bt _ 0 45 rfl, spec_DecRead.j0, if_pos (show ((45 : Int) == 45) = true from rfl), bs_size, List.length_cons, if_pos (by omega), bs_extract]
    have e1 : List.take ((bodyL m.natAbs e).length + 1 - 1) (List.drop 1 (45 :: bodyL m.natAbs e)) = bodyL (-m).natAbs e := by
      rw [List.drop_succ_cons, List.drop_zero, Nat.add_sub_cancel, List.take_length, Int.natAbs_neg]
    rw [e1, spec_read_body h.neg (by omega) k (by omega), Option.bind_some]
    unfold spec_l1Neg.f
    rw [Option.bind_some, w64 (by omega) (by omega), Int.neg_neg]
  · rw [if_neg hn]
    obtain ⟨c, r, hc, h1, h2⟩ := body_head h
    have hb := spec_read_body h (by omega) k (by omega)
    rw [hc] at hb
    rw [hc, bs_size, List.length_cons, if_pos (by omega), if_pos (by omega), show bt (bs (c :: r)) 0 = (c.toNat : Int) from bs_bt _ 0 c rfl]
    have : ((c.toNat : Int) == 45) = false := by rw [beq_eq_false_iff_ne]; omega
    rw [this, spec_DecRead.j0, if_neg (by decide), hb]
    rfl
end Go.Proofs.YtebcepbamlokcaaDoor.Q
