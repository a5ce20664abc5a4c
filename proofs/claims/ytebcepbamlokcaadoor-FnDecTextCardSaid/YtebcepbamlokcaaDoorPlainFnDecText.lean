/- The law FnDecText, as a statement on plain functions, proved. -/
import Derived.Test.YtebcepbamlokcaaDoorPlainDecRead
namespace Go.Proofs.YtebcepbamlokcaaDoor.Q
open Go.RowKit Go.Proofs.YtebcepbamlokcaaDoorW.PrintWords Go.Proofs.YtebcepbamlokcaaDoorW.PrintLast Go.Proofs.YtebcepbamlokcaaDoorW.PrintMore

/-! ### Draws -/
theorem wrapN (n : Nat) (h : n < 9223372036854775808) : IntKind.i64.wrap (n : Int) = (n : Int) := by
  rw [IntKind.wrap_i64]; omega
theorem xor_range (a b : Nat) (ha : a < 9223372036854775808) (hb : b < 9223372036854775808) : 0 ≤ bits .xor .i64 (a : Int) (b : Int) ∧ bits .xor .i64 (a : Int) (b : Int) < 9223372036854775808 := by
  have h2 : a ^^^ b < 2 ^ 63 := Nat.xor_lt_two_pow (by omega) (by omega)
  have e : bits .xor .i64 (a : Int) (b : Int) = ((a ^^^ b : Nat) : Int) := by
    show IntKind.i64.wrap (((BitVec.ofInt 64 (a : Int) ^^^ BitVec.ofInt 64 (b : Int)).toNat : Nat) : Int) = _
    rw [BitVec.toNat_xor, BitVec.toNat_ofInt, BitVec.toNat_ofInt]
    have e1 : ((a : Int) % ((2 ^ 64 : Nat) : Int)).toNat = a := by omega
    have e2 : ((b : Int) % ((2 ^ 64 : Nat) : Int)).toNat = b := by omega
    rw [e1, e2]
    exact wrapN _ (by omega)
  rw [e]
  omega
theorem rd_byte {s : List Int} (hb : ∀ x ∈ s, 0 ≤ x ∧ x ≤ 255) (i : Int) : 0 ≤ rd s i ∧ rd s i ≤ 255 := by
  unfold rd
  rw [List.getD_eq_getElem?_getD]
  cases h : s[i.toNat]? with
  | none => simp
  | some x => exact hb x (List.mem_of_getElem? h)
theorem tmod_range {a n : Int} (ha : 0 ≤ a) (hn : 0 < n) : 0 ≤ Int.tmod a n ∧ Int.tmod a n < n :=
  ⟨Int.tmod_nonneg n ha, Int.tmod_lt_of_pos a hn⟩
structure Src (s : List Int) : Prop where
  len : s.length ≤ 2000
  byte : ∀ x ∈ s, 0 ≤ x ∧ x ≤ 255
theorem pick {s : List Int} (hs : Src s) {p : Int} (hp0 : 0 ≤ p) (hp : p ≤ 1000) {n : Int} (hn : 1 ≤ n) (k : Nat) (hk : 1 ≤ k) :
    ∃ v, spec_l1Rd_pick.f k s p n = some (v, p + 1) ∧ 0 ≤ v ∧ v < n := by
  obtain ⟨k, rfl⟩ : ∃ j, k = j + 1 := ⟨k - 1, by omega⟩
  have hlen := hs.len
  unfold spec_l1Rd_pick.f
  rw [if_neg (by omega), w64 (n := p + 1) (by omega) (by omega), spec_l1Rd_pick.j0]
  by_cases h0 : s.length = 0
  · rw [if_pos (by simp [h0])]
    exact ⟨0, rfl, by omega, by omega⟩
  · have hl0 : ¬ (((s.length : Int) == 0) = true) := by rw [beq_iff_eq]; omega
    rw [if_neg hl0, w64 (n := p + 1 - 1) (by omega) (by omega), show p + 1 - 1 = p by omega]
    by_cases hlt : p < (s.length : Int)
    · obtain ⟨b0, b1⟩ := rd_byte hs.byte p
      rw [if_pos hlt, if_pos hp0, if_neg (by omega), w64 (n := rd s p) (by omega) (by omega)]
      exact ⟨_, rfl, tmod_range b0 (by omega)⟩
    · rw [if_neg hlt, w64 (n := p * 7) (by omega) (by omega), w64 (n := p * 7 + 3) (by omega) (by omega)]
      obtain ⟨i0, i1⟩ := tmod_range (n := (s.length : Int)) hp0 (by omega)
      obtain ⟨j0, j1⟩ := tmod_range (a := p * 7 + 3) (n := (s.length : Int)) (by omega) (by omega)
      obtain ⟨b0, b1⟩ := rd_byte hs.byte (Int.tmod p (s.length : Int))
      obtain ⟨c0, c1⟩ := rd_byte hs.byte (Int.tmod (p * 7 + 3) (s.length : Int))
      have q0 : 0 ≤ Int.tdiv p (s.length : Int) := Int.tdiv_nonneg hp0 (by omega)
      have q1 : Int.tdiv p (s.length : Int) ≤ p := Int.tdiv_le_self _ hp0
      rw [if_neg (by omega), if_pos i0, if_pos i1, if_pos j0, if_pos j1, if_neg (by omega)]
      generalize rd s (Int.tmod p (s.length : Int)) = x at *
      generalize rd s (Int.tmod (p * 7 + 3) (s.length : Int)) = y at *
      generalize Int.tdiv p (s.length : Int) = q at *
      rw [w64 (n := x) (by omega) (by omega), w64 (n := x * 131) (by omega) (by omega), w64 (n := y) (by omega) (by omega), w64 (n := y * 1117) (by omega) (by omega), w64 (n := p * 29) (by omega) (by omega), w64 (n := q) (by omega) (by omega), w64 (n := q * 53) (by omega) (by omega),
        w64 (n := x * 131 + y * 1117) (by omega) (by omega), w64 (n := x * 131 + y * 1117 + p * 29) (by omega) (by omega), w64 (n := x * 131 + y * 1117 + p * 29 + q * 53) (by omega) (by omega)]
      obtain ⟨a, ha⟩ : ∃ a : Nat, x * 131 + y * 1117 + p * 29 + q * 53 = (a : Int) := ⟨(x * 131 + y * 1117 + p * 29 + q * 53).toNat, by omega⟩
      have hd : Int.tdiv (a : Int) 64 = ((a / 64 : Nat) : Int) := by rw [Int.tdiv_eq_ediv_of_nonneg (by omega)]; omega
      rw [ha, hd, w64 (n := ((a / 64 : Nat) : Int)) (by omega) (by omega)]
      have x0 := (xor_range a (a / 64) (by omega) (by omega)).1
      exact ⟨_, rfl, tmod_range x0 (by omega)⟩
theorem pickOne {s : List Int} (hs : Src s) {p : Int} (hp0 : 0 ≤ p) (hp : p ≤ 1000) (l : List Int) (hl : 1 ≤ l.length) (k : Nat) (hk : 1 ≤ k) :
    ∃ v ∈ l, spec_l1Rd_one.f k s p l = some (v, p + 1) := by
  obtain ⟨i, hi, h0, h1⟩ := pick hs hp0 hp (n := (l.length : Int)) (by omega) k hk
  unfold spec_l1Rd_one.f
  rw [hi, Option.bind_some, if_pos h0, if_pos h1]
  have hlt : i.toNat < l.length := by omega
  refine ⟨_, ?_, rfl⟩
  unfold rd
  rw [List.getD_eq_getElem?_getD, List.getElem?_eq_getElem hlt]
  exact List.getElem_mem hlt
theorem rdOf_mem {d : ByteArray} {l : List ByteArray} {i : Int} (h0 : 0 ≤ i) (h1 : i < (l.length : Int)) : rdOf d l i ∈ l := by
  have hlt : i.toNat < l.length := by omega
  unfold rdOf
  rw [List.getD_eq_getElem?_getD, List.getElem?_eq_getElem hlt]
  exact List.getElem_mem hlt
theorem pickOf {s : List Int} (hs : Src s) {p : Int} (hp0 : 0 ≤ p) (hp : p ≤ 1000) (l : List ByteArray) (hl : 1 ≤ l.length) (k : Nat) (hk : 1 ≤ k) :
    ∃ v ∈ l, spec_l1Rd_of.f k s p l = some (v, p + 1) := by
  obtain ⟨i, hi, h0, h1⟩ := pick hs hp0 hp (n := (l.length : Int)) (by omega) k hk
  unfold spec_l1Rd_of.f
  rw [hi, Option.bind_some, if_pos h0, if_pos h1]
  exact ⟨_, rdOf_mem h0 h1, rfl⟩
theorem opened {l : List Int} (hb : ∀ x ∈ l, (Lit.int .u8 x).wf = true) : ∃ s, spec_l1Open.f l = some (s, 0) ∧ Src s := by
  have hb' : ∀ x ∈ l, 0 ≤ x ∧ x ≤ 255 := fun x hx => by
    have := hb x hx
    simp [Lit.wf, IntKind.min, IntKind.max, IntKind.signed, IntKind.bits] at this
    omega
  unfold spec_l1Open.f
  by_cases h : (l.length : Int) > 2000
  · rw [if_pos h, if_pos (by omega)]
    exact ⟨_, rfl, ⟨by rw [List.length_take]; omega, fun x hx => hb' x (List.mem_of_mem_take hx)⟩⟩
  · rw [if_neg h]
    exact ⟨_, rfl, ⟨by omega, hb'⟩⟩
theorem spec_form_any : ∀ (j : Nat) (m e : Int), m ≠ 0 → m.natAbs < 10 ^ j → j ≤ 8 → -100 ≤ e → e ≤ 100 - j → ∀ k, j < k → ∃ m' e', ∃ b : Bool, spec_l1New.l0 k m e = some (m', e', b) ∧ (b = true → Ok m' e')
  | _, _, _, _, _, _, _, _, 0, hk => absurd hk (by omega)
  | 0, m, e, h0, hm, _, _, _, k + 1, _ => by rw [Nat.pow_zero] at hm; omega
  | j + 1, m, e, h0, hm, hj, hl, hu, k + 1, hk => by
    have hp : 10 ^ (j + 1) ≤ 10 ^ 8 := Nat.pow_le_pow_right (by omega) hj
    rw [spec_l1New.l0]
    by_cases ht : Int.tmod m 10 = 0
    · rw [if_pos ht]
      have hq : m = 10 * Int.tdiv m 10 := by have := Int.mul_tdiv_add_tmod m 10; omega
      rw [w64 (n := Int.tdiv m 10) (by omega) (by omega), w64 (n := e + 1) (by omega) (by omega)]
      exact spec_form_any j _ _ (by omega) (by rw [Nat.pow_succ] at hm; omega) (by omega) (by omega) (by omega) k (by omega)
    · rw [if_neg ht, spec_ok, Option.bind_some]
      by_cases hok : Ok m e
      · rw [if_pos (decide_eq_true hok)]
        exact ⟨_, _, _, rfl, fun _ => hok⟩
      · rw [if_neg (by simpa using hok)]
        exact ⟨_, _, _, rfl, fun h => by cases h⟩
theorem spec_form_draw {m e : Int} (hm : m.natAbs ≤ 99999999) (h0 : -8 ≤ e) (h8 : e ≤ 8) (k : Nat) (hk : 9 ≤ k) : ∃ m' e', ∃ b : Bool, spec_l1New.f k m e = some (m', e', b) ∧ (b = true → Ok m' e') := by
  unfold spec_l1New.f
  by_cases hz : m = 0
  · rw [if_pos hz]
    exact ⟨_, _, _, rfl, fun _ => .inl ⟨rfl, rfl⟩⟩
  · rw [if_neg hz]
    exact spec_form_any 8 m e hz (by omega) (by omega) (by omega) (by omega) k (by omega)
theorem drawDec {s : List Int} (hs : Src s) (k : Nat) (hk : 20 ≤ k) : ∃ m e, spec_l14Dec.f k s 0 = some (m, e, 6) ∧ Ok m e := by
  unfold spec_l14Dec.f
  obtain ⟨v1, e1, a1, b1⟩ := pick hs (p := 0) (by omega) (by omega) (n := 20) (by omega) k (by omega)
  obtain ⟨v2, e2, a2, b2⟩ := pick hs (p := 0 + 1) (by omega) (by omega) (n := 256) (by omega) k (by omega)
  obtain ⟨v3, e3, a3, b3⟩ := pick hs (p := 0 + 1 + 1) (by omega) (by omega) (n := 256) (by omega) k (by omega)
  obtain ⟨v4, e4, a4, b4⟩ := pick hs (p := 0 + 1 + 1 + 1) (by omega) (by omega) (n := 256) (by omega) k (by omega)
  rw [e1, Option.bind_some, e2, Option.bind_some, e3, Option.bind_some, e4, Option.bind_some]
  simp only
  rw [w64 (n := v2 * 256) (by omega) (by omega), w64 (n := v2 * 256 + v3) (by omega) (by omega), w64 (n := -v4) (by omega) (by omega)]
  obtain ⟨v5, m5, e5⟩ := pickOne hs (p := 0 + 1 + 1 + 1 + 1) (by omega) (by omega) [v1, v2 * 256 + v3, 99999999, 0, -v4, 25, -99999999] (by simp) k (by omega)
  obtain ⟨v6, m6, e6⟩ := pickOne hs (p := 0 + 1 + 1 + 1 + 1 + 1) (by omega) (by omega) [0, 0, -1, -2, 2, -8, 8] (by simp) k (by omega)
  rw [e5, Option.bind_some, e6, Option.bind_some]
  have h5 : v5.natAbs ≤ 99999999 := by
    simp only [List.mem_cons, List.not_mem_nil, or_false] at m5
    rcases m5 with h | h | h | h | h | h | h <;> omega
  have h6 : -8 ≤ v6 ∧ v6 ≤ 8 := by
    simp only [List.mem_cons, List.not_mem_nil, or_false] at m6
    rcases m6 with h | h | h | h | h | h | h <;> omega
  obtain ⟨m', e', b, hf, hok⟩ := spec_form_draw h5 h6.1 h6.2 k (by omega)
  simp only
  rw [hf, Option.bind_some]
  cases b with
  | true => exact ⟨m', e', rfl, hok rfl⟩
  | false => exact ⟨1, 0, rfl, .inr (by decide)⟩
theorem drawText {l : List Int} (hb : ∀ x ∈ l, (Lit.int .u8 x).wf = true) (k : Nat) (hk : 20 ≤ k) : ∃ m e, spec_DrawDecText.f k l = some (m, e) := by
  obtain ⟨s, ho, hs⟩ := opened hb
  unfold spec_DrawDecText.f spec_l14AnyDec.f
  rw [ho, Option.bind_some]
  obtain ⟨m, e, hd, _⟩ := drawDec hs k hk
  simp only
  rw [hd, Option.bind_some]
  obtain ⟨v, e1, _, _⟩ := pick hs (p := 6) (by omega) (by omega) (n := 20) (by omega) k (by omega)
  simp only
  rw [e1, Option.bind_some]
  simp only
  by_cases h0 : v = 0
  · obtain ⟨u, _, e2⟩ := pickOne hs (p := 6 + 1) (by omega) (by omega) [10, 100000000, -100000000] (by simp) k (by omega)
    rw [if_pos h0, e2]
    exact ⟨_, _, rfl⟩
  · rw [if_neg h0]
    by_cases h1 : v = 1
    · obtain ⟨u, _, e2⟩ := pickOne hs (p := 6 + 1) (by omega) (by omega) [9, -9] (by simp) k (by omega)
      rw [if_pos h1, e2]
      exact ⟨_, _, rfl⟩
    · rw [if_neg h1]
      exact ⟨_, _, rfl⟩

/-! ### What is read alike -/
def Alike (k : Nat) (s : ByteArray) : Prop := ∃ m e, ∃ b : Bool, impl_DecRead.f s = some (m, e, b) ∧ spec_DecRead.f k s = some (m, e, b) ∧ (b = true → Ok m e ∧ (textL m e).length ≤ s.size)
theorem alike_text {m e : Int} (h : Ok m e) (k : Nat) (hk : 200 ≤ k) : Alike k (bs (textL m e)) :=
  ⟨m, e, true, impl_read h, spec_read h k hk, fun _ => ⟨h, by rw [bs_size]; exact Nat.le_refl _⟩⟩
theorem alike_no {s : ByteArray} {k : Nat} (h1 : impl_DecRead.f s = some (0, 0, false)) (h2 : spec_DecRead.f k s = some (0, 0, false)) : Alike k s := ⟨0, 0, false, h1, h2, fun h => by cases h⟩
theorem alike_yes {s : ByteArray} {k : Nat} (m e : Int) (h1 : impl_DecRead.f s = some (m, e, true)) (h2 : spec_DecRead.f k s = some (m, e, true)) (h3 : Ok m e) (h4 : (textL m e).length ≤ s.size) : Alike k s := ⟨m, e, true, h1, h2, fun _ => ⟨h3, h4⟩⟩
theorem text_few (m e : Int) (n : Nat) (hn : m.natAbs < 10) (hu : (if m < 0 then 1 else 0) + (if 0 ≤ e then 1 + e.toNat else (-e).toNat + 2) ≤ n) : (textL m e).length ≤ n := by
  have hd : (Lib.decDigits m.natAbs).length = 1 := by rw [Lib.decDigits, dif_pos hn]; rfl
  have hb : (bodyL m.natAbs e).length = if 0 ≤ e then 1 + e.toNat else (-e).toNat + 2 := by
    unfold bodyL
    by_cases h0 : 0 ≤ e
    · rw [if_pos h0, if_pos h0, List.length_append, List.length_replicate, hd]
    · have hp : (padL m.natAbs (-e).toNat).length = (-e).toNat + 1 := by
        unfold padL
        rw [List.length_append, List.length_replicate]
        omega
      rw [if_neg h0, if_neg h0, List.length_append, List.length_cons, List.length_take, List.length_drop, hp]
      omega
  unfold textL
  split <;> simp only [List.length_cons, hb] <;> simp_all <;> omega
theorem text_15 : (textL 15 (-1)).length ≤ 4 := by
  have hd : (Lib.decDigits 15).length = 2 := by rw [Lib.decDigits_length, Lib.nDigits_big (by omega), Lib.nDigits_small (by omega)]
  have hp : (padL 15 1).length = 2 := by
    unfold padL
    rw [List.length_append, List.length_replicate]
    omega
  unfold textL bodyL
  rw [if_neg (by decide), if_neg (by decide)]
  show (List.take ((padL 15 1).length - 1) (padL 15 1) ++ 46 :: List.drop ((padL 15 1).length - 1) (padL 15 1)).length ≤ 4
  rw [List.length_append, List.length_cons, List.length_take, List.length_drop, hp]
  decide
theorem alike_fixed (s : ByteArray) (h : s ∈ ([(⟨#[49, 46, 53, 48]⟩ : ByteArray), (⟨#[45, 48]⟩ : ByteArray), (⟨#[48, 49]⟩ : ByteArray), (⟨#[49, 46]⟩ : ByteArray), (⟨#[46, 53]⟩ : ByteArray), (⟨#[]⟩ : ByteArray), (⟨#[45]⟩ : ByteArray), (⟨#[49, 101, 53]⟩ : ByteArray), (⟨#[49, 50, 51, 52, 53, 54, 55, 56, 57, 48, 49, 50, 51, 52, 53, 54, 55]⟩ : ByteArray), (⟨#[49, 50, 51, 52, 53, 54, 55, 56, 57, 48, 49, 50, 51, 52, 53, 54, 55, 56]⟩ : ByteArray), (⟨#[48, 46, 48, 48, 48, 48, 48, 48, 48, 49]⟩ : ByteArray), (⟨#[45, 45, 49]⟩ : ByteArray), (⟨#[49, 48, 48, 48, 48, 48, 48, 48, 48]⟩ : ByteArray), (⟨#[49, 46, 50, 46, 51]⟩ : ByteArray)] : List ByteArray)) : Alike 998 s := by
  simp only [List.mem_cons, List.not_mem_nil, or_false] at h
  rcases h with rfl | rfl | rfl | rfl | rfl | rfl | rfl | rfl | rfl | rfl | rfl | rfl | rfl | rfl
  · exact alike_yes 15 (-1) (by kernel_rfl) (by kernel_rfl) (by decide) text_15
  · exact alike_yes 0 0 (by kernel_rfl) (by kernel_rfl) (by decide) (text_few 0 0 2 (by decide) (by decide))
  · exact alike_no (by kernel_rfl) (by kernel_rfl)
  · exact alike_no (by kernel_rfl) (by kernel_rfl)
  · exact alike_no (by kernel_rfl) (by kernel_rfl)
  · exact alike_no (by kernel_rfl) (by kernel_rfl)
  · exact alike_no (by kernel_rfl) (by kernel_rfl)
  · exact alike_no (by kernel_rfl) (by kernel_rfl)
  · exact alike_no (by kernel_rfl) (by kernel_rfl)
  · exact alike_no (by kernel_rfl) (by kernel_rfl)
  · exact alike_yes 1 (-8) (by kernel_rfl) (by kernel_rfl) (by decide) (text_few 1 (-8) 10 (by decide) (by decide))
  · exact alike_no (by kernel_rfl) (by kernel_rfl)
  · exact alike_yes 1 8 (by kernel_rfl) (by kernel_rfl) (by decide) (text_few 1 8 9 (by decide) (by decide))
  · exact alike_no (by kernel_rfl) (by kernel_rfl)
theorem drawRead {l : List Int} (hb : ∀ x ∈ l, (Lit.int .u8 x).wf = true) : ∃ s, spec_DrawDecRead.f 998 l = some s ∧ Alike 998 s := by
  obtain ⟨s, ho, hs⟩ := opened hb
  unfold spec_DrawDecRead.f
  rw [ho, Option.bind_some]
  obtain ⟨m, e, hd, hok⟩ := drawDec hs 998 (by omega)
  obtain ⟨hm, h0, h8⟩ := hok.small
  simp only
  rw [hd, Option.bind_some]
  simp only
  rw [spec_textL m e hm h0 h8 998 (by omega), Option.bind_some]
  obtain ⟨t, ht, e1⟩ := pickOf hs (p := 6) (by omega) (by omega) [(⟨#[49, 46, 53, 48]⟩ : ByteArray), (⟨#[45, 48]⟩ : ByteArray), (⟨#[48, 49]⟩ : ByteArray), (⟨#[49, 46]⟩ : ByteArray), (⟨#[46, 53]⟩ : ByteArray), (⟨#[]⟩ : ByteArray), (⟨#[45]⟩ : ByteArray), (⟨#[49, 101, 53]⟩ : ByteArray), (⟨#[49, 50, 51, 52, 53, 54, 55, 56, 57, 48, 49, 50, 51, 52, 53, 54, 55]⟩ : ByteArray), (⟨#[49, 50, 51, 52, 53, 54, 55, 56, 57, 48, 49, 50, 51, 52, 53, 54, 55, 56]⟩ : ByteArray), (⟨#[48, 46, 48, 48, 48, 48, 48, 48, 48, 49]⟩ : ByteArray), (⟨#[45, 45, 49]⟩ : ByteArray), (⟨#[49, 48, 48, 48, 48, 48, 48, 48, 48]⟩ : ByteArray), (⟨#[49, 46, 50, 46, 51]⟩ : ByteArray)] (by simp) 998 (by omega)
  rw [e1, Option.bind_some, Option.bind_some]
  obtain ⟨i, e2, i0, i1⟩ := pick hs (p := 6 + 1) (by omega) (by omega) (n := 2) (by omega) 998 (by omega)
  simp only
  rw [e2, Option.bind_some]
  simp only
  rw [if_pos i0, if_pos (by simpa using i1)]
  refine ⟨_, rfl, ?_⟩
  have hmem := rdOf_mem (d := ByteArray.empty) (l := [bs (textL m e), t]) i0 (by simpa using i1)
  simp only [List.mem_cons, List.not_mem_nil, or_false] at hmem
  rcases hmem with h | h
  · rw [h]; exact alike_text hok 998 (by omega)
  · rw [h]; exact alike_fixed t ht

/-! ### The law -/
theorem tail_ok {l : List Int} (hb : ∀ x ∈ l, (Lit.int .u8 x).wf = true) : laws_FnDecText.j1 999 l = some true := by
  obtain ⟨s, hs, m, e, b, h1, h2, h3⟩ := drawRead hb
  rw [laws_FnDecText.j1, hs, Option.bind_some, h1, Option.bind_some, h2, Option.bind_some]
  simp only
  rw [if_neg (by simp), if_neg (by simp)]
  cases b with
  | false =>
    show laws_FnDecText.j2 998 s false false true m e m e = some true
    rw [laws_FnDecText.j2, if_pos rfl, if_pos (by simp)]
    rfl
  | true =>
    obtain ⟨hok, hle⟩ := h3 rfl
    show laws_FnDecText.j2 998 s true true false m e m e = some true
    rw [laws_FnDecText.j2, if_neg (by decide), impl_text hok, Option.bind_some, impl_read hok, Option.bind_some, if_pos rfl]
    simp only
    rw [if_pos (by simp), Option.bind_some, bs_size, decide_eq_true (by omega)]
theorem FnDecText_pure : laws_FnDecText.Pure := by
  intro l0 l1 _ _ hb0 _ _ hb1
  refine ⟨1000, ?_⟩
  have hj : ∀ b, laws_FnDecText.j0 1000 l0 l1 b = some true := by
    intro b
    rw [laws_FnDecText.j0]
    cases b with
    | true => rfl
    | false =>
      rw [if_neg (by decide)]
      obtain ⟨m, e, hd⟩ := drawText hb0 999 (by omega)
      rw [hd, Option.bind_some]
      simp only
      by_cases hok : Ok m e
      · obtain ⟨hm, h0, h8⟩ := hok.small
        have hspec : spec_DecText.f 999 m e = some (bs (textL m e)) := by
          unfold spec_DecText.f
          rw [spec_ok, Option.bind_some, if_pos (decide_eq_true hok), spec_textL m e hm h0 h8 999 (by omega)]; rfl
        have hne : ¬ (bs (textL m e)).toList = ([] : List UInt8) := by
          rw [bs_toList]
          obtain ⟨c, r, hc, _⟩ := body_head hok
          unfold textL
          rw [hc]
          split <;> simp
        rw [impl_text hok, Option.bind_some, hspec, Option.bind_some, if_pos rfl, if_neg hne, impl_read hok, Option.bind_some, if_pos rfl]
        simp only
        rw [if_neg (by simp)]
        exact tail_ok hb1
      · have hspec : spec_DecText.f 999 m e = some (bs []) := by
          unfold spec_DecText.f
          rw [spec_ok, Option.bind_some, if_neg (by simpa using hok)]; rfl
        rw [impl_text_no hok, Option.bind_some, hspec, Option.bind_some, if_pos rfl, if_pos (by rw [bs_toList])]
        exact tail_ok hb1
  unfold laws_FnDecText.f
  split <;> exact hj _
end Go.Proofs.YtebcepbamlokcaaDoor.Q
