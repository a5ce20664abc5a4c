/- impl.DecText as a plain function, and that the calls come to them. -/
import Derived.Test.YtebcepbamlokcaaDoorGLib
import Derived.Test.YtebcepbamlokcaaDoorQx3
import Derived.Test.YtebcepbamlokcaaDoorQx4
namespace Go.Proofs.YtebcepbamlokcaaDoor.Q
open Go.RowKit Go.Proofs.YtebcepbamlokcaaDoorW.PrintWords Go.Proofs.YtebcepbamlokcaaDoorW.PrintLast Go.Proofs.YtebcepbamlokcaaDoorW.PrintMore
attribute [local go_sem] max2_int min2_int max_two min_two
set_option linter.unusedVariables false
set_option linter.unusedSimpArgs false

/-! ### impl.DecText -/
def minusB (m : Int) : ByteArray := if m < 0 then ⟨#[45]⟩ else ⟨#[]⟩
def noughtsB (n : Int) : ByteArray := ⟨(Lib.repeatL [48] n.toNat).toArray⟩
def absB (m : Int) : ByteArray := ⟨(Lib.itoa (mx m (-m))).toArray⟩
def padB (m e : Int) : ByteArray := if -e - ((absB m).size : Int) ≥ 0 then noughtsB (-e - ((absB m).size : Int) + 1) ++ absB m else absB m
def decTextB (m e : Int) : ByteArray :=
  if e ≥ 0 then minusB m ++ absB m ++ noughtsB e
  else minusB m ++ (padB m e).extract 0 ((padB m e).size + e).toNat ++ ⟨#[46]⟩ ++ (padB m e).extract ((padB m e).size + e).toNat (padB m e).size
def impl_DecText.f (a0_0 : Int) (a0_1 : Int) : Option ByteArray :=
  (impl_DecOk.f a0_0 a0_1).bind fun b => if b = true then some (decTextB a0_0 a0_1) else some ⟨#[]⟩

theorem nDigits_le : ∀ (k u : Nat), 1 ≤ k → u < 10 ^ k → Lib.nDigits u ≤ k
  | 0, _, h, _ => by omega
  | k + 1, u, _, h => by
    by_cases hs : u < 10
    · rw [Lib.nDigits_small hs]; omega
    · rw [Lib.nDigits_big hs]
      have hk : 1 ≤ k := by
        rcases Nat.eq_zero_or_pos k with h0 | h0
        · subst h0; simp at h; omega
        · exact h0
      have := nDigits_le k (u / 10) hk (by rw [Nat.pow_succ] at h; omega)
      omega
theorem absB_size (m : Int) (h0 : -99999999 ≤ m) (h1 : m ≤ 99999999) : 1 ≤ (absB m).size ∧ (absB m).size ≤ 8 := by
  have hmx : 0 ≤ mx m (-m) ∧ mx m (-m) ≤ 99999999 := by unfold mx; split <;> omega
  have e : (absB m).size = Lib.nDigits (mx m (-m)).toNat := by
    unfold absB Lib.itoa
    rw [if_neg (by omega)]
    show (Lib.decDigits _).toArray.size = _
    rw [List.size_toArray, Lib.decDigits_length]
  rw [e]
  refine ⟨Lib.nDigits_pos _, ?_⟩
  have hlt : (mx m (-m)).toNat < 100000000 := by omega
  generalize (mx m (-m)).toNat = u at hlt
  exact nDigits_le 8 u (by omega) hlt




set_option maxHeartbeats 1000000 in
theorem decText_no (m e : Int) (w : World) (h : impl_DecOk.f m e = some false) :
    Calls Tryd.prog 34 #[.agg #[.int .i64 m, .int .i64 e]] w fun e w' => e = .returned (.string ⟨#[]⟩) ∧ Below w.heap.size w w' := by
  have H := Aside0.mk h
  clear h
  have hB := box_below w (.cells #[.int .i64 m, .int .i64 e] 24)
  go_enter Tryd.func34, Tryd.ntmps34
  go_wp2_with (go_at_call 76; refine (impl_DecOk.calls m e false _ H.out).mono ?_; rintro e' w1 ⟨rfl, hb⟩; have hB1 := at_step hB hb; clear hb)
  go_ret
  exact ⟨rfl, hB1.out⟩

theorem str_ret {a b : ByteArray} (h : a = b) : Ending.returned (.string a) = .returned (.string b) := by rw [h]

set_option maxHeartbeats 1000000 in
theorem decText_ge (m e : Int) (w : World) (h : impl_DecOk.f m e = some true) (hG : LaidG 1 w) (h0 : -99999999 ≤ m) (h1 : m ≤ 99999999) (h2 : 0 ≤ e) (h3 : e ≤ 8) :
    Calls Tryd.prog 34 #[.agg #[.int .i64 m, .int .i64 e]] w fun e' w' => e' = .returned (.string (minusB m ++ absB m ++ noughtsB e)) ∧ Below w.heap.size w w' := by
  have H := Aside0.mk h
  have HG := Aside0.mk hG
  have hs := absB_size m h0 h1
  have hw : wrap64 (-m) = -m := by unfold wrap64; omega
  have HS : Aside0 (impl_size.f m = some (mx m (-m))) := ⟨by unfold impl_size.f; rw [hw]⟩
  have HI : Aside0 (strconv_Itoa.f (mx m (-m)) = some (absB m)) := ⟨by unfold strconv_Itoa.f absB; rw [if_pos (by unfold mx; split <;> omega)]⟩
  have HR : Aside0 (strings_Repeat.f ⟨#[48]⟩ e = some (noughtsB e)) := ⟨by unfold strings_Repeat.f noughtsB; rw [if_pos ⟨h2, by omega, by show 1 * e.toNat ≤ _; omega⟩]⟩
  have hrs : (noughtsB e).size ≤ 8 := by
    show (Lib.repeatL [48] e.toNat).toArray.size ≤ 8
    rw [List.size_toArray, Lib.repeatL_length]; simp; omega
  clear h hG hw
  generalize absB m = t at *
  generalize noughtsB e = z at *
  generalize mx m (-m) = a at *
  have hB := box_below w (.cells #[.int .i64 m, .int .i64 e] 24)
  by_cases hm : m < 0
  all_goals
    go_enter Tryd.func34, Tryd.ntmps34
    go_wp2_with (first | (go_at_call 76; refine (impl_DecOk.calls m e true _ H.out).mono ?_; rintro e' w1 ⟨rfl, hb⟩; have hB1 := at_step hB hb; have c10 : w1.cell? ⟨w.heap.size, 0, none⟩ = some (.int .i64 m) := (hb.cell (by simp)).trans (by simp [go_sem]); have c11 : w1.cell? ⟨w.heap.size, 1, none⟩ = some (.int .i64 e) := (hb.cell (by simp)).trans (by simp [go_sem]); clear hb hB) | (go_at_call 78; refine (impl_size.calls m a _ HS.out).mono ?_; rintro e' w2 ⟨rfl, hb⟩; have hB2 := at_step hB1 hb; have c20 := pw_cell_below hb c10; have c21 := pw_cell_below hb c11; clear hb hB1 c10 c11) | (go_at_call 77; refine (strconv_Itoa.calls a t _ (LaidG.below (m := 1) (by decide) HG.out hB2.out) HI.out).mono ?_; rintro e' w3 ⟨rfl, hb⟩; have hB3 := at_step hB2 hb; have c30 := pw_cell_below hb c20; have c31 := pw_cell_below hb c21; clear hb hB2 c20 c21) | (go_at_call 79; refine (strings_Repeat.calls ⟨#[48]⟩ e z _ HR.out).mono ?_; rintro e' w4 ⟨rfl, hb⟩; have hB4 := at_step hB3 hb; clear hb hB3))
    go_ret
    exact ⟨str_ret (by unfold minusB; first | (rw [if_pos hm]) | (rw [if_neg (by omega)])), hB4.out⟩



set_option maxHeartbeats 2000000 in
theorem decText_lt (m e : Int) (w : World) (h : impl_DecOk.f m e = some true) (hG : LaidG 1 w) (h0 : -99999999 ≤ m) (h1 : m ≤ 99999999) (h2 : e < 0) (h3 : -8 ≤ e) :
    Calls Tryd.prog 34 #[.agg #[.int .i64 m, .int .i64 e]] w fun e' w' => e' = .returned (.string (decTextB m e)) ∧ Below w.heap.size w w' := by
  have H := Aside0.mk h
  have HG := Aside0.mk hG
  have hs := absB_size m h0 h1
  have hw : wrap64 (-m) = -m := by unfold wrap64; omega
  have HS : Aside0 (impl_size.f m = some (mx m (-m))) := ⟨by unfold impl_size.f; rw [hw]⟩
  have HI : Aside0 (strconv_Itoa.f (mx m (-m)) = some (absB m)) := ⟨by unfold strconv_Itoa.f absB; rw [if_pos (by unfold mx; split <;> omega)]⟩
  have hrs : ∀ n : Int, n ≤ 9 → (noughtsB n).size ≤ 9 := by
    intro n hn
    show (Lib.repeatL [48] n.toNat).toArray.size ≤ 9
    rw [List.size_toArray, Lib.repeatL_length]; simp; omega
  have hD : Aside0 (decTextB m e = minusB m ++ (padB m e).extract 0 ((padB m e).size + e).toNat ++ ⟨#[46]⟩ ++ (padB m e).extract ((padB m e).size + e).toNat (padB m e).size) := ⟨by unfold decTextB; rw [if_neg (by omega)]⟩
  have hP : Aside0 (padB m e = if -e - ((absB m).size : Int) ≥ 0 then noughtsB (-e - ((absB m).size : Int) + 1) ++ absB m else absB m) := ⟨rfl⟩
  clear h hG hw
  generalize absB m = t at *
  generalize mx m (-m) = a at *
  generalize decTextB m e = D at *
  generalize padB m e = p at *
  have hB := box_below w (.cells #[.int .i64 m, .int .i64 e] 24)
  by_cases hn : 0 ≤ -e - (t.size : Int)
  · have HR : Aside0 (strings_Repeat.f ⟨#[48]⟩ (-e - (t.size : Int) + 1) = some (noughtsB (-e - (t.size : Int) + 1))) := ⟨by unfold strings_Repeat.f noughtsB; rw [if_pos ⟨by omega, by omega, by show 1 * _ ≤ _; omega⟩]⟩
    have hz : (noughtsB (-e - (t.size : Int) + 1)).size ≤ 9 := hrs _ (by omega)
    have hzl : ((noughtsB (-e - (t.size : Int) + 1)).size : Int) = -e - (t.size : Int) + 1 := by
      show ((Lib.repeatL [48] (-e - (t.size : Int) + 1).toNat).toArray.size : Int) = _
      rw [List.size_toArray, Lib.repeatL_length]; simp; omega
    have hP2 : Aside0 (p = noughtsB (-e - (t.size : Int) + 1) ++ t) := ⟨by rw [hP.out, if_pos hn]⟩
    have hz1 : ((noughtsB (-e - (t.size : Int) + 1)).size : Int) ≤ -e - (t.size : Int) + 1 := by omega
    have hz2 : -e - (t.size : Int) + 1 ≤ ((noughtsB (-e - (t.size : Int) + 1)).size : Int) := by omega
    clear hP hrs hzl
    generalize noughtsB (-e - (t.size : Int) + 1) = z at *
    by_cases hm : m < 0
    all_goals
      go_enter Tryd.func34, Tryd.ntmps34
      go_wp2_with (first | (go_at_call 76; refine (impl_DecOk.calls m e true _ H.out).mono ?_; rintro e' w1 ⟨rfl, hb⟩; have hB1 := at_step hB hb; have c10 : w1.cell? ⟨w.heap.size, 0, none⟩ = some (.int .i64 m) := (hb.cell (by simp)).trans (by simp [go_sem]); have c11 : w1.cell? ⟨w.heap.size, 1, none⟩ = some (.int .i64 e) := (hb.cell (by simp)).trans (by simp [go_sem]); clear hb hB) | (go_at_call 78; refine (impl_size.calls m a _ HS.out).mono ?_; rintro e' w2 ⟨rfl, hb⟩; have hB2 := at_step hB1 hb; have c20 := pw_cell_below hb c10; have c21 := pw_cell_below hb c11; clear hb hB1 c10 c11) | (go_at_call 77; refine (strconv_Itoa.calls a t _ (LaidG.below (m := 1) (by decide) HG.out hB2.out) HI.out).mono ?_; rintro e' w3 ⟨rfl, hb⟩; have hB3 := at_step hB2 hb; have c30 := pw_cell_below hb c20; have c31 := pw_cell_below hb c21; clear hb hB2 c20 c21) | (go_at_call 79; refine (strings_Repeat.calls ⟨#[48]⟩ (-e - (t.size : Int) + 1) z _ HR.out).mono ?_; rintro e' w4 ⟨rfl, hb⟩; have hB4 := at_step hB3 hb; have c40 := pw_cell_below hb c30; have c41 := pw_cell_below hb c31; clear hb hB3 c30 c31))
      have hn1 : 0 ≤ (z.size : Int) + t.size + e := by omega
      have hn2 : (z.size : Int) + t.size + e ≤ ((z ++ t).size : Int) := by rw [ByteArray.size_append]; omega
      have hn3 : (z ++ t).size ≤ 100 := by rw [ByteArray.size_append]; omega
      have hE : Aside0 ((p.size : Int) + e = (z.size : Int) + t.size + e) := ⟨by rw [hP2.out, ByteArray.size_append]; omega⟩
      have hn4 : z.size + t.size ≤ 100 := by omega
      go_quiet (fail)
      go_wp2
      go_ret
      refine ⟨str_ret ?_, below_drawn hB4.out _⟩
      rw [hD.out, hP2.out, ByteArray.size_append, Int.natCast_add]
      unfold minusB
      first | (rw [if_pos hm]) | (rw [if_neg (by omega)])
  · have hP2 : Aside0 (p = t) := ⟨by rw [hP.out, if_neg hn]⟩
    clear hP hrs
    by_cases hm : m < 0
    all_goals
      go_enter Tryd.func34, Tryd.ntmps34
      go_wp2_with (first | (go_at_call 76; refine (impl_DecOk.calls m e true _ H.out).mono ?_; rintro e' w1 ⟨rfl, hb⟩; have hB1 := at_step hB hb; have c10 : w1.cell? ⟨w.heap.size, 0, none⟩ = some (.int .i64 m) := (hb.cell (by simp)).trans (by simp [go_sem]); have c11 : w1.cell? ⟨w.heap.size, 1, none⟩ = some (.int .i64 e) := (hb.cell (by simp)).trans (by simp [go_sem]); clear hb hB) | (go_at_call 78; refine (impl_size.calls m a _ HS.out).mono ?_; rintro e' w2 ⟨rfl, hb⟩; have hB2 := at_step hB1 hb; have c20 := pw_cell_below hb c10; have c21 := pw_cell_below hb c11; clear hb hB1 c10 c11) | (go_at_call 77; refine (strconv_Itoa.calls a t _ (LaidG.below (m := 1) (by decide) HG.out hB2.out) HI.out).mono ?_; rintro e' w3 ⟨rfl, hb⟩; have hB3 := at_step hB2 hb; have c30 := pw_cell_below hb c20; have c31 := pw_cell_below hb c21; clear hb hB2 c20 c21))
      have hn1 : 0 ≤ (t.size : Int) + e := by omega
      have hn2 : (t.size : Int) + e ≤ (t.size : Int) := by omega
      have hn4 : t.size ≤ 100 := by omega
      go_quiet (fail)
      go_wp2
      go_ret
      refine ⟨str_ret ?_, below_drawn hB3.out _⟩
      rw [hD.out, hP2.out]
      unfold minusB
      first | (rw [if_pos hm]) | (rw [if_neg (by omega)])

theorem impl_DecText.calls (a0_0 : Int) (a0_1 : Int) (r : ByteArray) (w : World) (hG : LaidG 1 w) (h : impl_DecText.f a0_0 a0_1 = some r) :
    Calls Tryd.prog 34 #[.agg #[.int .i64 a0_0, .int .i64 a0_1]] w fun e w' => e = .returned (.string r) ∧ Below w.heap.size w w' := by
  unfold impl_DecText.f at h
  obtain ⟨b, hb, h⟩ := Option.bind_eq_some_iff.mp h
  cases b with
  | false =>
    simp only [Bool.false_eq_true, if_false, Option.some.injEq] at h
    subst h
    exact decText_no a0_0 a0_1 w hb
  | true =>
    simp only [if_true, Option.some.injEq] at h
    subst h
    have hr : -99999999 ≤ a0_0 ∧ a0_0 ≤ 99999999 ∧ -8 ≤ a0_1 ∧ a0_1 ≤ 8 := by
      unfold impl_DecOk.f at hb
      repeat' split at hb
      all_goals first | (cases hb; done) | (refine ⟨?_, ?_, ?_, ?_⟩ <;> omega)
    by_cases h0 : 0 ≤ a0_1
    · have e : decTextB a0_0 a0_1 = minusB a0_0 ++ absB a0_0 ++ noughtsB a0_1 := by unfold decTextB; rw [if_pos h0]
      rw [e]
      exact decText_ge a0_0 a0_1 w hb hG hr.1 hr.2.1 h0 hr.2.2.2
    · exact decText_lt a0_0 a0_1 w hb hG hr.1 hr.2.1 (by omega) hr.2.2.1

end Go.Proofs.YtebcepbamlokcaaDoor.Q
