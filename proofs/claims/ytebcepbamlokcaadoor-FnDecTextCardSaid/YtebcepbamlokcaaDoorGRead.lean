/- impl.DecRead as a plain function, and that the calls come to it. -/
import Derived.Test.YtebcepbamlokcaaDoorGLib
import Derived.Test.YtebcepbamlokcaaDoorGFig
import Derived.Test.YtebcepbamlokcaaDoorQx7
import Derived.Test.YtebcepbamlokcaaDoorQx6
namespace Go.Proofs.YtebcepbamlokcaaDoor.Q
open Go.RowKit Go.Proofs.YtebcepbamlokcaaDoorW.PrintWords Go.Proofs.YtebcepbamlokcaaDoorW.PrintLast Go.Proofs.YtebcepbamlokcaaDoorW.PrintMore
set_option linter.unusedVariables false
set_option linter.unusedSimpArgs false

def badB (whole part : ByteArray) (point : Bool) : Bool :=
  !figB whole || (bt whole 0 == 48 && decide ((whole.size : Int) > 1)) || (point && !figB part) || decide ((whole.size : Int) + (part.size : Int) > 17)

def readTail (minus : Bool) (whole part : ByteArray) (point : Bool) : Option (Int × Int × Bool) :=
  if whole.size < 4294967281 ∧ part.size < 4294967281 then
    if badB whole part point = true then some (0, 0, false)
    else (strconv_Atoi.f (whole ++ part)).bind fun v => if -9223372036854775808 < v.1 ∧ v.1 ≤ 9223372036854775807 then impl_form.f 40 (if minus then -v.1 else v.1) (-(part.size : Int)) else none
  else none
def impl_DecRead.f (a0 : ByteArray) : Option (Int × Int × Bool) :=
  (strings_CutPrefix.f a0 ⟨#[45]⟩).bind fun p => (strings_Cut.f p.1 ⟨#[46]⟩).bind fun q => readTail p.2 q.1 q.2.1 q.2.2

theorem figB_pos {s : ByteArray} (h : figB s = true) : 0 < s.size := by
  unfold figB at h
  have := (Bool.and_eq_true_iff.mp h).2
  rcases Nat.eq_zero_or_pos s.size with h0 | h0
  · have e : s.data.toList = [] := by
      apply List.eq_nil_of_length_eq_zero
      simpa using h0
    rw [e] at this; simp at this
  · exact h0

theorem box2_store {W : World} {g : Nat} {a b : Value} {t : TypeId} (h : W.heap[g]? = some (.cells #[a, b] t (0, 0))) (x y : Value) :
    ((W.setCell ⟨g, 0, none⟩ x).setCell ⟨g, 1, none⟩ y).heap[g]? = some (.cells #[x, y] t (0, 0)) :=
  blk_put (cs := #[x, b]) (blk_put (cs := #[a, b]) h 0 x rfl) 1 y rfl

theorem lt_of_bt {s : ByteArray} (h : 0 < s.size) : bt s 0 = ((s[0]'h).toNat : Int) := by
  unfold bt
  rw [dif_pos (by simpa using h)]
  rfl

set_option maxHeartbeats 16000000 in
theorem decRead_bad (a0 rest whole part : ByteArray) (minus point : Bool) (w : World) (hG : LaidG 8 w) (h1 : strings_CutPrefix.f a0 ⟨#[45]⟩ = some (rest, minus)) (h2 : strings_Cut.f rest ⟨#[46]⟩ = some (whole, part, point))
    (hw : whole.size < 4294967281) (hp : part.size < 4294967281) (hb : badB whole part point = true) :
    Calls Tryd.prog 36 #[.string a0] w fun e w' => e = .returned (.tuple #[.agg #[.int .i64 0, .int .i64 0], .bool false]) ∧ Below w.heap.size w w' := by
  have HG := Aside0.mk hG
  have H1 := Aside0.mk h1
  have H2 := Aside0.mk h2
  clear hG h1 h2
  have HB : Aside0 (Below w.heap.size w (w.alloc (.cells #[.int .i64 0, .int .i64 0] 24))) := ⟨(Below.refl _ _).alloc (Nat.le_refl _) _⟩
  have HK : Aside0 ((w.alloc (.cells #[.int .i64 0, .int .i64 0] 24)).heap[w.heap.size]? = some (.cells #[.int .i64 0, .int .i64 0] 24 (0, 0))) := ⟨blk_new w _⟩
  have GE : Aside0 (w.heap.size ≤ w.heap.size) := ⟨Nat.le_refl _⟩
  obtain ⟨bw, hbw⟩ : ∃ b, figB whole = b := ⟨_, rfl⟩
  obtain ⟨bp, hbp⟩ : ∃ b, figB part = b := ⟨_, rfl⟩
  have HF : Aside0 (impl_figures.f whole = some bw) := ⟨by unfold impl_figures.f; rw [if_pos (by omega), hbw]⟩
  have HP : Aside0 (impl_figures.f part = some bp) := ⟨by unfold impl_figures.f; rw [if_pos (by omega), hbp]⟩
  cases bw with
  | false =>
    clear hbw hbp hb HP
    go_enter Tryd.func36, Tryd.ntmps36
    go_wp2_with (first | (go_at_call 82; refine (strings_CutPrefix.calls a0 ⟨#[45]⟩ rest _ _ H1.out).mono ?_; rintro e w1 ⟨rfl, ⟨n1, rfl⟩⟩; have HB1 : Aside0 (Below w.heap.size w _) := ⟨below_drawn HB.out n1⟩; clear HB) | (go_at_call 83; refine (strings_Cut.calls rest ⟨#[46]⟩ whole part _ _ (LaidG.below (m := 8) (by decide) HG.out HB1.out) H2.out).mono ?_; rintro e w2 ⟨rfl, hb⟩; have HB2 := at_step HB1 hb; have HK2 : Aside0 (w2.heap[w.heap.size]? = _) := Aside0.mk (blk_below (blk_drewN HK.out n1) hb); have hfz0 := blk_frozen HK2.out 0; have hfz1 := blk_frozen HK2.out 1; have hc0 : w2.cell? ⟨w.heap.size, 0, none⟩ = some (.int .i64 0) := (blk_cell HK2.out 0).trans rfl; have hc1 : w2.cell? ⟨w.heap.size, 1, none⟩ = some (.int .i64 0) := (blk_cell HK2.out 1).trans rfl; clear HB1 HK hb) | (go_at_call 84; ((with_reducible refine (impl_figures.calls whole _ _ HF.out).mono ?_); rintro e w3 ⟨rfl, ⟨n3, rfl⟩⟩)) | (go_at_call 84; ((with_reducible refine (impl_figures.calls part _ _ HP.out).mono ?_); rintro e w3 ⟨rfl, ⟨n3, rfl⟩⟩)))
    refine bodyPost_ret (results_ct rfl _ _ w.heap.size 24 #[.int .i64 0, .int .i64 0] (0, 0) _ rfl (box2_store (by repeat (first | exact HK2.out | refine blk_drewN ?_ _)) _ _) Tryd.underlying24 rfl (by kernel_rfl)) rfl ⟨rfl, below_set (below_set (by repeat (first | exact HB2.out | refine below_drawn ?_ _)) GE.out) GE.out⟩
  | true =>
    have hpos := figB_pos hbw
    have e0 := lt_of_bt hpos
    unfold badB at hb
    rw [hbw, hbp, e0] at hb
    clear e0 hbw hbp
    cases hz : (((whole[0]'hpos).toNat : Int) == 48) <;> by_cases hl : (1 : Int) < (whole.size : Int) <;> cases point <;> cases bp <;> by_cases hs : 17 < (whole.size : Int) + (part.size : Int)
    all_goals
      first
      | (exfalso; rw [hz] at hb; simp at hb; omega)
      | (clear hb
         go_enter Tryd.func36, Tryd.ntmps36
         go_wp2_with (first | (go_at_call 82; refine (strings_CutPrefix.calls a0 ⟨#[45]⟩ rest _ _ H1.out).mono ?_; rintro e w1 ⟨rfl, ⟨n1, rfl⟩⟩; have HB1 : Aside0 (Below w.heap.size w _) := ⟨below_drawn HB.out n1⟩; clear HB) | (go_at_call 83; refine (strings_Cut.calls rest ⟨#[46]⟩ whole part _ _ (LaidG.below (m := 8) (by decide) HG.out HB1.out) H2.out).mono ?_; rintro e w2 ⟨rfl, hb⟩; have HB2 := at_step HB1 hb; have HK2 : Aside0 (w2.heap[w.heap.size]? = _) := Aside0.mk (blk_below (blk_drewN HK.out n1) hb); have hfz0 := blk_frozen HK2.out 0; have hfz1 := blk_frozen HK2.out 1; have hc0 : w2.cell? ⟨w.heap.size, 0, none⟩ = some (.int .i64 0) := (blk_cell HK2.out 0).trans rfl; have hc1 : w2.cell? ⟨w.heap.size, 1, none⟩ = some (.int .i64 0) := (blk_cell HK2.out 1).trans rfl; clear HB1 HK hb) | (go_at_call 84; ((with_reducible refine (impl_figures.calls whole _ _ HF.out).mono ?_); rintro e w3 ⟨rfl, ⟨n3, rfl⟩⟩)) | (go_at_call 84; ((with_reducible refine (impl_figures.calls part _ _ HP.out).mono ?_); rintro e w3 ⟨rfl, ⟨n3, rfl⟩⟩)))
         refine bodyPost_ret (results_ct rfl _ _ w.heap.size 24 #[.int .i64 0, .int .i64 0] (0, 0) _ rfl (box2_store (by repeat (first | exact HK2.out | refine blk_drewN ?_ _)) _ _) Tryd.underlying24 rfl (by kernel_rfl)) rfl ⟨rfl, below_set (below_set (by repeat (first | exact HB2.out | refine below_drawn ?_ _)) GE.out) GE.out⟩)

set_option maxHeartbeats 16000000 in
theorem decRead_good (a0 rest whole part : ByteArray) (minus point : Bool) (v r1 r2 : Int) (r3 : Bool) (eo : Option Int) (w : World) (hG : LaidG 8 w) (h1 : strings_CutPrefix.f a0 ⟨#[45]⟩ = some (rest, minus)) (h2 : strings_Cut.f rest ⟨#[46]⟩ = some (whole, part, point))
    (hw : whole.size < 4294967281) (hp : part.size < 4294967281) (hb : badB whole part point = false) (ha : strconv_Atoi.f (whole ++ part) = some (v, eo)) (hv0 : -9223372036854775808 < v) (hv1 : v ≤ 9223372036854775807)
    (hm : impl_form.f 40 (if minus then -v else v) (-(part.size : Int)) = some (r1, r2, r3)) :
    Calls Tryd.prog 36 #[.string a0] w fun e w' => e = .returned (.tuple #[.agg #[.int .i64 r1, .int .i64 r2], .bool r3]) ∧ Below w.heap.size w w' := by
  have HA := Aside0.mk ha
  have HG := Aside0.mk hG
  have H1 := Aside0.mk h1
  have H2 := Aside0.mk h2
  clear hG h1 h2
  have HB : Aside0 (Below w.heap.size w (w.alloc (.cells #[.int .i64 0, .int .i64 0] 24))) := ⟨(Below.refl _ _).alloc (Nat.le_refl _) _⟩
  have HK : Aside0 ((w.alloc (.cells #[.int .i64 0, .int .i64 0] 24)).heap[w.heap.size]? = some (.cells #[.int .i64 0, .int .i64 0] 24 (0, 0))) := ⟨blk_new w _⟩
  have GE : Aside0 (w.heap.size ≤ w.heap.size) := ⟨Nat.le_refl _⟩
  obtain ⟨bw, hbw⟩ : ∃ b, figB whole = b := ⟨_, rfl⟩
  obtain ⟨bp, hbp⟩ : ∃ b, figB part = b := ⟨_, rfl⟩
  have HF : Aside0 (impl_figures.f whole = some bw) := ⟨by unfold impl_figures.f; rw [if_pos (by omega), hbw]⟩
  have HP : Aside0 (impl_figures.f part = some bp) := ⟨by unfold impl_figures.f; rw [if_pos (by omega), hbp]⟩
  clear ha
  cases bw with
  | false =>
    exfalso
    unfold badB at hb
    rw [hbw] at hb
    simp at hb
  | true =>
    have hpos := figB_pos hbw
    have e0 := lt_of_bt hpos
    unfold badB at hb
    rw [hbw, hbp, e0] at hb
    clear e0 hbw hbp
    have hs : (whole.size : Int) + (part.size : Int) ≤ 17 := by
      have := (Bool.or_eq_false_iff.mp hb).2
      have := of_decide_eq_false this
      omega
    cases hz : (((whole[0]'hpos).toNat : Int) == 48) <;> by_cases hl : (1 : Int) < (whole.size : Int) <;> cases point <;> cases bp <;> cases minus
    all_goals
      first
      | (exfalso; rw [hz, show decide ((whole.size : Int) > 1) = true from decide_eq_true hl] at hb; simp at hb; done) | (exfalso; simp at hb; done) | (exfalso; rw [hz] at hb; simp [hl] at hb; done)
      | (clear hb
         have HM := Aside0.mk hm
         clear hm
         simp only [Bool.false_eq_true, if_false, if_true] at HM
         go_enter Tryd.func36, Tryd.ntmps36
         go_wp2_with (first | (go_at_call 82; refine (strings_CutPrefix.calls a0 ⟨#[45]⟩ rest _ _ H1.out).mono ?_; rintro e w1 ⟨rfl, ⟨n1, rfl⟩⟩; have HB1 : Aside0 (Below w.heap.size w _) := ⟨below_drawn HB.out n1⟩; clear HB) | (go_at_call 83; refine (strings_Cut.calls rest ⟨#[46]⟩ whole part _ _ (LaidG.below (m := 8) (by decide) HG.out HB1.out) H2.out).mono ?_; rintro e w2 ⟨rfl, hb⟩; have HB2 := at_step HB1 hb; have HK2 : Aside0 (w2.heap[w.heap.size]? = _) := Aside0.mk (blk_below (blk_drewN HK.out n1) hb); have hfz0 := blk_frozen HK2.out 0; have hfz1 := blk_frozen HK2.out 1; have hc0 : w2.cell? ⟨w.heap.size, 0, none⟩ = some (.int .i64 0) := (blk_cell HK2.out 0).trans rfl; have hc1 : w2.cell? ⟨w.heap.size, 1, none⟩ = some (.int .i64 0) := (blk_cell HK2.out 1).trans rfl; clear HB1 HK hb) | (go_at_call 84; ((with_reducible refine (impl_figures.calls whole _ _ HF.out).mono ?_); rintro e w3 ⟨rfl, ⟨n3, rfl⟩⟩)) | (go_at_call 84; ((with_reducible refine (impl_figures.calls part _ _ HP.out).mono ?_); rintro e w3 ⟨rfl, ⟨n3, rfl⟩⟩)) | (go_at_call 85; refine (strconv_Atoi.calls (whole ++ part) v eo _ HA.out).mono ?_; rintro e w4 ⟨rfl, hb⟩; have HB4 := at_step (w := w) (Aside0.mk (by repeat (first | exact HB2.out | refine below_drawn ?_ _))) hb; have HK4 : Aside0 (w4.heap[w.heap.size]? = some (.cells #[.int .i64 0, .int .i64 0] 24 (0, 0))) := Aside0.mk (blk_below (by repeat (first | exact HK2.out | refine blk_drewN ?_ _)) hb); clear hb) | (go_at_call 86; refine (impl_form.calls 40 _ _ r1 r2 r3 _ HM.out).mono ?_; rintro e w5 ⟨rfl, hb⟩; have HB5 := at_step HB4 hb; have HK5 : Aside0 (w5.heap[w.heap.size]? = some (.cells #[.int .i64 0, .int .i64 0] 24 (0, 0))) := Aside0.mk (blk_below HK4.out hb); have hfz50 := blk_frozen HK5.out 0; have hfz51 := blk_frozen HK5.out 1; have hc50 : w5.cell? ⟨w.heap.size, 0, none⟩ = some (.int .i64 0) := (blk_cell HK5.out 0).trans rfl; have hc51 : w5.cell? ⟨w.heap.size, 1, none⟩ = some (.int .i64 0) := (blk_cell HK5.out 1).trans rfl; clear hb))
         refine bodyPost_ret (results_ct rfl _ _ w.heap.size 24 #[.int .i64 r1, .int .i64 r2] (0, 0) _ rfl (box2_store HK5.out _ _) Tryd.underlying24 rfl (by kernel_rfl)) rfl ⟨rfl, below_set (below_set HB5.out GE.out) GE.out⟩)

theorem impl_DecRead.calls (a0 : ByteArray) (r1 : Int) (r2 : Int) (r3 : Bool) (w : World) (hG : LaidG 8 w) (h : impl_DecRead.f a0 = some (r1, r2, r3)) :
    Calls Tryd.prog 36 #[.string a0] w fun e w' => e = .returned (.tuple #[.agg #[.int .i64 r1, .int .i64 r2], .bool r3]) ∧ Below w.heap.size w w' := by
  unfold impl_DecRead.f at h
  obtain ⟨⟨rest, minus⟩, h1, h⟩ := Option.bind_eq_some_iff.mp h
  obtain ⟨⟨whole, part, point⟩, h2, h⟩ := Option.bind_eq_some_iff.mp h
  simp only at h
  unfold readTail at h
  split at h
  · rename_i hz
    split at h
    · rename_i hb
      simp only [Option.some.injEq, Prod.mk.injEq] at h
      obtain ⟨rfl, rfl, rfl⟩ := h
      exact decRead_bad a0 rest whole part minus point w hG h1 h2 hz.1 hz.2 hb
    · rename_i hb
      obtain ⟨⟨v, eo⟩, ha, h⟩ := Option.bind_eq_some_iff.mp h
      simp only at h
      split at h
      · rename_i hv
        exact decRead_good a0 rest whole part minus point v r1 r2 r3 eo w hG h1 h2 hz.1 hz.2 (by simpa using hb) ha hv.1 hv.2 h
      · cases h
  · cases h
end Go.Proofs.YtebcepbamlokcaaDoor.Q
