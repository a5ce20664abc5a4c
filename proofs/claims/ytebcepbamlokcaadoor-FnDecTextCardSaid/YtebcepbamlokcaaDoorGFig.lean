/- impl.figures, walked by hand: what they come to. -/
import Derived.Test.YtebcepbamlokcaaDoorQx0
import Derived.Lib.Strings
namespace Go.Proofs.YtebcepbamlokcaaDoor.Q
open Go.RowKit Go.Proofs.YtebcepbamlokcaaDoorW.PrintWords Go.Proofs.YtebcepbamlokcaaDoorW.PrintLast Go.Proofs.YtebcepbamlokcaaDoorW.PrintMore
attribute [local go_sem] max2_int min2_int max_two min_two
set_option linter.unusedVariables false
set_option linter.unusedSimpArgs false

/-- A byte is a figure. -/
def digB (c : UInt8) : Bool := decide (48 ≤ (c.toNat : Int)) && decide ((c.toNat : Int) ≤ 57)
def figTo (s : ByteArray) (k : Nat) : Bool := (s.data.toList.take k).all digB
def figB (s : ByteArray) : Bool := s.data.toList.all digB && !s.data.toList.isEmpty
theorem figTo_zero (s : ByteArray) : figTo s 0 = true := by simp [figTo]
theorem figTo_succ (s : ByteArray) (k : Nat) (h : k < s.size) : figTo s (k + 1) = (figTo s k && digB s[k]) := by
  unfold figTo
  rw [List.take_succ_eq_append_getElem (by simpa using h), List.all_append]
  simp only [List.all_cons, List.all_nil, Bool.and_true]
  rfl
theorem figTo_size (s : ByteArray) : figTo s s.size = s.data.toList.all digB := by
  unfold figTo
  rw [List.take_of_length_le (by simp)]
theorem figTo_mono (s : ByteArray) (k : Nat) (h : k < s.size) (hd : digB s[k] = false) : figB s = false := by
  unfold figB
  have : s.data.toList.all digB = false := by
    rw [List.all_eq_false]
    refine ⟨s[k], ?_, by simp [hd]⟩
    have : s[k] = s.data.toList[k]'(by simpa using h) := rfl
    rw [this]
    exact List.getElem_mem _
  rw [this]; rfl

set_option maxHeartbeats 1000000 in
theorem figures_walk (s : ByteArray) (w : World) (hs : s.size ≤ 4611686018427387904) :
    Calls Tryd.prog 84 #[.string s] w fun e w' => e = .returned (.bool (figB s)) ∧ w = w' := by
  go_enter Tryd.func84, Tryd.ntmps84
  go_wp2
  go_loop [6] (fun i => ∃ k : Nat, k ≤ s.size ∧ i = .int .i64 k ∧ Aside0 (figTo s k = true)) (fun i => s.size + 1 - (intOf i).toNat)
  case atStart => exact ⟨0, Nat.zero_le _, rfl, ⟨figTo_zero s⟩⟩
  case round =>
    obtain ⟨k, hk, rfl, hf⟩ := hrel
    by_cases hlt : k < s.size
    · have hsucc := Aside0.mk (figTo_succ s k hlt)
      have hmono := Aside0.mk (figTo_mono s k hlt)
      have hdig : Aside0 (digB s[k] = (decide (48 ≤ ((s[k]).toNat : Int)) && decide (((s[k]).toNat : Int) ≤ 57))) := ⟨rfl⟩
      by_cases h1 : 48 ≤ ((s[k]).toNat : Int)
      · by_cases h2 : ((s[k]).toNat : Int) ≤ 57
        · have hd : Aside0 (digB s[k] = true) := ⟨by rw [hdig.out, decide_eq_true h1, decide_eq_true h2]; rfl⟩
          go_wp2
          go_round
          case rel => exact ⟨k + 1, by omega, by go_num, ⟨by rw [hsucc.out, hf.out, hd.out]; rfl⟩⟩
          case measure => simp [intOf]; omega
        · have hd : Aside0 (digB s[k] = false) := ⟨by rw [hdig.out, decide_eq_true h1, decide_eq_false h2]; rfl⟩
          go_wp2
          go_ret
          exact ⟨by rw [hmono.out hd.out]; rfl, rfl⟩
      · have hd : Aside0 (digB s[k] = false) := ⟨by rw [hdig.out, decide_eq_false h1]; rfl⟩
        go_wp2
        go_ret
        exact ⟨by rw [hmono.out hd.out]; rfl, rfl⟩
    · have hend : Aside0 (figB s = !s.toList.isEmpty) := ⟨by
        have e : k = s.size := by omega
        have := hf.out
        rw [e, figTo_size] at this
        unfold figB
        rw [this, Bool.true_and]
        rw [show s.toList = s.data.toList from Lib.toList_data s]⟩
      go_wp2
      go_ret
      exact ⟨by rw [hend.out]; rfl, rfl⟩
def impl_figures.f (a0 : ByteArray) : Option Bool := if a0.size ≤ 4611686018427387904 then some (figB a0) else none
theorem impl_figures.calls (a0 : ByteArray) (r : Bool) (w : World) (h : impl_figures.f a0 = some r) :
    Calls Tryd.prog 84 #[.string a0] w fun e w' => e = .returned (.bool r) ∧ Drawn0 w w' := by
  unfold impl_figures.f at h
  split at h
  · rename_i hb
    injection h with h
    subst h
    refine (figures_walk a0 w hb).mono ?_
    rintro e w' ⟨rfl, rfl⟩
    exact ⟨rfl, Drawn0.refl _⟩
  · cases h

end Go.Proofs.YtebcepbamlokcaaDoor.Q
