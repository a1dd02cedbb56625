import Derived.Test.YteaegfkgnmfleaaDoorKindsB
import Derived.Test.YteaegfkgnmfleaaDoorHx2
namespace Go.Proofs.YteaegfkgnmfleaaDoor.Tk
open Go.ChangeShapes Go.WideShapes Go.ChangeAt Go.RowKit Go.Proofs.YteaegfkgnmfleaaDoorW.PrintWords Pr

def textOf (i : Int) : ByteArray := if i < 3 then ⟨#[]⟩ else if 53 ≤ i then ⟨#[]⟩ else Wds.getD (i - 3).toNat ⟨#[]⟩

theorem words_marks : ∃ a b, gimbalref03_words.f = some a ∧ gimbalref03_marks.f = some b ∧ a ++ b = Wds := ⟨_, _, rfl, rfl, rfl⟩

theorem wrap64_small (n : Int) (h : -9223372036854775808 ≤ n ∧ n ≤ 9223372036854775807) : wrap64 n = n := by
  rw [← IntWalk.i64_left]; exact IntWalk.i64_in n h

theorem refKind_l0 (s : ByteArray) : ∀ (n j : Nat), 50 < n + j → j ≤ 50 → gimbalref03_Kind.l0 n s Wds (j : Int) = some (kindIn (Wds.drop j) s (3 + j))
  | 0, j, h, h2 => by omega
  | n + 1, j, h, h2 => by
    rw [gimbalref03_Kind.l0, kindIn_drop]
    by_cases hj : j < 50
    · have hjl : j < Wds.length := by rw [Wds_len]; exact hj
      rw [dif_pos hj, if_pos (by rw [Wds_len]; omega), if_pos (by omega)]
      have hr : rdOf ByteArray.empty Wds (j : Int) = Wds[j]'hjl := by simp [rdOf, List.getD, hjl]
      rw [hr]
      by_cases he : (Wds[j]'hjl).toList = s.toList
      · rw [if_pos he, if_pos he, wrap64_small _ (by omega)]
      · rw [if_neg he, if_neg he, wrap64_small _ (by omega)]
        have := refKind_l0 s n (j + 1) (by omega) (by omega)
        rw [show ((j : Int) + 1) = ((j + 1 : Nat) : Int) by push_cast; rfl, this]
        congr 2
    · rw [dif_neg hj, if_neg (by rw [Wds_len]; omega)]
theorem refKind_f (s : ByteArray) : gimbalref03_Kind.f 60 s = some (kindOf s) := by
  obtain ⟨a, b, ha, hb, hab⟩ := words_marks
  have hl : a.length + b.length = 50 := by rw [← List.length_append, hab]; rfl
  unfold gimbalref03_Kind.f
  rw [ha, hb, Option.bind_some, Option.bind_some, if_pos (by omega), hab]
  exact refKind_l0 s 60 0 (by omega) (by omega)
theorem refText_f (i : Int) (h : -9223372036854775808 ≤ i ∧ i ≤ 9223372036854775807) : gimbalref03_Text.f i = some (textOf i) := by
  obtain ⟨a, b, ha, hb, hab⟩ := words_marks
  have hl : a.length + b.length = 50 := by rw [← List.length_append, hab]; rfl
  unfold gimbalref03_Text.f
  rw [ha, hb, Option.bind_some, Option.bind_some, if_pos (by omega), hab, Option.bind_some, Wds_len]
  unfold textOf
  by_cases h1 : i < 3
  · rw [if_pos h1, if_pos h1]
  rw [if_neg h1, if_neg h1]
  rw [wrap64_small (3 + ((50 : Nat) : Int)) (by omega)]
  by_cases h2 : 53 ≤ i
  · rw [if_pos (by omega), if_pos h2]
  rw [if_neg (by omega), if_neg h2, wrap64_small _ (by omega), if_pos (by omega), if_pos (by omega)]
  rfl

theorem kindOf_at : ∀ k : Fin 50, kindOf (Wds.getD k.val ⟨#[]⟩) = 3 + (k.val : Int) := by decide +kernel
theorem kindOf_while : kindOf ⟨#[119, 104, 105, 108, 101]⟩ = 27 := by decide +kernel
theorem kind_text (i : Int) (h : (textOf i).toList ≠ []) : kindOf (textOf i) = i := by
  unfold textOf at h ⊢
  by_cases h1 : i < 3
  · rw [if_pos h1] at h; exact absurd (show (⟨#[]⟩ : ByteArray).toList = [] by decide +kernel) h
  rw [if_neg h1] at h ⊢
  by_cases h2 : 53 ≤ i
  · rw [if_pos h2] at h; exact absurd (show (⟨#[]⟩ : ByteArray).toList = [] by decide +kernel) h
  rw [if_neg h2]
  have := kindOf_at ⟨(i - 3).toNat, by omega⟩
  rw [show ((⟨(i - 3).toNat, by omega⟩ : Fin 50).val) = (i - 3).toNat from rfl] at this
  rw [this]; omega

theorem kind_while (w : World) (h : HasTab w) : Calls Tryd.prog 8 #[.string ⟨#[119, 104, 105, 108, 101]⟩] w fun e w' => e = .returned (.int .i64 27) ∧ w' = w := by
  have := kind_walk ⟨#[119, 104, 105, 108, 101]⟩ w h
  rwa [kindOf_while] at this
theorem text_walk' (i : Int) (w : World) (h : HasTab w) : Calls Tryd.prog 7 #[.int .i64 i] w fun e w' => e = .returned (.string (textOf i)) ∧ w' = w := text_walk i w h

set_option maxRecDepth 100000 in
set_option maxHeartbeats 4000000 in
theorem law_walk (s : ByteArray) (i : Int) (hi : -9223372036854775808 ≤ i ∧ i ≤ 9223372036854775807) (w : World) (h : HasTab w) :
    Calls Tryd.prog 3 #[.string s, .int .i64 i] w fun e w' => e = .returned (.bool true) ∧ Below w.heap.size w w' := by
  have hp := h.pos
  have hb0 := Below.refl w.heap.size w
  by_cases ht : (textOf i).toList = []
  · go_enter Tryd.func3, Tryd.ntmps3
    go_wp2_with (first | (go_at_call 7; with_reducible refine (text_walk' i _ h).mono ?_; rintro e w' ⟨rfl, rfl⟩) | (go_at_call 8;  with_reducible refine (kind_while _ (by assumption)).mono ?_; rintro e w' ⟨rfl, rfl⟩) | (go_at_call 8;  with_reducible refine (kind_walk s _ h).mono ?_; rintro e w' ⟨rfl, rfl⟩) | (go_at_call 9; with_reducible refine (gimbalref03_Kind.calls 60 s _ _ (refKind_f s)).mono ?_; rintro e w1 ⟨rfl, hb1⟩; have ht1 := h.below hb1 hp) | (go_at_call 10; with_reducible refine (gimbalref03_Text.calls i _ _ (refText_f i hi)).mono ?_; rintro e w2 ⟨rfl, hb2⟩; have ht2 := ht1.below hb2 ht1.pos))
    go_ret
    exact ⟨rfl, hb1.trans (hb2.mono hb1.size)⟩
  · have hk := kind_text i ht
    have kw : ∀ w, HasTab w → Calls Tryd.prog 8 #[.string (textOf i)] w fun e w' => e = .returned (.int .i64 i) ∧ w' = w := fun w hw => by
      have := kind_walk (textOf i) w hw
      rwa [hk] at this
    clear hk
    go_enter Tryd.func3, Tryd.ntmps3
    go_wp2_with (first | (go_at_call 7; with_reducible refine (text_walk' i _ h).mono ?_; rintro e w' ⟨rfl, rfl⟩) | (go_at_call 8;  with_reducible refine (kind_while _ (by assumption)).mono ?_; rintro e w' ⟨rfl, rfl⟩) | (go_at_call 8;  with_reducible refine (kw _ ht2).mono ?_; rintro e w' ⟨rfl, rfl⟩) | (go_at_call 8;  with_reducible refine (kind_walk s _ h).mono ?_; rintro e w' ⟨rfl, rfl⟩) | (go_at_call 9; with_reducible refine (gimbalref03_Kind.calls 60 s _ _ (refKind_f s)).mono ?_; rintro e w1 ⟨rfl, hb1⟩; have ht1 := h.below hb1 hp) | (go_at_call 10; with_reducible refine (gimbalref03_Text.calls i _ _ (refText_f i hi)).mono ?_; rintro e w2 ⟨rfl, hb2⟩; have ht2 := ht1.below hb2 ht1.pos))
    go_ret
    exact ⟨rfl, hb1.trans (hb2.mono hb1.size)⟩
end Go.Proofs.YteaegfkgnmfleaaDoor.Tk
