/- This claim's own texts, joined, with only what the claim uses: ScnT, ScnP, Wd. -/
import Derived.Test.YtgaoapnaplgaiaaGreatDoorZf9
import Derived.Below
import Derived.Deep.Draws
import Derived.Deep.AppendLies
import Derived.Maps.AppendAt
import Derived.OwnWalk
import Derived.Laws.BytesArg
import Derived.Laws.MakeOwn
import Derived.Laws.OwnMore
import Derived.Deep.OwnRows
import Derived.Tactics
import Derived.Lib.ConvBytes
import Derived.Laws.Slices
import Derived.WalkKit
import Derived.KernelRfl
import Derived.RowKit3
import Derived.Deep.LoopGhost
import Derived.Deep.QuietTactic
import Derived.BigQuiet
import Derived.WideLaws
import Derived.Deep.DeepCutAuto
import Derived.Deep.CutBlock
import Derived.Deep.RegionHeld3
import Derived.Laws.Rows
import Derived.Lib.AppendStr
import Derived.ArgAppend
import Derived.Laws.IdiomCopy
import Derived.RowKit
namespace Go.Proofs.YtgaoapnaplgaiaaGreatDoor.Sc
open Go.RowKit

theorem numOf_from (l : List Int) : ∀ v : Int, 0 ≤ v → (∀ c ∈ l, 48 ≤ c) → 0 ≤ l.foldl (fun v c => min (10 * v + (c - 48)) 2147483649) v := by
  induction l with
  | nil => exact fun v h _ => h
  | cons c t ih =>
    intro v h hc
    rw [List.foldl_cons]
    have := hc c (by simp)
    exact ih _ (by omega) fun d hd => hc d (by simp [hd])
theorem one_fine {K : List Int → Int} (hK : ∀ s, 0 ≤ K s) {l : List Int} {k : Int} {n : Nat} {v : Int} (h : one K l = .ok (k, n, v)) : 1 ≤ k ∧ 0 ≤ v ∧ v ≤ 2147483648 := by
  unfold one at h
  split at h
  · cases h
  · rename_i c t
    split at h
    · split at h
      · split at h
        · cases h
        · cases h; omega
      · rename_i h0
        have := hK ((c :: t).take (runLen isWord (c :: t)))
        cases h; omega
    · split at h
      · split at h
        · cases h
        · rename_i h0
          have : 0 ≤ numOf ((c :: t).take (runLen isDigit (c :: t))) := numOf_from _ 0 (Int.le_refl _) fun d hd => by
            have := runLen_all isDigit _ d hd
            simp [isDigit] at this
            omega
          cases h; omega
      · split at h
        · rename_i h0
          have := hK ((c :: t).take 2)
          cases h; omega
        · split at h
          · rename_i h0
            have := hK ((c :: t).take 1)
            cases h; omega
          · cases h
/-- What is so of a token of a text of n bytes. -/
structure TokFine (n : Nat) (t : Tok) : Prop where
  kind : 1 ≤ t.1
  num : 0 ≤ t.2.2.2 ∧ t.2.2.2 ≤ 2147483648
  place : 0 ≤ t.2.1 ∧ t.2.1 ≤ t.2.2.1 ∧ t.2.2.1 ≤ (n : Int)
theorem scanF_fine {K : List Int → Int} (hK : ∀ s, 0 ≤ K s) {n : Nat} {L : List Tok} : ∀ (f : Nat) (l : List Int) (p : Nat) (acc : List Tok), p + l.length = n → acc.length ≤ 16384 → (∀ t ∈ acc, TokFine n t) → scanF K f l p acc = .toks L → L.length ≤ 16384 ∧ ∀ t ∈ L, TokFine n t
  | 0, _, _, acc, _, ha, hf, h => by cases h; exact ⟨ha, hf⟩
  | _ + 1, [], _, acc, _, ha, hf, h => by cases h; exact ⟨ha, hf⟩
  | f + 1, c :: t, p, acc, hl, ha, hf, h => by
    have hlt : (c :: t).length = t.length + 1 := rfl
    rw [hlt] at hl
    simp only [scanF] at h
    split at h
    · exact scanF_fine hK f t (p + 1) acc (by omega) ha hf h
    · split at h
      · cases h
      · rename_i k hk
        have := cmAt_long hk
        exact scanF_fine hK f _ (p + k) acc (by rw [List.length_drop]; omega) ha hf h
      · split at h
        · split at h
          · cases h
          · split at h <;> cases h
        · rename_i k m v ho
          have h1 := one_len ho
          have h2 := one_fine hK ho
          split at h
          · cases h
          · refine scanF_fine hK f _ (p + m) _ (by rw [List.length_drop]; omega) (by simp; omega) (fun u hu => ?_) h
            rcases List.mem_append.mp hu with hu | hu
            · exact hf u hu
            · rw [List.mem_singleton.mp hu]
              exact ⟨h2.1, h2.2, by dsimp only; omega⟩
theorem scan_fine {xs : List Int} {L : List Tok} (h : scan KB xs 0 [] = .toks L) : L.length ≤ 16384 ∧ ∀ t ∈ L, TokFine xs.length t :=
  scanF_fine (fun s => (KB_range s).1) _ xs 0 [] (by omega) (by simp) (fun t ht => by simp at ht) h
theorem one_errs {K : List Int → Int} {l : List Int} {e : Int} (h : one K l = .error e) : e = 31 ∨ e = 33 ∨ e = 34 := by
  unfold one at h
  repeat' split at h
  all_goals first | (cases h; done) | (cases h; omega)
theorem scanF_err {K : List Int → Int} {q e : Int} : ∀ (f : Nat) (l : List Int) (p : Nat) (acc : List Tok), scanF K f l p acc = .bad q e → 31 ≤ e ∧ e ≤ 35
  | 0, _, _, acc, h => by cases h
  | _ + 1, [], _, acc, h => by cases h
  | f + 1, c :: t, p, acc, h => by
    simp only [scanF] at h
    split at h
    · exact scanF_err f _ _ _ h
    · split at h
      · cases h; omega
      · exact scanF_err f _ _ _ h
      · split at h
        · rename_i e' ho
          have := one_errs ho
          split at h
          · cases h; omega
          · split at h <;> (cases h; omega)
        · split at h
          · cases h; omega
          · exact scanF_err f _ _ _ h
theorem scan_err {xs : List Int} {q e : Int} (h : scan KB xs 0 [] = .bad q e) : 31 ≤ e ∧ e ≤ 35 := scanF_err _ xs 0 [] h
end Go.Proofs.YtgaoapnaplgaiaaGreatDoor.Sc

namespace Go.Proofs.YtgaoapnaplgaiaaGreatDoor.Sc
set_option maxRecDepth 100000

abbrev zTk : Tok := (0, 0, 0, 0)
theorem cmAt_none {c d : Int} {l : List Int} (h : cmAt (c :: d :: l) = .no) (r : List Int) : cmAt (c :: d :: r) = .no := by
  rw [cmAt_two] at h ⊢
  split at h
  · cases h
  · rename_i h1
    rw [if_neg h1]
    split at h
    · split at h <;> cases h
    · rename_i h2
      rw [if_neg h2]
/-- The first token by itself. -/
theorem one_single {K : List Int → Int} {c : Int} {t : List Int} {k : Int} {n : Nat} {v : Int} (hb : isBlank c = false) (hc : cmAt (c :: t) = .no) (h : one K (c :: t) = .ok (k, n, v)) : Single K ((c :: t).take n) k v := by
  have hn := one_len h
  obtain ⟨i, rfl⟩ : ∃ i, n = i + 1 := ⟨n - 1, by omega⟩
  have hlen : ((c :: t).take (i + 1)).length = i + 1 := by rw [List.length_take]; omega
  refine ⟨c, t.take i, rfl, hb, ?_, ?_⟩
  · cases i with
    | zero => rfl
    | succ j =>
      cases t with
      | nil => simp at hn
      | cons d t => exact cmAt_none hc _
  · rw [hlen]
    have rl : ∀ f : Int → Bool, runLen f (c :: t) = i + 1 → runLen f ((c :: t).take (i + 1)) = i + 1 := fun f hf => by rw [runLen_take f _ _ (by omega), hf]
    have tt : ∀ j, j ≤ i + 1 → ((c :: t).take (i + 1)).take j = (c :: t).take j := fun j hj => by rw [List.take_take, Nat.min_eq_left hj]
    have e0 : (c :: t).take (i + 1) = c :: t.take i := rfl
    unfold one at h ⊢
    rw [e0]
    simp only at h ⊢
    rw [← e0]
    split at h
    · rename_i hc
      rw [if_pos hc]
      have hr : runLen isWord (c :: t) = i + 1 := by
        split at h
        · split at h
          · cases h
          · simp only [Except.ok.injEq, Prod.mk.injEq] at h; exact h.2.1
        · simp only [Except.ok.injEq, Prod.mk.injEq] at h; exact h.2.1
      rw [rl _ hr, tt _ (Nat.le_refl _)]
      rw [hr] at h
      exact h
    · rename_i hc
      rw [if_neg hc]
      split at h
      · rename_i hd
        rw [if_pos hd]
        have hr : runLen isDigit (c :: t) = i + 1 := by
          split at h
          · cases h
          · simp only [Except.ok.injEq, Prod.mk.injEq] at h; exact h.2.1
        rw [rl _ hr, tt _ (Nat.le_refl _)]
        rw [hr] at h
        exact h
      · rename_i hd
        rw [if_neg hd]
        split at h
        · rename_i h2
          simp only [Except.ok.injEq, Prod.mk.injEq] at h
          obtain ⟨e1, e2, e3⟩ := h
          rw [if_pos ⟨by rw [hlen]; omega, by rw [tt 2 (by omega)]; exact h2.2⟩, tt 2 (by omega), e1, e3, ← e2]
        · rename_i h2
          split at h
          · rename_i h3
            simp only [Except.ok.injEq, Prod.mk.injEq] at h
            obtain ⟨e1, e2, e3⟩ := h
            rw [if_neg (by rintro ⟨hl, _⟩; rw [hlen] at hl; omega), tt 1 (by omega), if_pos h3, e1, e3, ← e2]
          · cases h
theorem chain_pos {l : List Int} {p : Nat} {ts : List Tok} (h : Chain l p ts) : ∀ t ∈ ts, (p : Int) ≤ t.2.1 ∧ t.2.1 < t.2.2.1 ∧ t.2.2.1 ≤ ((p + l.length : Nat) : Int) := by
  induction h with
  | done l p g => intro t ht; cases ht
  | tok l p k n a v ts g h1 h2 hc ih =>
    intro t ht
    rcases List.mem_cons.mp ht with rfl | ht
    · dsimp only; omega
    · have := ih t ht
      rw [List.length_drop] at this
      omega
theorem scan_new {K : List Int → Int} {l : List Int} {p : Nat} {acc L : List Tok} (h : scan K l p acc = .toks L) : ∃ new, L = acc ++ new ∧ Chain l p new := scanF_chain K l.length l p acc L (Nat.le_refl _) h
/-- A later token ends behind p. -/
theorem scan_later {K : List Int → Int} {l : List Int} {p : Nat} {acc L : List Tok} (h : scan K l p acc = .toks L) {i : Nat} (hi : acc.length ≤ i) (hl : i < L.length) : (p : Int) ≤ (L.getD i zTk).2.1 ∧ (L.getD i zTk).2.1 < (L.getD i zTk).2.2.1 ∧ (L.getD i zTk).2.2.1 ≤ ((p + l.length : Nat) : Int) := by
  obtain ⟨new, rfl, hc⟩ := scan_new h
  refine chain_pos hc _ ?_
  rw [List.length_append] at hl
  rw [List.getD_eq_getElem?_getD, List.getElem?_append_right hi, List.getElem?_eq_getElem (by omega)]
  exact List.getElem_mem _
end Go.Proofs.YtgaoapnaplgaiaaGreatDoor.Sc

namespace Go.Proofs.YtgaoapnaplgaiaaGreatDoor.Wd
open Go.RowKit

/-- A statement that is laid aside: the walk's simp does not look into it. -/
structure Aside0 (p : Prop) : Prop where mk :: (out : p)
section
variable {w w1 : World} {g : Nat} {t : TypeId} {cs cs' : Array Value} {o : Obj}
theorem blk_lt (h : w.heap[g]? = some o) : g < w.heap.size := (Array.getElem?_eq_some_iff.1 h).1
theorem blk_set (h : w.heap[g]? = some (.cells cs t (0, 0))) (i : Nat) (u : Value) : (w.setCell ⟨g, i, none⟩ u).heap[g]? = some (.cells (cs.setIfInBounds i u) t (0, 0)) := by
  simp [World.setCell, Array.getElem?_modify, h]
theorem blk_put (h : w.heap[g]? = some (.cells cs t (0, 0))) (i : Nat) (u : Value) (e : cs.setIfInBounds i u = cs') : (w.setCell ⟨g, i, none⟩ u).heap[g]? = some (.cells cs' t (0, 0)) := by
  rw [← e]; exact blk_set h i u
theorem blk_far (h : w.heap[g]? = some (.cells cs t (0, 0))) {p : Addr} (hp : g ≠ p.block) (u : Value) : (w.setCell p u).heap[g]? = some (.cells cs t (0, 0)) := (Below.heap_setCell w p u g hp).trans h
theorem blk_cell (h : w.heap[g]? = some (.cells cs t (0, 0))) (i : Nat) : w.cell? ⟨g, i, none⟩ = cs[i]? := cell_of_row w g i cs t (0, 0) h
theorem blk_frozen (h : w.heap[g]? = some (.cells cs t (0, 0))) (i : Nat) : w.frozen? ⟨g, i, none⟩ = false := by simp [World.frozen?, h]
theorem blk_grown {row : Option Nat} (h : w.heap[g]? = some o) (hg : w.grownBy w1 row) (hne : some g ≠ row) : w1.heap[g]? = some o := (hg.block g (blk_lt h) hne).trans h
theorem blk_drew (h : w.heap[g]? = some o) : w.drew.heap[g]? = some o := h
theorem blk_below (h : w.heap[g]? = some o) (hb : Below w.heap.size w w1) : w1.heap[g]? = some o := (hb.block g (blk_lt h)).trans h
end
theorem blk_new (w : World) (o : Obj) : (w.alloc o).heap[w.heap.size]? = some o := heap_alloc_new w o
end Go.Proofs.YtgaoapnaplgaiaaGreatDoor.Wd

