/- This claim's own texts, joined, with only what the claim uses: BackA. -/
import Derived.Test.YteaegfkgnmfleaaDoorBakP31
import Derived.Laws.BitsLemmas
import Derived.Lib.AppendStr
import Derived.Laws.IdiomStrings
namespace Go.Proofs.YteaegfkgnmfleaaDoor.Sc
open Go.RowKit Tk Pr Go.Proofs.YteaegfkgnmfleaaDoorW.PrintWords

theorem and3 (g : Int) : ∃ j : Nat, j < 4 ∧ bits BinOp.and IntKind.i64 g 3 = (j : Int) := by
  have h : (BitVec.ofInt 64 g &&& BitVec.ofInt 64 3).toNat ≤ 3 := by
    rw [BitVec.toNat_and]
    exact Nat.and_le_right
  refine ⟨(BitVec.ofInt 64 g &&& BitVec.ofInt 64 3).toNat, by omega, ?_⟩
  show IntKind.i64.wrap (((BitVec.ofInt 64 g &&& BitVec.ofInt 64 3).toNat : Nat) : Int) = _
  exact IntWalk.i64_in _ (by omega)
def gapB : Nat → ByteArray
  | 0 => ⟨#[32]⟩
  | 1 => ⟨#[10]⟩
  | 2 => ⟨#[32, 47, 47, 32, 97, 32, 34, 32, 49, 32, 47, 42, 10]⟩
  | _ => ⟨#[32, 47, 42, 32, 47, 47, 32, 42, 42, 32, 42, 47, 32]⟩
theorem gapB_ok (j : Nat) (_ : j < 4) : IsGap (Sc.nums (gapB j)) ∧ (gapB j).size ≤ 13 := by
  match j with
  | 0 => exact ⟨gap0, by decide⟩
  | 1 => exact ⟨gap1, by decide⟩
  | 2 => exact ⟨gap2, by decide⟩
  | j + 3 => exact ⟨gap3, Nat.le_refl 13⟩
theorem nums_length (s : ByteArray) : (Sc.nums s).length = s.size := by
  unfold Sc.nums
  rw [List.length_map, Array.length_toList]; rfl
theorem u8s_append (a b : List Int) : u8s (a ++ b) = u8s a ++ u8s b := by unfold u8s; rw [List.map_append]
theorem strCells_nums (s : ByteArray) : Lib.strCells s = u8s (Sc.nums s) := by
  unfold Lib.strCells u8s Sc.nums
  rw [List.map_map]; rfl
theorem flat_snoc (x : Pc) : ∀ l : List Pc, flat (l ++ [x]) = flat l ++ (x.1 ++ x.2.1)
  | [] => by simp [flat]
  | y :: l => by rw [List.cons_append, flat_cons, flat_snoc x l, flat_cons]; simp
/-- The tokens without their numbers. -/
def z4 (t : Tok) : Tok := (t.1, t.2.1, t.2.2.1, 0)
theorem toksOf_snoc (x : Pc) : ∀ (l : List Pc) (p : Nat), toksOf p (l ++ [x]) = toksOf p l ++ [(x.2.2.1, ((p + (flat l).length + x.1.length : Nat) : Int), ((p + (flat l).length + x.1.length + x.2.1.length : Nat) : Int), x.2.2.2)]
  | [], p => by simp [flat, toksOf]
  | y :: l, p => by
    rw [List.cons_append]
    show _ :: toksOf _ (l ++ [x]) = _ :: (toksOf _ l ++ _)
    rw [toksOf_snoc x l, flat_cons]
    congr 3
    simp only [List.length_append, Prod.mk.injEq, and_true, true_and]
    constructor <;> omega
theorem toksOf_length : ∀ (l : List Pc) (p : Nat), (toksOf p l).length = l.length
  | [], p => rfl
  | y :: l, p => by show (_ :: toksOf _ l).length = _; rw [List.length_cons, toksOf_length l, List.length_cons]
abbrev Ok (pcs : List Pc) : Prop := ∀ x ∈ pcs, IsGap x.1 ∧ Single KB x.2.1 x.2.2.1 x.2.2.2
/-- What Scan answers of the joined text. -/
theorem ans_flat {pcs : List Pc} (h : Ok pcs) : (((flat pcs).length ≤ 65536 ∧ pcs.length ≤ 16384) ∧ ans (flat pcs) = ((toksOf 0 pcs).map mkS, 0, 0)) ∨ ((65536 < (flat pcs).length ∨ 16384 < pcs.length) ∧ ∃ q er, er ≠ 0 ∧ ans (flat pcs) = ([], q, er)) := by
  unfold ans
  by_cases h1 : 65536 < (flat pcs).length
  · rw [if_pos h1]
    exact Or.inr ⟨Or.inl h1, 0, 30, by omega, rfl⟩
  · rw [if_neg h1]
    have hs := scan_flat KB_blank pcs 0 [] h (by simp)
    by_cases h2 : 16384 < pcs.length
    · obtain ⟨q, e⟩ := hs.2 (by simpa using h2)
      rw [e]
      exact Or.inr ⟨Or.inr h2, q, 35, by omega, rfl⟩
    · have e := hs.1 (by simpa using h2)
      rw [e, List.nil_append]
      exact Or.inl ⟨⟨by omega, by omega⟩, rfl⟩
/-- A text that is one token by itself. -/
theorem single_of_ans {w : List Int} {x : S37} {q er : Int} (h : ans w = ([x], q, er)) (he : er = 0) (h1 : x.f1 = 0) (h2 : x.f2 = (w.length : Int)) : Single KB w x.f0 x.f3 := by
  subst he
  rcases ans_form w with ⟨ts, ha, _, hsc, _⟩ | ⟨q', er', her, ha⟩
  · rw [ha] at h
    simp only [Prod.mk.injEq] at h
    obtain ⟨h, _⟩ := h
    match ts, h with
    | [t], h =>
      simp only [List.map_cons, List.map_nil, List.cons.injEq, and_true] at h
      subst h
      obtain ⟨a, b, c, d⟩ := t
      simp only [mkS] at h1 h2 ⊢
      subst h1 h2
      exact single_of_scan hsc
  · rw [ha] at h
    simp at h
/-- The text of a kind. -/
theorem text_single (k : Int) (h : (textOf k).toList ≠ []) : Single KB (Sc.nums (textOf k)) k 0 ∧ (textOf k).size ≤ 7 := by
  unfold textOf at h ⊢
  by_cases h1 : k < 3
  · rw [if_pos h1] at h; exact absurd (show (⟨#[]⟩ : ByteArray).toList = [] by decide +kernel) h
  rw [if_neg h1] at h ⊢
  by_cases h2 : 53 ≤ k
  · rw [if_pos h2] at h; exact absurd (show (⟨#[]⟩ : ByteArray).toList = [] by decide +kernel) h
  rw [if_neg h2]
  have hk : (k - 3).toNat < 50 := by omega
  have hs := word_single (k - 3).toNat hk
  rw [show (3 : Int) + (((k - 3).toNat : Nat) : Int) = k by omega] at hs
  refine ⟨hs, ?_⟩
  have all : ∀ j : Fin 50, (Wds.getD j.val ⟨#[]⟩).size ≤ 7 := by decide +kernel
  exact all ⟨_, hk⟩
theorem nums_byte (s : ByteArray) : ∀ c ∈ Sc.nums s, Byte c := by
  intro c hc
  obtain ⟨b, _, rfl⟩ := List.mem_map.1 hc
  have := b.toNat_lt
  unfold Byte
  omega
/-- A new row of a text's bytes. -/
theorem lies_row (w : World) (s : ByteArray) (cap : Nat) (fr : Nat × Nat) : Lies (w.alloc (.cells (bytesRow s cap) 5 fr)) (some ⟨w.heap.size, 0, none⟩) s.size (Sc.nums s) := by
  intro i hi
  refine ⟨_, rfl, ?_⟩
  have e : (⟨w.heap.size, 0, none⟩ : Addr).add i = ⟨w.heap.size, i, none⟩ := by unfold Addr.add; split <;> simp_all
  rw [e, World.cell?_alloc_mark, bytesRow_at s cap i hi]
  simp [Sc.nums, List.getD, hi]
theorem own_ne {w : World} {b1 b2 n m : Nat} {v1 v2 : Value} {xs ys : List Value} (h1 : w.ownsRow b1 5 1 v1 n xs) (h2 : w.ownsRow b2 37 4 v2 m ys) : v1.ownBlock = none ∨ v1.ownBlock ≠ v2.ownBlock := by
  cases hv : v1.ownBlock with
  | none => exact Or.inl rfl
  | some k =>
    refine Or.inr fun e => ?_
    obtain ⟨c1, e1⟩ := own_typed h1 k hv
    obtain ⟨c2, e2⟩ := own_typed h2 k e.symm
    rw [e1] at e2
    have e3 := Option.some.inj e2
    injection e3 with _ ht
    exact absurd ht (by decide)
theorem own_below {w w1 : World} {b n s : Nat} {e : TypeId} {v : Value} {xs : List Value} (h : w.ownsRow b e s v n xs) (hb : Below w.heap.size w w1) : w1.ownsRow b e s v n xs :=
  own_move h (fun k hk => hb.block k (h.lt k hk).2)
end Go.Proofs.YteaegfkgnmfleaaDoor.Sc

