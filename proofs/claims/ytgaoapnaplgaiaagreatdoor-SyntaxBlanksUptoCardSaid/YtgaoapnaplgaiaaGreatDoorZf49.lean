/- This claim's own texts, joined, with only what the claim uses: BrkB, BrkC, LawD, BlkB, BlkX, BlkY. -/
import Derived.Test.YtgaoapnaplgaiaaGreatDoorZf48
import Derived.Test.YtgaoapnaplgaiaaGreatDoorZf34
import Derived.Test.YtgaoapnaplgaiaaGreatDoorZf31
import Derived.Test.YtgaoapnaplgaiaaGreatDoorZf10
import Derived.Test.YtgaoapnaplgaiaaGreatDoorZf40
import Derived.Deep.DeepAppendWide
import Derived.Laws.OwnMore
import Derived.Deep.CutRange
import Derived.Laws.Concat
import Derived.Lib.AppendStr
namespace Go.Proofs.YtgaoapnaplgaiaaGreatDoor.Sc
set_option maxRecDepth 100000
open Go.RowKit Tk Go.Proofs.YtgaoapnaplgaiaaGreatDoor.Wd

/-- Numbers as bytes. -/
def u8s (xs : List Int) : List Value := xs.map (.int .u8)
theorem u8s_append (a b : List Int) : u8s (a ++ b) = u8s a ++ u8s b := by unfold u8s; rw [List.map_append]
theorem lies_own {W : World} {base n c : Nat} {A : Option Addr} {xs : List Int} (h : W.ownsRow base 5 1 (.slice A n c) n (u8s xs)) : Lies W A n xs := by
  intro i hi
  have hl := h.1
  rcases h.2 with ⟨_, h0⟩ | ⟨g, cap, cur, e, _⟩
  · omega
  · injection e with e1 e2 e3
    subst e1
    refine ⟨_, rfl, ?_⟩
    refine h.cells (g := g) rfl i (.int .u8 (xs.getD i 0)) ?_
    have hx : xs.length = n := by simpa [u8s] using hl
    simp [u8s, List.getD, hx, hi]
theorem own_bytes {W : World} {base n : Nat} {v : Value} {xs : List Int} (h : W.ownsRow base 5 1 v n (u8s xs)) : ∃ A c, v = .slice A n c ∧ n ≤ c ∧ (∀ a, A = some a → base ≤ a.block ∧ a.block < W.heap.size) ∧ Lies W A n xs ∧ xs.length = n := by
  have hl := h.1
  rw [u8s, List.length_map, Nat.mul_one] at hl
  rcases h.2 with ⟨rfl, rfl⟩ | ⟨g, cap, cur, rfl, hb, hg, hc, _⟩
  · exact ⟨none, 0, rfl, Nat.le_refl _, (fun a e => by cases e), lies_own h, hl⟩
  · exact ⟨_, cap, rfl, hc, (fun a e => by cases e; exact ⟨hb, (Array.getElem?_eq_some_iff.1 hg).1⟩), lies_own h, hl⟩
/-- A text that lies somewhere is appended to an own row of bytes. -/
theorem run_append_txt {w : World} {base : Nat} {i : TypeInfo} (hi : Tryz.prog.info? 5 = some i) (hz : i.zero = some (.int .u8 0)) (hsize : i.size = 1) (hby : i.bytes = 1) {v : Value} {n : Nat} {xs ys : List Int} (hown : w.ownsRow base 5 1 v n (u8s xs))
    {B : Option Addr} {m c : Nat} (hL : Lies w B m ys) (hy : ys.length = m) (h0 : B = none → m = 0 ∧ c = 0) (hm : n + m ≤ 200000000000000) (hbase : base ≤ w.heap.size) (ty : TypeId) :
    ∃ v' w', (Builtin.append_ #[22, 22] ty #[v, .slice B m c]).run Tryz.prog w = .ok v' w' ∧ w'.ownsRow base 5 1 v' (n + m) (u8s (xs ++ ys)) ∧ w.grownBy w' v.ownBlock := by
  cases B with
  | none =>
    obtain ⟨rfl, rfl⟩ := h0 rfl
    obtain rfl : ys = [] := List.eq_nil_of_length_eq_zero hy
    refine ⟨v, w, run_append_owned_none w base 22 ty 5 i 1 Tryz.underlying22 hi v n _ hown, by rw [List.append_nil]; exact hown, ⟨rfl, rfl, rfl, Nat.le_refl _, fun _ _ _ => rfl⟩⟩
  | some a =>
    obtain ⟨v', w', h1, h2, h3, _⟩ := run_append_own_wide (P := Tryz.prog) w base 22 ty 5 i (.int .u8 0) 1 1 Tryz.underlying22 hi hz hsize hby rfl (by decide) v n _ hown a m c (u8s ys) (by rw [u8s, List.length_map]; omega) (fun j u hu => by
      have hj : j < ys.length := by
        rcases Nat.lt_or_ge j ys.length with h | h
        · exact h
        · rw [u8s, List.getElem?_eq_none (by rw [List.length_map]; exact h)] at hu; cases hu
      rw [hL.at j (by omega)]
      rw [u8s, List.getElem?_map, List.getElem?_eq_getElem hj] at hu
      rw [List.getD_eq_getElem?_getD, List.getElem?_eq_getElem hj]
      exact hu) (fun u hu => by rw [u8s] at hu; obtain ⟨x, _, rfl⟩ := List.mem_map.1 hu; rfl) (by unfold maxLen; omega) (by omega) hbase
    exact ⟨v', w', h1, by rw [u8s_append]; exact h2, h3⟩
theorem wpList_append_txt {w : World} {ops : Array Oper} {rest : List Oper} {o : Oper} {a : Act} {Q : Exit → Act → World → Prop} (hgd : o.guard = none) (s x : Operand)
    (ho : o.op = .call { callee := .builtin .append, args := #[s, x], argTypes := #[22, 22] })
    {base : Nat} {i : TypeInfo} (hi : Tryz.prog.info? 5 = some i) (hz : i.zero = some (.int .u8 0)) (hsize : i.size = 1) (hby : i.bytes = 1) {v : Value} {n : Nat} {xs ys : List Int} (hs : a.eval s = v) (hown : w.ownsRow base 5 1 v n (u8s xs))
    {B : Option Addr} {m c : Nat} (hx : a.eval x = .slice B m c) (hL : Lies w B m ys) (hy : ys.length = m) (h0 : B = none → m = 0 ∧ c = 0) (hm : n + m ≤ 200000000000000) (hbase : base ≤ w.heap.size)
    (h : ∀ v' w', w'.ownsRow base 5 1 v' (n + m) (u8s (xs ++ ys)) → w.grownBy w' v.ownBlock → wpList Tryz.prog ops Q rest (a.put o.dst v') w') : wpList Tryz.prog ops Q (o :: rest) a w :=
  wpList_plain hgd fun K hK => by
    obtain ⟨v', w', hr, h2, h3⟩ := run_append_txt hi hz hsize hby hown hL hy h0 hm hbase o.type
    unfold Oper.wp execOp
    simp only [ho, resolve, invoke, builtin, Sem.run_bind, Sem.run_pure, Result.andThen_ok, List.map_toArray, List.map_cons, List.map_nil, hs, hx, hr]
    exact hK _ _ (h v' w' h2 h3)
/-- A text that lies somewhere. -/
structure Txt (A : Option Addr) (n cap : Nat) (xs : List Int) (W : World) : Prop where
  hcap : n ≤ cap
  hx : xs.length = n
  hB : ∀ c ∈ xs, Byte c
  hL : Lies W A n xs
  hA : ∀ a, A = some a → a.block < W.heap.size
  hn : n + 2 ≤ 140737488355328
  h0 : A = none → n = 0 ∧ cap = 0
theorem Txt.below {A : Option Addr} {n cap : Nat} {xs : List Int} {W W' : World} (h : Txt A n cap xs W) (hb : Below W.heap.size W W') : Txt A n cap xs W' :=
  ⟨h.hcap, h.hx, h.hB, h.hL.below hb, fun a e => by have := h.hA a e; have := hb.size; omega, h.hn, h.h0⟩
theorem grown_own {w w1 : World} {base n s : Nat} {e : TypeId} {v : Value} {xs : List Value} (hg : w.grownBy w1 v.ownBlock) (h : w.ownsRow base e s v n xs) (hb : base ≤ w.heap.size) : Below base w w1 :=
  ⟨hg.os, hg.tape, hg.output, hg.size, fun k hk => hg.block k (by omega) (fun e => by have := (h.lt k e.symm).1; omega)⟩
theorem mod_small (n m : Int) (hm : 0 < m ∧ m ≤ 1000) : ∃ N : Nat, wrap64 ((IntKind.u64.wrap n).tmod m) = (N : Int) ∧ (N : Int) < m := by
  have h0 : 0 ≤ IntKind.u64.wrap n := by rw [IntKind.wrap_u64]; omega
  have h1 : (IntKind.u64.wrap n).tmod m = IntKind.u64.wrap n % m := Int.tmod_eq_emod_of_nonneg h0
  have h2 : 0 ≤ IntKind.u64.wrap n % m := Int.emod_nonneg _ (by omega)
  have h3 : IntKind.u64.wrap n % m < m := Int.emod_lt_of_pos _ hm.1
  refine ⟨(IntKind.u64.wrap n % m).toNat, ?_, by omega⟩
  rw [h1, IntWalk.wrap64_in _ (by omega)]
  omega
def btS : Nat → ByteArray
  | 0 => ⟨#[32]⟩
  | 1 => ⟨#[10]⟩
  | 2 => ⟨#[9, 13, 32]⟩
  | 3 => ⟨#[32, 47, 42, 32, 42, 32, 47, 32, 42, 47]⟩
  | 4 => ⟨#[32, 47, 47, 32, 120, 10]⟩
  | _ => ⟨#[32, 47, 42, 42, 47, 32, 47, 42, 32, 10, 32, 42, 47]⟩
theorem btS_nums : ∀ j, nums (btS j) = btw j
  | 0 => rfl
  | 1 => rfl
  | 2 => rfl
  | 3 => rfl
  | 4 => rfl
  | _ + 5 => rfl
set_option maxHeartbeats 4000000 in
theorem between_call (n : Int) : ∃ j, ∀ W : World, Calls Tryz.prog 15 #[.int .i64 n] W fun e w => e = .returned (.string (btS j)) ∧ Below W.heap.size W w := by
  obtain ⟨N, hN, hlt⟩ := mod_small n 6 (by omega)
  refine ⟨N, fun W => ?_⟩
  have hb := (Below.refl W.heap.size W).alloc (Nat.le_refl _)
  have h6 : N = 0 ∨ N = 1 ∨ N = 2 ∨ N = 3 ∨ N = 4 ∨ N = 5 := by omega
  clear hlt
  rcases h6 with rfl | rfl | rfl | rfl | rfl | rfl
  all_goals (
    replace hN := hN
    simp only [Int.cast_ofNat_Int] at hN
    replace hb := Aside0.mk hb
    go_enter Tryz.func15, Tryz.ntmps15
    go_wp2
    go_ret
    exact ⟨rfl, hb.out _⟩)
theorem own_move {w w1 : World} {b n s : Nat} {e : TypeId} {v : Value} {xs : List Value} (h : w.ownsRow b e s v n xs) (hk : ∀ k, v.ownBlock = some k → w1.heap[k]? = w.heap[k]?) : w1.ownsRow b e s v n xs := by
  refine ⟨h.1, ?_⟩
  rcases h.2 with hn | ⟨g, cap, cur, rfl, hb, hgg, rest⟩
  · exact .inl hn
  · exact .inr ⟨g, cap, cur, rfl, hb, (hk g rfl).trans hgg, rest⟩
theorem own_below {w w1 : World} {b n s : Nat} {e : TypeId} {v : Value} {xs : List Value} (h : w.ownsRow b e s v n xs) (hb : Below w.heap.size w w1) : w1.ownsRow b e s v n xs :=
  own_move h (fun k hk => hb.block k (h.lt k hk).2)
theorem own_typed {w : World} {b n s : Nat} {e : TypeId} {v : Value} {xs : List Value} (h : w.ownsRow b e s v n xs) (k : Nat) (hk : v.ownBlock = some k) : ∃ c, w.heap[k]? = some (.cells c e (0, 0)) := by
  rcases h.2 with ⟨rfl, _⟩ | ⟨g, cap, cur, rfl, _, hg, _⟩
  · cases hk
  · cases hk
    exact ⟨cur, hg⟩
theorem own_ne {w : World} {b1 b2 n m s1 s2 : Nat} {e1 e2 : TypeId} (hne : e1 ≠ e2) {v1 v2 : Value} {xs ys : List Value} (h1 : w.ownsRow b1 e1 s1 v1 n xs) (h2 : w.ownsRow b2 e2 s2 v2 m ys) : v1.ownBlock = none ∨ v1.ownBlock ≠ v2.ownBlock := by
  cases hv : v1.ownBlock with
  | none => exact Or.inl rfl
  | some k =>
    refine Or.inr fun e => ?_
    obtain ⟨c1, e1⟩ := own_typed h1 k hv
    obtain ⟨c2, e2⟩ := own_typed h2 k e.symm
    rw [e1] at e2
    have e3 := Option.some.inj e2
    injection e3 with _ ht
    exact hne ht
theorem strCells_u8s (s : ByteArray) : Lib.strCells s = u8s (nums s) := by
  unfold Lib.strCells u8s nums
  rw [List.map_map]; rfl
def i64s (ps : List Int) : List Value := ps.map (.int .i64)
theorem i64s_append (a b : List Int) : i64s (a ++ b) = i64s a ++ i64s b := by unfold i64s; rw [List.map_append]
theorem own_nums {W : World} {base : Nat} {v : Value} {ps : List Int} (h : W.ownsRow base 3 1 v ps.length (i64s ps)) : ∃ A c, v = .slice A ps.length c ∧ ∀ i, i < ps.length → ∃ a, A = some a ∧ W.cell? (a.add i) = some (.int .i64 (ps.getD i 0)) := by
  rcases h.2 with ⟨rfl, h0⟩ | ⟨g, cap, cur, rfl, hb, hg, hc, _⟩
  · exact ⟨none, 0, by rw [h0], fun i hi => by omega⟩
  · refine ⟨_, cap, rfl, fun i hi => ⟨_, rfl, h.cells (g := g) rfl i _ ?_⟩⟩
    simp [i64s, List.getD, hi]
/-- Two own rows, of bytes and of numbers. -/
structure RowsX (base : Nat) (X : World) (out at_ : Value) (n : Nat) (xs ps : List Int) : Prop where
  o : X.ownsRow base 5 1 out n (u8s xs)
  a : X.ownsRow base 3 1 at_ ps.length (i64s ps)
theorem RowsX.below {base : Nat} {X Y : World} {out at_ : Value} {n : Nat} {xs ps : List Int} (h : RowsX base X out at_ n xs ps) (hb : Below X.heap.size X Y) : RowsX base Y out at_ n xs ps := ⟨own_below h.o hb, own_below h.a hb⟩
theorem RowsX.out {base : Nat} {X Y : World} {out at_ out2 : Value} {n n2 : Nat} {xs ps ys : List Int} (h : RowsX base X out at_ n xs ps) (hg : X.grownBy Y out.ownBlock) (ho : Y.ownsRow base 5 1 out2 n2 (u8s ys)) : RowsX base Y out2 at_ n2 ys ps := ⟨ho, h.a.kept hg (own_ne (by decide) h.a h.o)⟩
theorem RowsX.at {base : Nat} {X Y : World} {out at_ at2 : Value} {n : Nat} {xs ps qs : List Int} (h : RowsX base X out at_ n xs ps) (hg : X.grownBy Y at_.ownBlock) (ho : Y.ownsRow base 3 1 at2 qs.length (i64s qs)) : RowsX base Y out at2 n xs qs := ⟨h.o.kept hg (own_ne (by decide) h.o h.a), ho⟩
/-- A string is appended to the bytes. -/
theorem wpList_append_str {w : World} {ops : Array Oper} {rest : List Oper} {o : Oper} {a : Act} {Q : Exit → Act → World → Prop} (hgd : o.guard = none) (sl x : Operand)
    (ho : o.op = .call { callee := .builtin .append, args := #[sl, x], argTypes := #[22, 9] })
    {base : Nat} {i : TypeInfo} (hi : Tryz.prog.info? 5 = some i) (hz : i.zero = some (.int .u8 0)) (hsize : i.size = 1) (hby : i.bytes = 1) {out at_ : Value} {n : Nat} {xs ps : List Int} (hs : a.eval sl = out) (hR : RowsX base w out at_ n xs ps) {s : ByteArray} {k n2 : Nat} (hx : a.eval x = .string s) (hk : s.size = k)
    (hn2 : n + k = n2) (hm : n2 ≤ 140737488355328) (hbase : base ≤ w.heap.size)
    (h : ∀ out' w', RowsX base w' out' at_ n2 (xs ++ nums s) ps → Below base w w' → (∃ B c, out' = .slice B n2 c) → wpList Tryz.prog ops Q rest (a.put o.dst out') w') : wpList Tryz.prog ops Q (o :: rest) a w := by
  subst hn2
  subst hk
  refine Lib.wpList_append_own_string w hgd sl x 22 9 ho base 5 i Tryz.underlying22 Tryz.underlying9 hi hz hsize hby out n _ hs hR.o s hx (by unfold maxLen; omega) hm hbase fun v' w' h2 h3 _ => ?_
  rw [strCells_u8s, ← u8s_append] at h2
  obtain ⟨B, c, e, _⟩ := own_bytes h2
  exact h v' w' (hR.out h3 h2) (grown_own h3 hR.o hbase) ⟨B, c, e⟩
/-- A text that lies somewhere is appended to the bytes. -/
theorem wpList_append_txt2 {w : World} {ops : Array Oper} {rest : List Oper} {o : Oper} {a : Act} {Q : Exit → Act → World → Prop} (hgd : o.guard = none) (s x : Operand)
    (ho : o.op = .call { callee := .builtin .append, args := #[s, x], argTypes := #[22, 22] })
    {base : Nat} {i : TypeInfo} (hi : Tryz.prog.info? 5 = some i) (hz : i.zero = some (.int .u8 0)) (hsize : i.size = 1) (hby : i.bytes = 1) {out at_ : Value} {n : Nat} {xs ps ys : List Int} (hs : a.eval s = out) (hR : RowsX base w out at_ n xs ps)
    {B : Option Addr} {m c n2 : Nat} (hx : a.eval x = .slice B m c) (hL : Lies w B m ys) (hy : ys.length = m) (h0 : B = none → m = 0 ∧ c = 0) (hn2 : n + m = n2) (hm : n2 ≤ 140737488355328) (hbase : base ≤ w.heap.size)
    (h : ∀ out' w', RowsX base w' out' at_ n2 (xs ++ ys) ps → Below base w w' → (∃ B c, out' = .slice B n2 c) → wpList Tryz.prog ops Q rest (a.put o.dst out') w') : wpList Tryz.prog ops Q (o :: rest) a w := by
  subst hn2
  refine wpList_append_txt hgd s x ho hi hz hsize hby hs hR.o hx hL hy h0 (by omega) hbase fun v' w' h2 h3 => ?_
  obtain ⟨B, c, e, _⟩ := own_bytes h2
  exact h v' w' (hR.out h3 h2) (grown_own h3 hR.o hbase) ⟨B, c, e⟩
/-- The same, as a step of a region. -/
theorem step_append_txt2 {w : World} {ops : Array Oper} {o : Oper} {a : Act} {K : Act → World → Prop} {Q : Exit → Act → World → Prop} {E : Prop} (hgd : o.guard = none) (s x : Operand)
    (ho : o.op = .call { callee := .builtin .append, args := #[s, x], argTypes := #[22, 22] })
    {base : Nat} {i : TypeInfo} (hi : Tryz.prog.info? 5 = some i) (hz : i.zero = some (.int .u8 0)) (hsize : i.size = 1) (hby : i.bytes = 1) {out at_ : Value} {n : Nat} {xs ps ys : List Int} (hs : a.eval s = out) (hR : RowsX base w out at_ n xs ps)
    {B : Option Addr} {m c n2 : Nat} (hx : a.eval x = .slice B m c) (hL : Lies w B m ys) (hy : ys.length = m) (h0 : B = none → m = 0 ∧ c = 0) (hn2 : n + m = n2) (hm : n2 ≤ 140737488355328) (hbase : base ≤ w.heap.size)
    (h : ∀ out' w', RowsX base w' out' at_ n2 (xs ++ ys) ps → Below base w w' → (∃ B c, out' = .slice B n2 c) → K (a.put o.dst out') w') :
    if Region.wanted o (yielded ops a.tmps) = true then Oper.wp Tryz.prog o a w K Q else E := by
  have hw : Region.wanted o (yielded ops a.tmps) = true := by simp [Region.wanted, hgd]
  rw [if_pos hw]
  subst hn2
  obtain ⟨v', w', hr, h2, h3⟩ := run_append_txt hi hz hsize hby hR.o hL hy h0 (by omega) hbase o.type
  unfold Oper.wp execOp
  simp only [ho, resolve, invoke, builtin, Sem.run_bind, Sem.run_pure, Result.andThen_ok, List.map_toArray, List.map_cons, List.map_nil, hs, hx, hr]
  obtain ⟨B, c, e, _⟩ := own_bytes h2
  exact h v' w' (hR.out h3 h2) (grown_own h3 hR.o hbase) ⟨B, c, e⟩
/-- A number is appended to the numbers. -/
theorem wpList_append_num {w : World} {ops : Array Oper} {rest : List Oper} {o : Oper} {a : Act} {Q : Exit → Act → World → Prop} (hgd : o.guard = none) (s x : Operand)
    (ho : o.op = .call { callee := .builtin .append, args := #[s, x], argTypes := #[38, 38] })
    {base : Nat} {i : TypeInfo} (hi : Tryz.prog.info? 3 = some i) (hz : i.zero = some (.int .i64 0)) (hsize : i.size = 1) (hby : i.bytes = 8) {out at_ : Value} {n : Nat} {xs ps : List Int} (hs : a.eval s = at_) (hR : RowsX base w out at_ n xs ps)
    {ad : Addr} {z : Int} (hx : a.eval x = .slice (some ad) 1 1) (hc : w.cell? (ad.add 0) = some (.int .i64 z)) (hm : ps.length ≤ 1000000) (hbase : base ≤ w.heap.size)
    (h : ∀ at' w', RowsX base w' out at' n xs (ps ++ [z]) → Below base w w' → (∃ B c, at' = .slice B (ps.length + 1) c) → wpList Tryz.prog ops Q rest (a.put o.dst at') w') : wpList Tryz.prog ops Q (o :: rest) a w := by
  refine wpList_append_own w hgd s x 38 ho base 3 i (.int .i64 0) 1 8 Tryz.underlying38 hi hz hsize hby rfl (by decide) at_ ps.length _ hs hR.a ad 1 1 [.int .i64 z] hx rfl (fun j u hu => by
    match j with
    | 0 => simp at hu; subst hu; exact hc
    | j + 1 => simp at hu) (fun u hu => by simp at hu; subst hu; rfl) (by unfold maxLen; omega) (by omega) hbase fun v' w' h2 h3 _ => ?_
  have h2' : w'.ownsRow base 3 1 v' (ps ++ [z]).length (i64s (ps ++ [z])) := by rw [i64s_append, List.length_append]; exact h2
  refine h v' w' (hR.at h3 h2') (grown_own h3 hR.a hbase) ?_
  rcases h2.2 with ⟨_, h0⟩ | ⟨g, cap, cur, rfl, _⟩
  · omega
  · exact ⟨_, _, rfl⟩
theorem tokat_below {W W' : World} {B : Option Addr} {L : List Tok} (h : TokAt W B L) (hb : Below W.heap.size W W') : TokAt W' B L := fun i hi => by
  obtain ⟨b, e, q0, q1, q2, q3⟩ := h i hi
  exact ⟨b, e, (hb.cell (World.block_lt_of_cell? W _ q0)).trans q0, (hb.cell (World.block_lt_of_cell? W _ q1)).trans q1, (hb.cell (World.block_lt_of_cell? W _ q2)).trans q2, (hb.cell (World.block_lt_of_cell? W _ q3)).trans q3⟩
theorem btS_len (j : Nat) : (btS j).size = (btw j).length := by rw [← btS_nums]; exact (nums_len _).symm
def noTre : Tre := ⟨[], [], [], []⟩
theorem row_nil {P : Nat → Prop} {W : World} {A : Option Addr} : Row P W A [] := fun i u hu => by simp at hu
theorem noTre_at (W : World) : TreAt W noTre none 0 none 0 none 0 none 0 :=
  ⟨⟨fun _ => True, row_nil⟩, ⟨fun _ => True, [], row_nil, trivial⟩, (repB_at (Acc.block (lo := 0) (W := W) (A := none) (n := 0) (cap := 0) (l := []) (Acc.nil W))).2, (repB_at (Acc.block (lo := 0) (W := W) (A := none) (n := 0) (cap := 0) (l := []) (Acc.nil W))).2⟩
theorem noTre_few : Few noTre := ⟨by decide, by decide, (fun x h => by cases h), by decide, by decide⟩
/-- What reading hands back: the tree as it lies (none: the empty one), and the fault. -/
structure TreeOut (n : Nat) (xs : List Int) (W : World) (e : Ending) (w : World) : Prop where
  hb : Below W.heap.size W w
  ex : ∃ (o : Option Tre) (p er : Int) (t : Tre) (A1 : Option Addr) (c1 : Nat) (A2 : Option Addr) (c2 : Nat) (A3 : Option Addr) (c3 : Nat) (A4 : Option Addr) (c4 : Nat), Parsed n xs o p er ∧ t = o.getD noTre ∧ TreAt w t A1 c1 A2 c2 A3 c3 A4 c4 ∧
    e = .returned (.tuple #[.agg #[.slice A1 t.decls.length c1, .slice A2 t.procs.length c2, .slice A3 t.init.length c3, .slice A4 t.loop.length c4], .agg #[.int .i64 p, .int .i64 er]])
theorem parse_tree (A : Option Addr) (n cap : Nat) (xs : List Int) (W : World) (hcap : n ≤ cap) (hx : xs.length = n) (hB : ∀ c ∈ xs, Byte c) (hE : Env W) (hL : Lies W A n xs) (hA : ∀ a, A = some a → a.block < W.heap.size) :
    Calls Tryz.prog 10 #[.slice A n cap] W (TreeOut n xs W) := by
  refine (parse_call A n cap xs W hcap hx hB hE.tab hE.ops hL hA hE.mx).mono ?_
  rintro e w ⟨hb2, o, p, er, v, hP, rfl, h0, h1⟩
  refine ⟨hb2, o, p, er, ?_⟩
  cases o with
  | none =>
    rw [h0 rfl]
    exact ⟨noTre, none, 0, none, 0, none, 0, none, 0, hP, rfl, noTre_at w, rfl⟩
  | some t =>
    obtain ⟨A1, n1, c1, A2, n2, c2, A3, n3, c3, A4, n4, c4, rfl, hT⟩ := h1 t rfl
    obtain ⟨hh1, hh2, r1, ⟨vs, r2, r2'⟩, r3, r4⟩ := hT
    obtain ⟨rfl, _⟩ := hh1
    obtain ⟨rfl, _⟩ := hh2
    obtain ⟨rfl, s3⟩ := repB_at r3
    obtain ⟨rfl, s4⟩ := repB_at r4
    exact ⟨t, A1, c1, A2, c2, A3, c3, A4, c4, hP, rfl, ⟨⟨_, r1⟩, ⟨_, vs, r2, r2'⟩, s3, s4⟩, rfl⟩
end Go.Proofs.YtgaoapnaplgaiaaGreatDoor.Sc

