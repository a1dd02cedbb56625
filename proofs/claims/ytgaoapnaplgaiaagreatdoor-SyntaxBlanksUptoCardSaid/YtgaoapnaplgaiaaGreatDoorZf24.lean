/- This claim's own texts, joined, with only what the claim uses: ParX. -/
import Derived.Test.YtgaoapnaplgaiaaGreatDoorZf23
namespace Go.Proofs.YtgaoapnaplgaiaaGreatDoor.Sc
set_option maxRecDepth 100000
open Go.RowKit Tk Go.Proofs.YtgaoapnaplgaiaaGreatDoor.Wd

/-- An element more; the elements' blocks meet P, and the row's own does not. -/
theorem step_append_prim {α : Type} {R : Rel α} (hK : Keeps R) {P : Program} {w : World} {ops : Array Oper} {o : Oper} {a : Act} {K : Act → World → Prop} {Q : Exit → Act → World → Prop} {E : Prop} (hgd : o.guard = none) (s x : Operand) (t : TypeId)
    (ho : o.op = .call { callee := .builtin .append, args := #[s, x], argTypes := #[t, t] })
    (lo : Nat) (e : TypeId) (i : TypeInfo) (z : Value) (size bytes : Nat) (ht : P.underlying t = some (.slice e)) (hi : P.info? e = some i) (hz : i.zero = some z)
    (hsize : i.size = size) (hby : i.bytes = bytes) (hzs : z.cells.size = size) (hsz : 0 < size)
    (v : Value) (xs : List α) (vs : List (List Value)) (hs : a.eval s = v) (P0 : Nat → Prop) (hown : w.ownsRow lo e size v xs.length vs.flatten) (hall : All2 (R P0 w) xs vs) (hP0 : ∀ b, P0 b → v.ownBlock ≠ some b)
    (ad : Addr) (c : Nat) (y : α) (news : List Value) (hx : a.eval x = .slice (some ad) 1 c) (hl : news.length = size) (hnews : ∀ j u, news[j]? = some u → w.cell? (ad.add j) = some u) (h1 : ∀ u ∈ news, u.oneCell' = true)
    (hy : R P0 w y news) (h63 : xs.length + 1 ≤ maxLen) (hbytes : (xs.length + 1) * bytes ≤ 140737488355328) (hbase : lo ≤ w.heap.size)
    (h : ∀ v' w', w'.ownsRow lo e size v' (xs ++ [y]).length (vs ++ [news]).flatten → All2 (R P0 w') (xs ++ [y]) (vs ++ [news]) → w.grownBy w' v.ownBlock → (v'.ownBlock = v.ownBlock ∨ v'.ownBlock = some w.heap.size) → K (a.put o.dst v') w') :
    if Region.wanted o (yielded ops a.tmps) = true then Oper.wp P o a w K Q else E := by
  have hw : Region.wanted o (yielded ops a.tmps) = true := by simp [Region.wanted, hgd]
  rw [if_pos hw]
  obtain ⟨v', w', hr, h2, h3, h4⟩ := run_append_own (P := P) w lo t o.type e i z size bytes ht hi hz hsize hby hzs hsz v xs.length vs.flatten hown ad 1 c news (by omega) hnews h1 h63 hbytes hbase
  have hwh := run_append_where (P := P) w lo t o.type e i z size bytes ht hi hz hsize hby v xs.length vs.flatten hown ad 1 c (by omega) news (by omega) hnews h1 h63 hbytes v' w' hr
  unfold Oper.wp execOp
  simp only [ho, resolve, invoke, builtin, Sem.run_bind, Sem.run_pure, Result.andThen_ok, List.map_toArray, List.map_cons, List.map_nil, hs, hx, hr]
  refine h v' w' ?_ ((hall.snoc hy).imp fun x y hr => hK hr (fun _ hb => hb) fun b hb hl => h3.block b hl fun e => hP0 b hb e.symm) h3 hwh
  rw [List.length_append, List.flatten_append]
  simpa using h2
/-- What stands around the rows of cases and blocks: from lo on, apart from both. -/
def Apart (lo : Nat) (v2 v3 : Value) (b : Nat) : Prop := lo ≤ b ∧ v2.ownBlock ≠ some b ∧ v3.ownBlock ≠ some b
/-- The three rows of a switch. -/
structure Rows3 (lo : Nat) (X : World) (A : Option Addr) (n1 c1 : Nat) (v2 v3 : Value) (e : List Ex) (bs : List (List Stm)) (cs : List Con) : Prop where
  hn : e.length = n1 ∧ n1 ≤ c1
  args : ∃ vs, Row (Apart lo v2 v3) X A vs.flatten ∧ RepEs (Apart lo v2 v3) X e vs
  blks : ∃ vs, X.ownsRow lo 25 1 v2 bs.length vs.flatten ∧ All2 (RepB (Apart lo v2 v3) X) bs vs
  cass : X.ownsRow lo 67 3 v3 cs.length (cs.map conCells).flatten
  sep : ∀ k, v2.ownBlock = some k → v3.ownBlock ≠ some k
section
variable {lo : Nat} {X Y : World} {A : Option Addr} {n1 c1 : Nat} {v2 v3 : Value} {e : List Ex} {bs : List (List Stm)} {cs : List Con}
theorem ownsRow_far {ty size n : Nat} {v : Value} {xs : List Value} (hown : X.ownsRow lo ty size v n xs) (hf : Far lo X Y) : Y.ownsRow lo ty size v n xs := by
  refine ⟨hown.1, ?_⟩
  rcases hown.2 with hn | ⟨g, cap, cur, rfl, hb, hgg, rest⟩
  · exact .inl hn
  · exact .inr ⟨g, cap, cur, rfl, hb, (hf.block g hb (Array.getElem?_eq_some_iff.1 hgg).1).trans hgg, rest⟩
theorem Rows3.far (h : Rows3 lo X A n1 c1 v2 v3 e bs cs) (hf : Far lo X Y) : Rows3 lo Y A n1 c1 v2 v3 e bs cs := by
  obtain ⟨hn, ⟨vs, h1, h2⟩, ⟨us, h3, h4⟩, h5, h6⟩ := h
  have hk : ∀ b, Apart lo v2 v3 b → b < X.heap.size → Y.heap[b]? = X.heap[b]? := fun b hb hl => hf.block b hb.1 hl
  exact ⟨hn, ⟨vs, h1.keep (fun _ hb => hb) hk, RepEs.keep (fun _ hb => hb) hk _ _ h2⟩, ⟨us, ownsRow_far h3 hf, h4.imp fun x y hr => repB_keeps hr (fun _ hb => hb) hk⟩, ownsRow_far h5 hf, h6⟩
theorem Rows3.start {x : Ex} (h : Acc RepE 93 5 lo X (.slice A n1 c1) [x]) : Rows3 lo X A n1 c1 (.slice none 0 0) (.slice none 0 0) [x] [] [] := by
  obtain ⟨vs, hown, hall⟩ := h.ex
  obtain ⟨A', cap', e', hc⟩ := h.shape
  cases e'
  have hap : ∀ b, lo ≤ b → Apart lo (.slice none 0 0) (.slice none 0 0) b := fun b hb => ⟨hb, by simp [Value.ownBlock], by simp [Value.ownBlock]⟩
  refine ⟨⟨rfl, hc⟩, ⟨vs, (Row.own hown).keep (fun b hb => hap b hb) (fun _ _ _ => rfl), repEs_iff.2 (hall.imp fun x y hr => repE_keeps hr (fun b hb => hap b hb.1) fun _ _ _ => rfl)⟩, ⟨[], World.ownsRow_nil _ _ _ _, trivial⟩, World.ownsRow_nil _ _ _ _, fun k hk => by simp [Value.ownBlock] at hk⟩
/-- The statement, when it is done. -/
theorem Rows3.stmt {A2 A3 : Option Addr} {n2 c2 n3 c3 : Nat} (h : Rows3 lo X A n1 c1 (.slice A2 n2 c2) (.slice A3 n3 c3) e bs cs) (op : Int) (name read : ByteArray) (pos : Int) :
    RepS (fun b => lo ≤ b) X (.mk op name read e bs cs pos) (stCells op name read A n1 c1 A2 n2 c2 A3 n3 c3 pos) := by
  obtain ⟨⟨rfl, hc⟩, ⟨vs, h1, h2⟩, ⟨us, h3, h4⟩, h5, h6⟩ := h
  have hn2 : bs.length = n2 ∧ n2 ≤ c2 := by
    rcases h3.2 with ⟨e, h0⟩ | ⟨g, cap, cur, e, _, _, hl, _⟩
    · cases e; exact ⟨h0, Nat.le_refl _⟩
    · cases e; exact ⟨rfl, hl⟩
  have hn3 : cs.length = n3 ∧ n3 ≤ c3 := by
    rcases h5.2 with ⟨e, h0⟩ | ⟨g, cap, cur, e, _, _, hl, _⟩
    · cases e; exact ⟨h0, Nat.le_refl _⟩
    · cases e; exact ⟨rfl, hl⟩
  obtain ⟨rfl, hc2⟩ := hn2
  obtain ⟨rfl, hc3⟩ := hn3
  rw [RepS]
  have hk : ∀ b, Apart lo (.slice A2 bs.length c2) (.slice A3 cs.length c3) b → lo ≤ b := fun b hb => hb.1
  exact ⟨A, c1, vs, A2, c2, us, A3, c3, rfl, hc, hc2, hc3, h1.keep hk (fun _ _ _ => rfl), RepEs.keep hk (fun _ _ _ => rfl) _ _ h2, Row.own h3, repBs_iff.2 (h4.imp fun x y hr => repB_keeps hr hk fun _ _ _ => rfl), Row.own h5⟩
theorem own_form {ty size n : Nat} {v : Value} {xs : List Value} (hown : X.ownsRow lo ty size v n xs) : ∃ A n cap, v = .slice A n cap := by
  rcases hown.2 with ⟨rfl, h0⟩ | ⟨g, cap, cur, rfl, _⟩
  · exact ⟨none, 0, 0, rfl⟩
  · exact ⟨_, _, cap, rfl⟩
/-- A case more: the row of cases is written, or moves. -/
theorem Rows3.case (h : Rows3 lo X A n1 c1 v2 v3 e bs cs) {v3' : Value} {x : Con} (hg : X.grownBy Y v3.ownBlock) (hown : Y.ownsRow lo 67 3 v3' (cs ++ [x]).length ((cs ++ [x]).map conCells).flatten) (hw : v3'.ownBlock = v3.ownBlock ∨ v3'.ownBlock = some X.heap.size) :
    Rows3 lo Y A n1 c1 v2 v3' e bs (cs ++ [x]) := by
  obtain ⟨hn, ⟨vs, h1, h2⟩, ⟨us, h3, h4⟩, h5, h6⟩ := h
  have hq : ∀ b, Apart lo v2 v3 b ∧ b < X.heap.size → Apart lo v2 v3' b := fun b hb => ⟨hb.1.1, hb.1.2.1, fun e => by
    rcases hw with hw | hw
    · exact hb.1.2.2 (hw ▸ e)
    · rw [hw] at e; have := Option.some.inj e; have := hb.2; omega⟩
  have hk : ∀ b, Apart lo v2 v3 b ∧ b < X.heap.size → b < X.heap.size → Y.heap[b]? = X.heap[b]? := fun b hb hl => hg.block b hl fun e => hb.1.2.2 e.symm
  have h3l := h3.lt
  refine ⟨hn, ⟨vs, h1.lt.keep hq hk, RepEs.keep hq hk _ _ (RepEs.lt _ _ h2)⟩, ⟨us, ⟨h3.1, ?_⟩, h4.imp fun x y hr => repB_keeps (repB_lt hr) hq hk⟩, hown, fun k hk2 e => ?_⟩
  · rcases h3.2 with hn | ⟨g, cap, cur, rfl, hb, hgg, rest⟩
    · exact .inl hn
    · exact .inr ⟨g, cap, cur, rfl, hb, (hg.block g (Array.getElem?_eq_some_iff.1 hgg).1 (fun e => h6 g rfl e.symm)).trans hgg, rest⟩
  · rcases hw with hw | hw
    · exact h6 k hk2 (hw ▸ e)
    · rw [hw] at e; have := Option.some.inj e; have := h3l k hk2; omega
/-- A block more. -/
theorem Rows3.blk (h : Rows3 lo X A n1 c1 v2 v3 e bs cs) {v2' : Value} {x : List Stm} {us : List (List Value)} (hg : X.grownBy Y v2.ownBlock) (hown : Y.ownsRow lo 25 1 v2' (bs ++ [x]).length us.flatten) (hall : All2 (RepB (fun b => Apart lo v2 v3 b ∧ b < X.heap.size) Y) (bs ++ [x]) us)
    (hw : v2'.ownBlock = v2.ownBlock ∨ v2'.ownBlock = some X.heap.size) : Rows3 lo Y A n1 c1 v2' v3 e (bs ++ [x]) cs := by
  obtain ⟨hn, ⟨vs, h1, h2⟩, ⟨us', h3, h4⟩, h5, h6⟩ := h
  have hq : ∀ b, Apart lo v2 v3 b ∧ b < X.heap.size → Apart lo v2' v3 b := fun b hb => ⟨hb.1.1, fun e => by
    rcases hw with hw | hw
    · exact hb.1.2.1 (hw ▸ e)
    · rw [hw] at e; have := Option.some.inj e; have := hb.2; omega, hb.1.2.2⟩
  have hk : ∀ b, Apart lo v2 v3 b ∧ b < X.heap.size → b < X.heap.size → Y.heap[b]? = X.heap[b]? := fun b hb hl => hg.block b hl fun e => hb.1.2.1 e.symm
  have h5l := h5.lt
  refine ⟨hn, ⟨vs, h1.lt.keep hq hk, RepEs.keep hq hk _ _ (RepEs.lt _ _ h2)⟩, ⟨us, hown, hall.imp fun x y hr => repB_keeps hr hq fun _ _ _ => rfl⟩, ⟨h5.1, ?_⟩, fun k hk2 e => ?_⟩
  · rcases h5.2 with hn | ⟨g, cap, cur, rfl, hb, hgg, rest⟩
    · exact .inl hn
    · exact .inr ⟨g, cap, cur, rfl, hb, (hg.block g (Array.getElem?_eq_some_iff.1 hgg).1 (fun e => h6 g e.symm rfl)).trans hgg, rest⟩
  · rcases hw with hw | hw
    · exact h6 k (hw ▸ hk2) e
    · rw [hw] at hk2; have := Option.some.inj hk2; have := h5l k e; omega
end
end Go.Proofs.YtgaoapnaplgaiaaGreatDoor.Sc

