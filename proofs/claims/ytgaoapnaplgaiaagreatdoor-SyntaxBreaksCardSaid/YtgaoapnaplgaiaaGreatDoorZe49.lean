/- This claim's own texts, joined, with only what the claim uses: BrkB. -/
import Derived.Test.YtgaoapnaplgaiaaGreatDoorZd46
import Derived.Test.YtgaoapnaplgaiaaGreatDoorZe48
import Derived.Deep.DeepAppendWide
import Derived.Laws.OwnMore
namespace Go.Proofs.YtgaoapnaplgaiaaGreatDoor.Sc
set_option maxRecDepth 100000
open Go.RowKit Tk Go.Proofs.YtgaoapnaplgaiaaGreatDoor.Wd

/-- What reading a text hands back. -/
def ParseX (n : Nat) (xs : List Int) (W : World) (e : Ending) (w : World) : Prop := Below W.heap.size W w ∧ ∃ o p er A1 n1 c1 A2 n2 c2 A3 n3 c3 A4 n4 c4, Parsed n xs o p er ∧ e = .returned (.tuple #[.agg #[.slice A1 n1 c1, .slice A2 n2 c2, .slice A3 n3 c3, .slice A4 n4 c4], .agg #[.int .i64 p, .int .i64 er]])
theorem parse_row (A : Option Addr) (n cap : Nat) (xs : List Int) (W : World) (hcap : n ≤ cap) (hx : xs.length = n) (hB : ∀ c ∈ xs, Byte c) (hE : Env W) (hL : Lies W A n xs) (hA : ∀ a, A = some a → a.block < W.heap.size) :
    Calls Tryz.prog 10 #[.slice A n cap] W (ParseX n xs W) := by
  refine (parse_call A n cap xs W hcap hx hB hE.tab hE.ops hL hA hE.mx).mono ?_
  rintro e w ⟨hb2, o, p, er, v, hP, rfl, h0, h1⟩
  refine ⟨hb2, o, p, er, ?_⟩
  cases o with
  | none => rw [h0 rfl]; exact ⟨_, _, _, _, _, _, _, _, _, _, _, _, hP, rfl⟩
  | some t =>
    obtain ⟨A1, n1, c1, A2, n2, c2, A3, n3, c3, A4, n4, c4, rfl, _⟩ := h1 t rfl
    exact ⟨A1, n1, c1, A2, n2, c2, A3, n3, c3, A4, n4, c4, hP, rfl⟩
/-- Does it scan? -/
def Scans (S : ByteArray) : Prop := S.size ≤ 65536 ∧ ∃ L, scan KB (nums S) 0 [] = .toks L
set_option maxHeartbeats 4000000 in
theorem within_call (S : ByteArray) (W : World) (hE : Env W) : Calls Tryz.prog 17 #[.string S] W fun e w => Below W.heap.size W w ∧ ∃ b : Bool, e = .returned (.bool b) ∧ (b = true → Scans S) := by
  obtain ⟨cap, W1, hcv, hcap, hb, hL, hz⟩ := str_bytes S W
  have SC := scan_call (some ⟨W.heap.size, 0, none⟩) S.size cap (nums S) W1 hcap (nums_len S) (nums_byte S) (hE.below hb) hL (by intro a e; cases e; dsimp only; omega)
  have hb := Aside0.mk hb
  clear hL hcap hE
  go_enter Tryz.func17, Tryz.ntmps17
  go_wp2_with (go_at_call 14; with_reducible refine SC.mono ?_)
  rintro e w2 hS
  cases hS with
  | long h hb2 =>
    have hb2 := Aside0.mk hb2
    clear SC hcv
    go_wp2
    go_ret
    exact ⟨hb.out.trans ((((Below.refl _ _).alloc (by have := hb.out.size; have := hb2.out.size; omega) _)) |> fun h => (hb2.out.trans (h.mono hb2.out.size)).mono hb.out.size), _, rfl, by simp⟩
  | bad p er h hs hb2 =>
    have hne := scan_err hs
    have e0 : (er == 0) = false := beq_eq_false_iff_ne.mpr (by omega)
    have hb2 := Aside0.mk hb2
    clear SC hcv hs hne
    go_wp2
    go_ret
    exact ⟨hb.out.trans ((((Below.refl _ _).alloc (by have := hb.out.size; have := hb2.out.size; omega) _)) |> fun h => (hb2.out.trans (h.mono hb2.out.size)).mono hb.out.size), _, rfl, by simp⟩
  | toks l B tc hn hs hb2 hle hBB ht =>
    have hs := Aside0.mk hs
    have hb2 := Aside0.mk hb2
    have hn := Aside0.mk hn
    clear SC hcv hBB ht
    go_wp2
    go_ret
    exact ⟨hb.out.trans ((((Below.refl _ _).alloc (by have := hb.out.size; have := hb2.out.size; omega) _)) |> fun h => (hb2.out.trans (h.mono hb2.out.size)).mono hb.out.size), _, rfl, fun _ => ⟨hn.out, _, hs.out⟩⟩
/-- Numbers as bytes. -/
def u8s (xs : List Int) : List Value := xs.map (.int .u8)
theorem u8s_append (a b : List Int) : u8s (a ++ b) = u8s a ++ u8s b := by unfold u8s; rw [List.map_append]
theorem lies_own {W : World} {base n c : Nat} {A : Option Addr} {xs : List Int} (h : W.ownsRow base 5 1 (.slice A n c) n (u8s xs)) : Lies W A n xs := by
  intro i hi
  have hl := h.1
  rcases h.2 with ⟨_, h0⟩ | ⟨g, cap, cur, e, _⟩
  · omega
  · injection e with e1 e2 e3
    subst e1
    refine ⟨_, rfl, ?_⟩
    refine h.cells (g := g) rfl i (.int .u8 (xs.getD i 0)) ?_
    have hx : xs.length = n := by simpa [u8s] using hl
    simp [u8s, List.getD, hx, hi]
theorem own_bytes {W : World} {base n : Nat} {v : Value} {xs : List Int} (h : W.ownsRow base 5 1 v n (u8s xs)) : ∃ A c, v = .slice A n c ∧ n ≤ c ∧ (∀ a, A = some a → base ≤ a.block ∧ a.block < W.heap.size) ∧ Lies W A n xs ∧ xs.length = n := by
  have hl := h.1
  rw [u8s, List.length_map, Nat.mul_one] at hl
  rcases h.2 with ⟨rfl, rfl⟩ | ⟨g, cap, cur, rfl, hb, hg, hc, _⟩
  · exact ⟨none, 0, rfl, Nat.le_refl _, (fun a e => by cases e), lies_own h, hl⟩
  · exact ⟨_, cap, rfl, hc, (fun a e => by cases e; exact ⟨hb, (Array.getElem?_eq_some_iff.1 hg).1⟩), lies_own h, hl⟩
/-- A text that lies somewhere is appended to an own row of bytes. -/
theorem run_append_txt {w : World} {base : Nat} {i : TypeInfo} (hi : Tryz.prog.info? 5 = some i) (hz : i.zero = some (.int .u8 0)) (hsize : i.size = 1) (hby : i.bytes = 1) {v : Value} {n : Nat} {xs ys : List Int} (hown : w.ownsRow base 5 1 v n (u8s xs))
    {B : Option Addr} {m c : Nat} (hL : Lies w B m ys) (hy : ys.length = m) (h0 : B = none → m = 0 ∧ c = 0) (hm : n + m ≤ 200000000000000) (hbase : base ≤ w.heap.size) (ty : TypeId) :
    ∃ v' w', (Builtin.append_ #[22, 22] ty #[v, .slice B m c]).run Tryz.prog w = .ok v' w' ∧ w'.ownsRow base 5 1 v' (n + m) (u8s (xs ++ ys)) ∧ w.grownBy w' v.ownBlock := by
  cases B with
  | none =>
    obtain ⟨rfl, rfl⟩ := h0 rfl
    obtain rfl : ys = [] := List.eq_nil_of_length_eq_zero hy
    refine ⟨v, w, run_append_owned_none w base 22 ty 5 i 1 Tryz.underlying22 hi v n _ hown, by rw [List.append_nil]; exact hown, ⟨rfl, rfl, rfl, Nat.le_refl _, fun _ _ _ => rfl⟩⟩
  | some a =>
    obtain ⟨v', w', h1, h2, h3, _⟩ := run_append_own_wide (P := Tryz.prog) w base 22 ty 5 i (.int .u8 0) 1 1 Tryz.underlying22 hi hz hsize hby rfl (by decide) v n _ hown a m c (u8s ys) (by rw [u8s, List.length_map]; omega) (fun j u hu => by
      have hj : j < ys.length := by
        rcases Nat.lt_or_ge j ys.length with h | h
        · exact h
        · rw [u8s, List.getElem?_eq_none (by rw [List.length_map]; exact h)] at hu; cases hu
      rw [hL.at j (by omega)]
      rw [u8s, List.getElem?_map, List.getElem?_eq_getElem hj] at hu
      rw [List.getD_eq_getElem?_getD, List.getElem?_eq_getElem hj]
      exact hu) (fun u hu => by rw [u8s] at hu; obtain ⟨x, _, rfl⟩ := List.mem_map.1 hu; rfl) (by unfold maxLen; omega) (by omega) hbase
    exact ⟨v', w', h1, by rw [u8s_append]; exact h2, h3⟩
theorem wpList_append_txt {w : World} {ops : Array Oper} {rest : List Oper} {o : Oper} {a : Act} {Q : Exit → Act → World → Prop} (hgd : o.guard = none) (s x : Operand)
    (ho : o.op = .call { callee := .builtin .append, args := #[s, x], argTypes := #[22, 22] })
    {base : Nat} {i : TypeInfo} (hi : Tryz.prog.info? 5 = some i) (hz : i.zero = some (.int .u8 0)) (hsize : i.size = 1) (hby : i.bytes = 1) {v : Value} {n : Nat} {xs ys : List Int} (hs : a.eval s = v) (hown : w.ownsRow base 5 1 v n (u8s xs))
    {B : Option Addr} {m c : Nat} (hx : a.eval x = .slice B m c) (hL : Lies w B m ys) (hy : ys.length = m) (h0 : B = none → m = 0 ∧ c = 0) (hm : n + m ≤ 200000000000000) (hbase : base ≤ w.heap.size)
    (h : ∀ v' w', w'.ownsRow base 5 1 v' (n + m) (u8s (xs ++ ys)) → w.grownBy w' v.ownBlock → wpList Tryz.prog ops Q rest (a.put o.dst v') w') : wpList Tryz.prog ops Q (o :: rest) a w :=
  wpList_plain hgd fun K hK => by
    obtain ⟨v', w', hr, h2, h3⟩ := run_append_txt hi hz hsize hby hown hL hy h0 hm hbase o.type
    unfold Oper.wp execOp
    simp only [ho, resolve, invoke, builtin, Sem.run_bind, Sem.run_pure, Result.andThen_ok, List.map_toArray, List.map_cons, List.map_nil, hs, hx, hr]
    exact hK _ _ (h v' w' h2 h3)
end Go.Proofs.YtgaoapnaplgaiaaGreatDoor.Sc

