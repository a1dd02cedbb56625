/- This claim's own texts, joined, with only what the claim uses: LawD. -/
import Derived.Test.YtgaoapnaplgaiaaGreatDoorZd46
import Derived.Test.YtgaoapnaplgaiaaGreatDoorZd47
import Derived.Deep.CutRange
import Derived.Laws.Concat
namespace Go.Proofs.YtgaoapnaplgaiaaGreatDoor.Sc
set_option maxRecDepth 100000
open Go.RowKit Tk Go.Proofs.YtgaoapnaplgaiaaGreatDoor.Wd

/-- So many times the same text. -/
def aS (u : ByteArray) : Nat → ByteArray
  | 0 => ⟨#[]⟩
  | k + 1 => aS u k ++ u
theorem aS_size (u : ByteArray) : ∀ k, (aS u k).size = k * u.size
  | 0 => by rw [Nat.zero_mul]; rfl
  | k + 1 => by rw [aS, ByteArray.size_append, aS_size u k, Nat.succ_mul]
theorem nums_append (a b : ByteArray) : nums (a ++ b) = nums a ++ nums b := by
  unfold nums
  rw [ByteArray.data_append]
  simp
def many (l : List Int) : Nat → List Int
  | 0 => []
  | k + 1 => many l k ++ l
theorem many_front (l : List Int) : ∀ k, many l (k + 1) = l ++ many l k
  | 0 => by simp [many]
  | k + 1 => by
    show many l (k + 1) ++ l = l ++ (many l k ++ l)
    rw [many_front l k, List.append_assoc]
theorem nums_aS (u : ByteArray) : ∀ k, nums (aS u k) = many (nums u) k
  | 0 => rfl
  | k + 1 => by rw [aS, nums_append, nums_aS u k]; rfl
theorem many_app (l r : List Int) : ∀ k, many l k ++ (l ++ r) = l ++ (many l k ++ r) := fun k => by
  rw [← List.append_assoc, ← many, many_front, List.append_assoc]
theorem tParens_eq : ∀ (n : Nat) (r : List Int), tParens n r = many [40] n ++ 49 :: (many [41] n ++ r)
  | 0, r => rfl
  | n + 1, r => by
    rw [tParens, tParens_eq n, many_front, many_front]
    show 40 :: (many [40] n ++ 49 :: (many [41] n ++ ([41] ++ r))) = _
    rw [many_app]
    simp
theorem tSigns_eq : ∀ (n : Nat) (r : List Int), tSigns n r = many [45, 32] n ++ 49 :: r
  | 0, r => rfl
  | n + 1, r => by rw [tSigns, tSigns_eq n, many_front]; simp
theorem tIndex_eq : ∀ (n : Nat) (r : List Int), tIndex n r = many [121, 91] n ++ 49 :: (many [93] n ++ r)
  | 0, r => rfl
  | n + 1, r => by
    rw [tIndex, tIndex_eq n, many_front, many_front]
    show 121 :: 91 :: (many [121, 91] n ++ 49 :: (many [93] n ++ ([93] ++ r))) = _
    rw [many_app]
    simp
theorem tBlocks_eq : ∀ (n : Nat) (r : List Int), tBlocks n r = many [105, 102, 32, 40, 49, 41, 32, 123] n ++ (120 :: 61 :: 45 :: 49 :: 59 :: (many [125] n ++ r))
  | 0, r => rfl
  | n + 1, r => by
    rw [tBlocks, tBlocks_eq n, many_front, many_front]
    show 105 :: 102 :: 32 :: 40 :: 49 :: 41 :: 32 :: 123 :: (many [105, 102, 32, 40, 49, 41, 32, 123] n ++ (120 :: 61 :: 45 :: 49 :: 59 :: (many [125] n ++ ([125] ++ r)))) = _
    rw [many_app]
    simp
theorem mod_small (n m : Int) (hm : 0 < m ∧ m ≤ 1000) : ∃ N : Nat, wrap64 ((IntKind.u64.wrap n).tmod m) = (N : Int) ∧ (N : Int) < m := by
  have h0 : 0 ≤ IntKind.u64.wrap n := by rw [IntKind.wrap_u64]; omega
  have h1 : (IntKind.u64.wrap n).tmod m = IntKind.u64.wrap n % m := Int.tmod_eq_emod_of_nonneg h0
  have h2 : 0 ≤ IntKind.u64.wrap n % m := Int.emod_nonneg _ (by omega)
  have h3 : IntKind.u64.wrap n % m < m := Int.emod_lt_of_pos _ hm.1
  refine ⟨(IntKind.u64.wrap n % m).toNat, ?_, by omega⟩
  rw [h1, IntWalk.wrap64_in _ (by omega)]
  omega
/-- What reading a string hands back. -/
def ParseR (W : World) (S : ByteArray) (e : Ending) (w : World) : Prop := Below W.heap.size W w ∧ ∃ o p er A1 n1 c1 A2 n2 c2 A3 n3 c3 A4 n4 c4, Parsed (nums S).length (nums S) o p er ∧ e = .returned (.tuple #[.agg #[.slice A1 n1 c1, .slice A2 n2 c2, .slice A3 n3 c3, .slice A4 n4 c4], .agg #[.int .i64 p, .int .i64 er]])
/-- Reading a string. -/
theorem parse_str (S : ByteArray) (W : World) (hE : Env W) : ∃ cap W1, (convert 9 22 (.string S)).run Tryz.prog W = .ok (.slice (some ⟨W.heap.size, 0, none⟩) S.size cap) W1 ∧
    Calls Tryz.prog 10 #[.slice (some ⟨W.heap.size, 0, none⟩) S.size cap] W1 (ParseR W S) := by
  obtain ⟨cap, W1, hcv, hcap, hb, hL, hz⟩ := str_bytes S W
  have hE1 := hE.below hb
  refine ⟨cap, W1, hcv, (parse_call _ S.size cap (nums S) W1 hcap (nums_len S) (nums_byte S) hE1.tab hE1.ops hL (fun a e => by cases e; dsimp only; omega) hE1.mx).mono ?_⟩
  rintro e w ⟨hb2, o, p, er, v, hP, rfl, h0, h1⟩
  rw [← nums_len S] at hP
  refine ⟨hb.trans (hb2.mono (by omega)), o, p, er, ?_⟩
  cases o with
  | none => rw [h0 rfl]; exact ⟨_, _, _, _, _, _, _, _, _, _, _, _, hP, rfl⟩
  | some t =>
    obtain ⟨A1, n1, c1, A2, n2, c2, A3, n3, c3, A4, n4, c4, rfl, _⟩ := h1 t rfl
    exact ⟨A1, n1, c1, A2, n2, c2, A3, n3, c3, A4, n4, c4, hP, rfl⟩
set_option maxHeartbeats 4000000 in
theorem deep_walk0 (n kind : Int) (N : Nat) (hN : wrap64 ((IntKind.u64.wrap n).tmod 200) = (N : Int)) (hN2 : (N : Int) < 200) (hK : wrap64 ((IntKind.u64.wrap kind).tmod 4) = 0) (W : World) (hE : Env W) :
    Calls Tryz.prog 6 #[.int .i64 n, .int .i64 kind] W fun e W' => e = .returned (.bool true) ∧ Below W.heap.size W W' := by
  have hE := Aside0.mk hE
  have hN := Aside0.mk hN
  have hK := Aside0.mk hK
  obtain ⟨S, hS⟩ : ∃ S : ByteArray, Aside0 (S = (⟨#[105, 110, 105, 116, 123, 125, 108, 111, 111, 112, 123, 120, 61]⟩ : ByteArray) ++ aS (⟨#[40]⟩ : ByteArray) N ++ (⟨#[49]⟩ : ByteArray) ++ aS (⟨#[41]⟩ : ByteArray) N ++ (⟨#[59, 125]⟩ : ByteArray)) := ⟨_, ⟨rfl⟩⟩
  have zA : (aS (⟨#[40]⟩ : ByteArray) N).size = N * 1 := aS_size _ N
  have zB : (aS (⟨#[41]⟩ : ByteArray) N).size = N * 1 := aS_size _ N
  have p0 : ∀ w, (Op.stringOp .add ((⟨#[105, 110, 105, 116, 123, 125, 108, 111, 111, 112, 123, 120, 61]⟩ : ByteArray)) (aS (⟨#[40]⟩ : ByteArray) N)).run Tryz.prog w = .ok (.string ((⟨#[105, 110, 105, 116, 123, 125, 108, 111, 111, 112, 123, 120, 61]⟩ : ByteArray) ++ aS (⟨#[40]⟩ : ByteArray) N)) w := fun w => run_string_add_sum w _ _ (by simp only [ByteArray.size_append, zA, zB, ByteArray.size_mk', List.size_toArray, List.length_cons, List.length_nil]; omega)
  have p1 : ∀ w, (Op.stringOp .add ((⟨#[105, 110, 105, 116, 123, 125, 108, 111, 111, 112, 123, 120, 61]⟩ : ByteArray) ++ aS (⟨#[40]⟩ : ByteArray) N) ((⟨#[49]⟩ : ByteArray))).run Tryz.prog w = .ok (.string ((⟨#[105, 110, 105, 116, 123, 125, 108, 111, 111, 112, 123, 120, 61]⟩ : ByteArray) ++ aS (⟨#[40]⟩ : ByteArray) N ++ (⟨#[49]⟩ : ByteArray))) w := fun w => run_string_add_sum w _ _ (by simp only [ByteArray.size_append, zA, zB, ByteArray.size_mk', List.size_toArray, List.length_cons, List.length_nil]; omega)
  have p2 : ∀ w, (Op.stringOp .add ((⟨#[105, 110, 105, 116, 123, 125, 108, 111, 111, 112, 123, 120, 61]⟩ : ByteArray) ++ aS (⟨#[40]⟩ : ByteArray) N ++ (⟨#[49]⟩ : ByteArray)) (aS (⟨#[41]⟩ : ByteArray) N)).run Tryz.prog w = .ok (.string ((⟨#[105, 110, 105, 116, 123, 125, 108, 111, 111, 112, 123, 120, 61]⟩ : ByteArray) ++ aS (⟨#[40]⟩ : ByteArray) N ++ (⟨#[49]⟩ : ByteArray) ++ aS (⟨#[41]⟩ : ByteArray) N)) w := fun w => run_string_add_sum w _ _ (by simp only [ByteArray.size_append, zA, zB, ByteArray.size_mk', List.size_toArray, List.length_cons, List.length_nil]; omega)
  have p3 : ∀ w, (Op.stringOp .add ((⟨#[105, 110, 105, 116, 123, 125, 108, 111, 111, 112, 123, 120, 61]⟩ : ByteArray) ++ aS (⟨#[40]⟩ : ByteArray) N ++ (⟨#[49]⟩ : ByteArray) ++ aS (⟨#[41]⟩ : ByteArray) N) ((⟨#[59, 125]⟩ : ByteArray))).run Tryz.prog w = .ok (.string (S)) w := fun w => (by rw [hS.out]; exact run_string_add_sum w _ _ (by simp only [ByteArray.size_append, zA, zB, ByteArray.size_mk', List.size_toArray, List.length_cons, List.length_nil]; omega))
  have hnum : nums S = front0 ++ 120 :: 61 :: tParens N [59, 125] := by
    rw [hS.out]
    simp only [nums_append, nums_aS, tParens_eq]
    simp [nums, List.append_assoc]
  have hlen : (nums S).length ≤ 65536 := by
    rw [nums_len, hS.out]
    simp only [ByteArray.size_append, zA, zB, ByteArray.size_mk', List.size_toArray, List.length_cons, List.length_nil]
    omega
  have hDp := fun o p er (hP : Parsed (nums S).length (nums S) o p er) => deep0 (n := N) (by omega) hnum hlen hP
  have hDp := Aside0.mk hDp
  obtain ⟨cap, W1, hcv, PC⟩ := parse_str S W hE.out
  have PC := Aside0.mk PC
  have hszS : (nums S).length = S.size := nums_len S
  have hszS := Aside0.mk hszS
  clear zA zB hnum hlen
  go_enter Tryz.func6, Tryz.ntmps6
  go_upto_region 3 with fail
  rw [hN.out, hK.out]
  generalize hx1 : IntKind.u64.wrap n = x1
  generalize hx2 : IntKind.u64.wrap kind = x2
  clear hN hK hx1 hx2
  go_wp2
  go_loop [5, 6, 7] (fun a b i => ∃ k : Nat, k ≤ N ∧ i = .int .i64 (k : Int) ∧ a = .string (aS (⟨#[40]⟩ : ByteArray) k) ∧ b = .string (aS (⟨#[41]⟩ : ByteArray) k)) (fun _ _ i => N - (intOf i).toNat)
  case atStart => exact ⟨0, Nat.zero_le _, rfl, rfl, rfl⟩
  case round =>
    obtain ⟨k, hk, rfl, rfl, rfl⟩ := hrel
    have a2 : ∀ w, (Op.stringOp .add (aS (⟨#[41]⟩ : ByteArray) k) (⟨#[41]⟩ : ByteArray)).run Tryz.prog w = .ok (.string (aS (⟨#[41]⟩ : ByteArray) k ++ (⟨#[41]⟩ : ByteArray))) w := fun w => run_string_add_sum w _ _ (by rw [aS_size]; show k * 1 + 1 ≤ _; omega)
    have a1 : ∀ w, (Op.stringOp .add (aS (⟨#[40]⟩ : ByteArray) k) (⟨#[40]⟩ : ByteArray)).run Tryz.prog w = .ok (.string (aS (⟨#[40]⟩ : ByteArray) k ++ (⟨#[40]⟩ : ByteArray))) w := fun w => run_string_add_sum w _ _ (by rw [aS_size]; show k * 1 + 1 ≤ _; omega)
    by_cases hlt : k < N
    · clear hcv PC
      go_wp2
      go_round
      case rel => exact ⟨k + 1, by omega, by go_num, rfl, rfl⟩
      case measure => simp [intOf]; omega
    · obtain rfl : N = k := by omega
      clear a1 a2 hlt hk
      by_cases hm : N ≤ 63
      · have dm : decide ((N : Int) ≤ 63) = true := decide_eq_true (by omega)
        go_wp2_with (go_at_call 10; with_reducible refine PC.out.mono ?_)
        rintro e w1 ⟨hb, o, p, er, A1, n1, c1, A2, n2, c2, A3, n3, c3, A4, n4, c4, hP, rfl⟩
        obtain ⟨rfl, -⟩ := (hDp.out o p er hP).1 hm
        have AW := Aside0.mk (fun o1 o2 => awake_call ((w1.alloc o1).alloc o2) (((hE.out.grow hb).alloc o1).alloc o2))
        have hb := Aside0.mk hb
        clear PC hP
        go_wp2_with (go_at_call 13; with_reducible refine (AW.out _ _).mono ?_)
        rintro e w2 ⟨rfl, hb2⟩
        have hb2 := Aside0.mk ((((Below.refl w1.heap.size w1).alloc (Nat.le_refl _) _).alloc (by simp) _).trans (hb2.mono (by simp; omega)))
        go_wp2
        go_ret
        exact ⟨rfl, hb.out.trans (hb2.out.mono hb.out.size)⟩
      · have dm : decide ((N : Int) ≤ 63) = false := decide_eq_false (by omega)
        go_wp2_with (go_at_call 10; with_reducible refine PC.out.mono ?_)
        rintro e w1 ⟨hb, o, p, er, A1, n1, c1, A2, n2, c2, A3, n3, c3, A4, n4, c4, hP, rfl⟩
        obtain ⟨rfl, hp0, hp1⟩ := (hDp.out o p er hP).2 hm
        rw [hszS.out] at hp1
        have dp : decide (p < (S.size : Int)) = true := decide_eq_true hp1
        have AW := Aside0.mk (fun o1 o2 => awake_call ((w1.alloc o1).alloc o2) (((hE.out.grow hb).alloc o1).alloc o2))
        have hb := Aside0.mk hb
        clear PC hP
        go_wp2_with (go_at_call 13; with_reducible refine (AW.out _ _).mono ?_)
        rintro e w2 ⟨rfl, hb2⟩
        have hb2 := Aside0.mk ((((Below.refl w1.heap.size w1).alloc (Nat.le_refl _) _).alloc (by simp) _).trans (hb2.mono (by simp; omega)))
        go_wp2
        go_ret
        exact ⟨rfl, hb.out.trans (hb2.out.mono hb.out.size)⟩
set_option maxHeartbeats 4000000 in
theorem deep_walk1 (n kind : Int) (N : Nat) (hN : wrap64 ((IntKind.u64.wrap n).tmod 200) = (N : Int)) (hN2 : (N : Int) < 200) (hK : wrap64 ((IntKind.u64.wrap kind).tmod 4) = 1) (W : World) (hE : Env W) :
    Calls Tryz.prog 6 #[.int .i64 n, .int .i64 kind] W fun e W' => e = .returned (.bool true) ∧ Below W.heap.size W W' := by
  have hE := Aside0.mk hE
  have hN := Aside0.mk hN
  have hK := Aside0.mk hK
  obtain ⟨S, hS⟩ : ∃ S : ByteArray, Aside0 (S = (⟨#[105, 110, 105, 116, 123, 125, 108, 111, 111, 112, 123, 120, 61]⟩ : ByteArray) ++ aS (⟨#[45, 32]⟩ : ByteArray) N ++ (⟨#[49]⟩ : ByteArray) ++ (⟨#[59, 125]⟩ : ByteArray)) := ⟨_, ⟨rfl⟩⟩
  have zA : (aS (⟨#[45, 32]⟩ : ByteArray) N).size = N * 2 := aS_size _ N
  have p0 : ∀ w, (Op.stringOp .add ((⟨#[105, 110, 105, 116, 123, 125, 108, 111, 111, 112, 123, 120, 61]⟩ : ByteArray)) (aS (⟨#[45, 32]⟩ : ByteArray) N)).run Tryz.prog w = .ok (.string ((⟨#[105, 110, 105, 116, 123, 125, 108, 111, 111, 112, 123, 120, 61]⟩ : ByteArray) ++ aS (⟨#[45, 32]⟩ : ByteArray) N)) w := fun w => run_string_add_sum w _ _ (by simp only [ByteArray.size_append, zA, ByteArray.size_mk', List.size_toArray, List.length_cons, List.length_nil]; omega)
  have p1 : ∀ w, (Op.stringOp .add ((⟨#[105, 110, 105, 116, 123, 125, 108, 111, 111, 112, 123, 120, 61]⟩ : ByteArray) ++ aS (⟨#[45, 32]⟩ : ByteArray) N) ((⟨#[49]⟩ : ByteArray))).run Tryz.prog w = .ok (.string ((⟨#[105, 110, 105, 116, 123, 125, 108, 111, 111, 112, 123, 120, 61]⟩ : ByteArray) ++ aS (⟨#[45, 32]⟩ : ByteArray) N ++ (⟨#[49]⟩ : ByteArray))) w := fun w => run_string_add_sum w _ _ (by simp only [ByteArray.size_append, zA, ByteArray.size_mk', List.size_toArray, List.length_cons, List.length_nil]; omega)
  have p2 : ∀ w, (Op.stringOp .add ((⟨#[105, 110, 105, 116, 123, 125, 108, 111, 111, 112, 123, 120, 61]⟩ : ByteArray) ++ aS (⟨#[45, 32]⟩ : ByteArray) N ++ (⟨#[49]⟩ : ByteArray)) (⟨#[]⟩ : ByteArray)).run Tryz.prog w = .ok (.string ((⟨#[105, 110, 105, 116, 123, 125, 108, 111, 111, 112, 123, 120, 61]⟩ : ByteArray) ++ aS (⟨#[45, 32]⟩ : ByteArray) N ++ (⟨#[49]⟩ : ByteArray))) w := fun w => by
    have h := run_string_add_sum (P := Tryz.prog) w ((⟨#[105, 110, 105, 116, 123, 125, 108, 111, 111, 112, 123, 120, 61]⟩ : ByteArray) ++ aS (⟨#[45, 32]⟩ : ByteArray) N ++ (⟨#[49]⟩ : ByteArray)) (⟨#[]⟩ : ByteArray) (by simp only [ByteArray.size_append, zA, ByteArray.size_mk', List.size_toArray, List.length_cons, List.length_nil]; omega)
    rwa [show ((⟨#[105, 110, 105, 116, 123, 125, 108, 111, 111, 112, 123, 120, 61]⟩ : ByteArray) ++ aS (⟨#[45, 32]⟩ : ByteArray) N ++ (⟨#[49]⟩ : ByteArray)) ++ (⟨#[]⟩ : ByteArray) = (⟨#[105, 110, 105, 116, 123, 125, 108, 111, 111, 112, 123, 120, 61]⟩ : ByteArray) ++ aS (⟨#[45, 32]⟩ : ByteArray) N ++ (⟨#[49]⟩ : ByteArray) from ByteArray.append_empty] at h
  have p3 : ∀ w, (Op.stringOp .add ((⟨#[105, 110, 105, 116, 123, 125, 108, 111, 111, 112, 123, 120, 61]⟩ : ByteArray) ++ aS (⟨#[45, 32]⟩ : ByteArray) N ++ (⟨#[49]⟩ : ByteArray)) ((⟨#[59, 125]⟩ : ByteArray))).run Tryz.prog w = .ok (.string (S)) w := fun w => (by rw [hS.out]; exact run_string_add_sum w _ _ (by simp only [ByteArray.size_append, zA, ByteArray.size_mk', List.size_toArray, List.length_cons, List.length_nil]; omega))
  have hnum : nums S = front0 ++ 120 :: 61 :: tSigns N [59, 125] := by
    rw [hS.out]
    simp only [nums_append, nums_aS, tSigns_eq]
    simp [nums, List.append_assoc]
  have hlen : (nums S).length ≤ 65536 := by
    rw [nums_len, hS.out]
    simp only [ByteArray.size_append, zA, ByteArray.size_mk', List.size_toArray, List.length_cons, List.length_nil]
    omega
  have hDp := fun o p er (hP : Parsed (nums S).length (nums S) o p er) => deep1 (n := N) (by omega) hnum hlen hP
  have hDp := Aside0.mk hDp
  obtain ⟨cap, W1, hcv, PC⟩ := parse_str S W hE.out
  have PC := Aside0.mk PC
  have hszS : (nums S).length = S.size := nums_len S
  have hszS := Aside0.mk hszS
  clear zA hnum hlen
  go_enter Tryz.func6, Tryz.ntmps6
  go_upto_region 3 with fail
  rw [hN.out, hK.out]
  generalize hx1 : IntKind.u64.wrap n = x1
  generalize hx2 : IntKind.u64.wrap kind = x2
  clear hN hK hx1 hx2
  go_wp2
  go_loop [5, 6, 7] (fun a b i => ∃ k : Nat, k ≤ N ∧ i = .int .i64 (k : Int) ∧ a = .string (aS (⟨#[45, 32]⟩ : ByteArray) k) ∧ b = .string ⟨#[]⟩) (fun _ _ i => N - (intOf i).toNat)
  case atStart => exact ⟨0, Nat.zero_le _, rfl, rfl, rfl⟩
  case round =>
    obtain ⟨k, hk, rfl, rfl, rfl⟩ := hrel
    have a1 : ∀ w, (Op.stringOp .add (aS (⟨#[45, 32]⟩ : ByteArray) k) (⟨#[45, 32]⟩ : ByteArray)).run Tryz.prog w = .ok (.string (aS (⟨#[45, 32]⟩ : ByteArray) k ++ (⟨#[45, 32]⟩ : ByteArray))) w := fun w => run_string_add_sum w _ _ (by rw [aS_size]; show k * 2 + 2 ≤ _; omega)
    by_cases hlt : k < N
    · clear hcv PC
      go_wp2
      go_round
      case rel => exact ⟨k + 1, by omega, by go_num, rfl, rfl⟩
      case measure => simp [intOf]; omega
    · obtain rfl : N = k := by omega
      clear a1 hlt hk
      by_cases hm : N ≤ 63
      · have dm : decide ((N : Int) ≤ 63) = true := decide_eq_true (by omega)
        go_wp2_with (go_at_call 10; with_reducible refine PC.out.mono ?_)
        rintro e w1 ⟨hb, o, p, er, A1, n1, c1, A2, n2, c2, A3, n3, c3, A4, n4, c4, hP, rfl⟩
        obtain ⟨rfl, -⟩ := (hDp.out o p er hP).1 hm
        have AW := Aside0.mk (fun o1 o2 => awake_call ((w1.alloc o1).alloc o2) (((hE.out.grow hb).alloc o1).alloc o2))
        have hb := Aside0.mk hb
        clear PC hP
        go_wp2_with (go_at_call 13; with_reducible refine (AW.out _ _).mono ?_)
        rintro e w2 ⟨rfl, hb2⟩
        have hb2 := Aside0.mk ((((Below.refl w1.heap.size w1).alloc (Nat.le_refl _) _).alloc (by simp) _).trans (hb2.mono (by simp; omega)))
        go_wp2
        go_ret
        exact ⟨rfl, hb.out.trans (hb2.out.mono hb.out.size)⟩
      · have dm : decide ((N : Int) ≤ 63) = false := decide_eq_false (by omega)
        go_wp2_with (go_at_call 10; with_reducible refine PC.out.mono ?_)
        rintro e w1 ⟨hb, o, p, er, A1, n1, c1, A2, n2, c2, A3, n3, c3, A4, n4, c4, hP, rfl⟩
        obtain ⟨rfl, hp0, hp1⟩ := (hDp.out o p er hP).2 hm
        rw [hszS.out] at hp1
        have dp : decide (p < (S.size : Int)) = true := decide_eq_true hp1
        have AW := Aside0.mk (fun o1 o2 => awake_call ((w1.alloc o1).alloc o2) (((hE.out.grow hb).alloc o1).alloc o2))
        have hb := Aside0.mk hb
        clear PC hP
        go_wp2_with (go_at_call 13; with_reducible refine (AW.out _ _).mono ?_)
        rintro e w2 ⟨rfl, hb2⟩
        have hb2 := Aside0.mk ((((Below.refl w1.heap.size w1).alloc (Nat.le_refl _) _).alloc (by simp) _).trans (hb2.mono (by simp; omega)))
        go_wp2
        go_ret
        exact ⟨rfl, hb.out.trans (hb2.out.mono hb.out.size)⟩
set_option maxHeartbeats 4000000 in
theorem deep_walk2 (n kind : Int) (N : Nat) (hN : wrap64 ((IntKind.u64.wrap n).tmod 200) = (N : Int)) (hN2 : (N : Int) < 200) (hK : wrap64 ((IntKind.u64.wrap kind).tmod 4) = 2) (W : World) (hE : Env W) :
    Calls Tryz.prog 6 #[.int .i64 n, .int .i64 kind] W fun e W' => e = .returned (.bool true) ∧ Below W.heap.size W W' := by
  have hE := Aside0.mk hE
  have hN := Aside0.mk hN
  have hK := Aside0.mk hK
  obtain ⟨S, hS⟩ : ∃ S : ByteArray, Aside0 (S = (⟨#[105, 110, 105, 116, 123, 125, 108, 111, 111, 112, 123, 120, 61]⟩ : ByteArray) ++ aS (⟨#[121, 91]⟩ : ByteArray) N ++ (⟨#[49]⟩ : ByteArray) ++ aS (⟨#[93]⟩ : ByteArray) N ++ (⟨#[59, 125]⟩ : ByteArray)) := ⟨_, ⟨rfl⟩⟩
  have zA : (aS (⟨#[121, 91]⟩ : ByteArray) N).size = N * 2 := aS_size _ N
  have zB : (aS (⟨#[93]⟩ : ByteArray) N).size = N * 1 := aS_size _ N
  have p0 : ∀ w, (Op.stringOp .add ((⟨#[105, 110, 105, 116, 123, 125, 108, 111, 111, 112, 123, 120, 61]⟩ : ByteArray)) (aS (⟨#[121, 91]⟩ : ByteArray) N)).run Tryz.prog w = .ok (.string ((⟨#[105, 110, 105, 116, 123, 125, 108, 111, 111, 112, 123, 120, 61]⟩ : ByteArray) ++ aS (⟨#[121, 91]⟩ : ByteArray) N)) w := fun w => run_string_add_sum w _ _ (by simp only [ByteArray.size_append, zA, zB, ByteArray.size_mk', List.size_toArray, List.length_cons, List.length_nil]; omega)
  have p1 : ∀ w, (Op.stringOp .add ((⟨#[105, 110, 105, 116, 123, 125, 108, 111, 111, 112, 123, 120, 61]⟩ : ByteArray) ++ aS (⟨#[121, 91]⟩ : ByteArray) N) ((⟨#[49]⟩ : ByteArray))).run Tryz.prog w = .ok (.string ((⟨#[105, 110, 105, 116, 123, 125, 108, 111, 111, 112, 123, 120, 61]⟩ : ByteArray) ++ aS (⟨#[121, 91]⟩ : ByteArray) N ++ (⟨#[49]⟩ : ByteArray))) w := fun w => run_string_add_sum w _ _ (by simp only [ByteArray.size_append, zA, zB, ByteArray.size_mk', List.size_toArray, List.length_cons, List.length_nil]; omega)
  have p2 : ∀ w, (Op.stringOp .add ((⟨#[105, 110, 105, 116, 123, 125, 108, 111, 111, 112, 123, 120, 61]⟩ : ByteArray) ++ aS (⟨#[121, 91]⟩ : ByteArray) N ++ (⟨#[49]⟩ : ByteArray)) (aS (⟨#[93]⟩ : ByteArray) N)).run Tryz.prog w = .ok (.string ((⟨#[105, 110, 105, 116, 123, 125, 108, 111, 111, 112, 123, 120, 61]⟩ : ByteArray) ++ aS (⟨#[121, 91]⟩ : ByteArray) N ++ (⟨#[49]⟩ : ByteArray) ++ aS (⟨#[93]⟩ : ByteArray) N)) w := fun w => run_string_add_sum w _ _ (by simp only [ByteArray.size_append, zA, zB, ByteArray.size_mk', List.size_toArray, List.length_cons, List.length_nil]; omega)
  have p3 : ∀ w, (Op.stringOp .add ((⟨#[105, 110, 105, 116, 123, 125, 108, 111, 111, 112, 123, 120, 61]⟩ : ByteArray) ++ aS (⟨#[121, 91]⟩ : ByteArray) N ++ (⟨#[49]⟩ : ByteArray) ++ aS (⟨#[93]⟩ : ByteArray) N) ((⟨#[59, 125]⟩ : ByteArray))).run Tryz.prog w = .ok (.string (S)) w := fun w => (by rw [hS.out]; exact run_string_add_sum w _ _ (by simp only [ByteArray.size_append, zA, zB, ByteArray.size_mk', List.size_toArray, List.length_cons, List.length_nil]; omega))
  have hnum : nums S = front0 ++ 120 :: 61 :: tIndex N [59, 125] := by
    rw [hS.out]
    simp only [nums_append, nums_aS, tIndex_eq]
    simp [nums, List.append_assoc]
  have hlen : (nums S).length ≤ 65536 := by
    rw [nums_len, hS.out]
    simp only [ByteArray.size_append, zA, zB, ByteArray.size_mk', List.size_toArray, List.length_cons, List.length_nil]
    omega
  have hDp := fun o p er (hP : Parsed (nums S).length (nums S) o p er) => deep2 (n := N) (by omega) hnum hlen hP
  have hDp := Aside0.mk hDp
  obtain ⟨cap, W1, hcv, PC⟩ := parse_str S W hE.out
  have PC := Aside0.mk PC
  have hszS : (nums S).length = S.size := nums_len S
  have hszS := Aside0.mk hszS
  clear zA zB hnum hlen
  go_enter Tryz.func6, Tryz.ntmps6
  go_upto_region 3 with fail
  rw [hN.out, hK.out]
  generalize hx1 : IntKind.u64.wrap n = x1
  generalize hx2 : IntKind.u64.wrap kind = x2
  clear hN hK hx1 hx2
  go_wp2
  go_loop [5, 6, 7] (fun a b i => ∃ k : Nat, k ≤ N ∧ i = .int .i64 (k : Int) ∧ a = .string (aS (⟨#[121, 91]⟩ : ByteArray) k) ∧ b = .string (aS (⟨#[93]⟩ : ByteArray) k)) (fun _ _ i => N - (intOf i).toNat)
  case atStart => exact ⟨0, Nat.zero_le _, rfl, rfl, rfl⟩
  case round =>
    obtain ⟨k, hk, rfl, rfl, rfl⟩ := hrel
    have a2 : ∀ w, (Op.stringOp .add (aS (⟨#[93]⟩ : ByteArray) k) (⟨#[93]⟩ : ByteArray)).run Tryz.prog w = .ok (.string (aS (⟨#[93]⟩ : ByteArray) k ++ (⟨#[93]⟩ : ByteArray))) w := fun w => run_string_add_sum w _ _ (by rw [aS_size]; show k * 1 + 1 ≤ _; omega)
    have a1 : ∀ w, (Op.stringOp .add (aS (⟨#[121, 91]⟩ : ByteArray) k) (⟨#[121, 91]⟩ : ByteArray)).run Tryz.prog w = .ok (.string (aS (⟨#[121, 91]⟩ : ByteArray) k ++ (⟨#[121, 91]⟩ : ByteArray))) w := fun w => run_string_add_sum w _ _ (by rw [aS_size]; show k * 2 + 2 ≤ _; omega)
    by_cases hlt : k < N
    · clear hcv PC
      go_wp2
      go_round
      case rel => exact ⟨k + 1, by omega, by go_num, rfl, rfl⟩
      case measure => simp [intOf]; omega
    · obtain rfl : N = k := by omega
      clear a1 a2 hlt hk
      by_cases hm : N ≤ 63
      · have dm : decide ((N : Int) ≤ 63) = true := decide_eq_true (by omega)
        go_wp2_with (go_at_call 10; with_reducible refine PC.out.mono ?_)
        rintro e w1 ⟨hb, o, p, er, A1, n1, c1, A2, n2, c2, A3, n3, c3, A4, n4, c4, hP, rfl⟩
        obtain ⟨rfl, -⟩ := (hDp.out o p er hP).1 hm
        have AW := Aside0.mk (fun o1 o2 => awake_call ((w1.alloc o1).alloc o2) (((hE.out.grow hb).alloc o1).alloc o2))
        have hb := Aside0.mk hb
        clear PC hP
        go_wp2_with (go_at_call 13; with_reducible refine (AW.out _ _).mono ?_)
        rintro e w2 ⟨rfl, hb2⟩
        have hb2 := Aside0.mk ((((Below.refl w1.heap.size w1).alloc (Nat.le_refl _) _).alloc (by simp) _).trans (hb2.mono (by simp; omega)))
        go_wp2
        go_ret
        exact ⟨rfl, hb.out.trans (hb2.out.mono hb.out.size)⟩
      · have dm : decide ((N : Int) ≤ 63) = false := decide_eq_false (by omega)
        go_wp2_with (go_at_call 10; with_reducible refine PC.out.mono ?_)
        rintro e w1 ⟨hb, o, p, er, A1, n1, c1, A2, n2, c2, A3, n3, c3, A4, n4, c4, hP, rfl⟩
        obtain ⟨rfl, hp0, hp1⟩ := (hDp.out o p er hP).2 hm
        rw [hszS.out] at hp1
        have dp : decide (p < (S.size : Int)) = true := decide_eq_true hp1
        have AW := Aside0.mk (fun o1 o2 => awake_call ((w1.alloc o1).alloc o2) (((hE.out.grow hb).alloc o1).alloc o2))
        have hb := Aside0.mk hb
        clear PC hP
        go_wp2_with (go_at_call 13; with_reducible refine (AW.out _ _).mono ?_)
        rintro e w2 ⟨rfl, hb2⟩
        have hb2 := Aside0.mk ((((Below.refl w1.heap.size w1).alloc (Nat.le_refl _) _).alloc (by simp) _).trans (hb2.mono (by simp; omega)))
        go_wp2
        go_ret
        exact ⟨rfl, hb.out.trans (hb2.out.mono hb.out.size)⟩
set_option maxHeartbeats 4000000 in
theorem deep_walk3 (n kind : Int) (N : Nat) (hN : wrap64 ((IntKind.u64.wrap n).tmod 200) = (N : Int)) (hN2 : (N : Int) < 200) (hK : wrap64 ((IntKind.u64.wrap kind).tmod 4) = 3) (W : World) (hE : Env W) :
    Calls Tryz.prog 6 #[.int .i64 n, .int .i64 kind] W fun e W' => e = .returned (.bool true) ∧ Below W.heap.size W W' := by
  have hE := Aside0.mk hE
  have hN := Aside0.mk hN
  have hK := Aside0.mk hK
  obtain ⟨S, hS⟩ : ∃ S : ByteArray, Aside0 (S = (⟨#[105, 110, 105, 116, 123, 125, 108, 111, 111, 112, 123]⟩ : ByteArray) ++ aS (⟨#[105, 102, 32, 40, 49, 41, 32, 123]⟩ : ByteArray) N ++ (⟨#[120, 61, 45, 49, 59]⟩ : ByteArray) ++ aS (⟨#[125]⟩ : ByteArray) N ++ (⟨#[125]⟩ : ByteArray)) := ⟨_, ⟨rfl⟩⟩
  have zA : (aS (⟨#[105, 102, 32, 40, 49, 41, 32, 123]⟩ : ByteArray) N).size = N * 8 := aS_size _ N
  have zB : (aS (⟨#[125]⟩ : ByteArray) N).size = N * 1 := aS_size _ N
  have q0 : ∀ w, (Op.stringOp .add ((⟨#[105, 110, 105, 116, 123, 125, 108, 111, 111, 112, 123, 120, 61]⟩ : ByteArray)) (aS (⟨#[105, 102, 32, 40, 49, 41, 32, 123]⟩ : ByteArray) N)).run Tryz.prog w = .ok (.string ((⟨#[105, 110, 105, 116, 123, 125, 108, 111, 111, 112, 123, 120, 61]⟩ : ByteArray) ++ aS (⟨#[105, 102, 32, 40, 49, 41, 32, 123]⟩ : ByteArray) N)) w := fun w => run_string_add_sum w _ _ (by simp only [ByteArray.size_append, zA, zB, ByteArray.size_mk', List.size_toArray, List.length_cons, List.length_nil]; omega)
  have q1 : ∀ w, (Op.stringOp .add ((⟨#[105, 110, 105, 116, 123, 125, 108, 111, 111, 112, 123, 120, 61]⟩ : ByteArray) ++ aS (⟨#[105, 102, 32, 40, 49, 41, 32, 123]⟩ : ByteArray) N) ((⟨#[49]⟩ : ByteArray))).run Tryz.prog w = .ok (.string ((⟨#[105, 110, 105, 116, 123, 125, 108, 111, 111, 112, 123, 120, 61]⟩ : ByteArray) ++ aS (⟨#[105, 102, 32, 40, 49, 41, 32, 123]⟩ : ByteArray) N ++ (⟨#[49]⟩ : ByteArray))) w := fun w => run_string_add_sum w _ _ (by simp only [ByteArray.size_append, zA, zB, ByteArray.size_mk', List.size_toArray, List.length_cons, List.length_nil]; omega)
  have q2 : ∀ w, (Op.stringOp .add ((⟨#[105, 110, 105, 116, 123, 125, 108, 111, 111, 112, 123, 120, 61]⟩ : ByteArray) ++ aS (⟨#[105, 102, 32, 40, 49, 41, 32, 123]⟩ : ByteArray) N ++ (⟨#[49]⟩ : ByteArray)) (aS (⟨#[125]⟩ : ByteArray) N)).run Tryz.prog w = .ok (.string ((⟨#[105, 110, 105, 116, 123, 125, 108, 111, 111, 112, 123, 120, 61]⟩ : ByteArray) ++ aS (⟨#[105, 102, 32, 40, 49, 41, 32, 123]⟩ : ByteArray) N ++ (⟨#[49]⟩ : ByteArray) ++ aS (⟨#[125]⟩ : ByteArray) N)) w := fun w => run_string_add_sum w _ _ (by simp only [ByteArray.size_append, zA, zB, ByteArray.size_mk', List.size_toArray, List.length_cons, List.length_nil]; omega)
  have q3 : ∀ w, (Op.stringOp .add ((⟨#[105, 110, 105, 116, 123, 125, 108, 111, 111, 112, 123, 120, 61]⟩ : ByteArray) ++ aS (⟨#[105, 102, 32, 40, 49, 41, 32, 123]⟩ : ByteArray) N ++ (⟨#[49]⟩ : ByteArray) ++ aS (⟨#[125]⟩ : ByteArray) N) ((⟨#[59, 125]⟩ : ByteArray))).run Tryz.prog w = .ok (.string ((⟨#[105, 110, 105, 116, 123, 125, 108, 111, 111, 112, 123, 120, 61]⟩ : ByteArray) ++ aS (⟨#[105, 102, 32, 40, 49, 41, 32, 123]⟩ : ByteArray) N ++ (⟨#[49]⟩ : ByteArray) ++ aS (⟨#[125]⟩ : ByteArray) N ++ (⟨#[59, 125]⟩ : ByteArray))) w := fun w => run_string_add_sum w _ _ (by simp only [ByteArray.size_append, zA, zB, ByteArray.size_mk', List.size_toArray, List.length_cons, List.length_nil]; omega)
  have p0 : ∀ w, (Op.stringOp .add ((⟨#[105, 110, 105, 116, 123, 125, 108, 111, 111, 112, 123]⟩ : ByteArray)) (aS (⟨#[105, 102, 32, 40, 49, 41, 32, 123]⟩ : ByteArray) N)).run Tryz.prog w = .ok (.string ((⟨#[105, 110, 105, 116, 123, 125, 108, 111, 111, 112, 123]⟩ : ByteArray) ++ aS (⟨#[105, 102, 32, 40, 49, 41, 32, 123]⟩ : ByteArray) N)) w := fun w => run_string_add_sum w _ _ (by simp only [ByteArray.size_append, zA, zB, ByteArray.size_mk', List.size_toArray, List.length_cons, List.length_nil]; omega)
  have p1 : ∀ w, (Op.stringOp .add ((⟨#[105, 110, 105, 116, 123, 125, 108, 111, 111, 112, 123]⟩ : ByteArray) ++ aS (⟨#[105, 102, 32, 40, 49, 41, 32, 123]⟩ : ByteArray) N) ((⟨#[120, 61, 45, 49, 59]⟩ : ByteArray))).run Tryz.prog w = .ok (.string ((⟨#[105, 110, 105, 116, 123, 125, 108, 111, 111, 112, 123]⟩ : ByteArray) ++ aS (⟨#[105, 102, 32, 40, 49, 41, 32, 123]⟩ : ByteArray) N ++ (⟨#[120, 61, 45, 49, 59]⟩ : ByteArray))) w := fun w => run_string_add_sum w _ _ (by simp only [ByteArray.size_append, zA, zB, ByteArray.size_mk', List.size_toArray, List.length_cons, List.length_nil]; omega)
  have p2 : ∀ w, (Op.stringOp .add ((⟨#[105, 110, 105, 116, 123, 125, 108, 111, 111, 112, 123]⟩ : ByteArray) ++ aS (⟨#[105, 102, 32, 40, 49, 41, 32, 123]⟩ : ByteArray) N ++ (⟨#[120, 61, 45, 49, 59]⟩ : ByteArray)) (aS (⟨#[125]⟩ : ByteArray) N)).run Tryz.prog w = .ok (.string ((⟨#[105, 110, 105, 116, 123, 125, 108, 111, 111, 112, 123]⟩ : ByteArray) ++ aS (⟨#[105, 102, 32, 40, 49, 41, 32, 123]⟩ : ByteArray) N ++ (⟨#[120, 61, 45, 49, 59]⟩ : ByteArray) ++ aS (⟨#[125]⟩ : ByteArray) N)) w := fun w => run_string_add_sum w _ _ (by simp only [ByteArray.size_append, zA, zB, ByteArray.size_mk', List.size_toArray, List.length_cons, List.length_nil]; omega)
  have p3 : ∀ w, (Op.stringOp .add ((⟨#[105, 110, 105, 116, 123, 125, 108, 111, 111, 112, 123]⟩ : ByteArray) ++ aS (⟨#[105, 102, 32, 40, 49, 41, 32, 123]⟩ : ByteArray) N ++ (⟨#[120, 61, 45, 49, 59]⟩ : ByteArray) ++ aS (⟨#[125]⟩ : ByteArray) N) ((⟨#[125]⟩ : ByteArray))).run Tryz.prog w = .ok (.string (S)) w := fun w => (by rw [hS.out]; exact run_string_add_sum w _ _ (by simp only [ByteArray.size_append, zA, zB, ByteArray.size_mk', List.size_toArray, List.length_cons, List.length_nil]; omega))
  have hnum : nums S = front0 ++ tBlocks N [125] := by
    rw [hS.out]
    simp only [nums_append, nums_aS, tBlocks_eq]
    simp [nums, List.append_assoc]
  have hlen : (nums S).length ≤ 65536 := by
    rw [nums_len, hS.out]
    simp only [ByteArray.size_append, zA, zB, ByteArray.size_mk', List.size_toArray, List.length_cons, List.length_nil]
    omega
  have hDp := fun o p er (hP : Parsed (nums S).length (nums S) o p er) => deep3 (n := N) (by omega) hnum hlen hP
  have hDp := Aside0.mk hDp
  obtain ⟨cap, W1, hcv, PC⟩ := parse_str S W hE.out
  have PC := Aside0.mk PC
  have hszS : (nums S).length = S.size := nums_len S
  have hszS := Aside0.mk hszS
  clear zA zB hnum hlen
  go_enter Tryz.func6, Tryz.ntmps6
  go_upto_region 3 with fail
  rw [hN.out, hK.out]
  generalize hx1 : IntKind.u64.wrap n = x1
  generalize hx2 : IntKind.u64.wrap kind = x2
  clear hN hK hx1 hx2
  go_wp2
  go_loop [5, 6, 7] (fun a b i => ∃ k : Nat, k ≤ N ∧ i = .int .i64 (k : Int) ∧ a = .string (aS (⟨#[105, 102, 32, 40, 49, 41, 32, 123]⟩ : ByteArray) k) ∧ b = .string (aS (⟨#[125]⟩ : ByteArray) k)) (fun _ _ i => N - (intOf i).toNat)
  case atStart => exact ⟨0, Nat.zero_le _, rfl, rfl, rfl⟩
  case round =>
    obtain ⟨k, hk, rfl, rfl, rfl⟩ := hrel
    have a2 : ∀ w, (Op.stringOp .add (aS (⟨#[125]⟩ : ByteArray) k) (⟨#[125]⟩ : ByteArray)).run Tryz.prog w = .ok (.string (aS (⟨#[125]⟩ : ByteArray) k ++ (⟨#[125]⟩ : ByteArray))) w := fun w => run_string_add_sum w _ _ (by rw [aS_size]; show k * 1 + 1 ≤ _; omega)
    have a1 : ∀ w, (Op.stringOp .add (aS (⟨#[105, 102, 32, 40, 49, 41, 32, 123]⟩ : ByteArray) k) (⟨#[105, 102, 32, 40, 49, 41, 32, 123]⟩ : ByteArray)).run Tryz.prog w = .ok (.string (aS (⟨#[105, 102, 32, 40, 49, 41, 32, 123]⟩ : ByteArray) k ++ (⟨#[105, 102, 32, 40, 49, 41, 32, 123]⟩ : ByteArray))) w := fun w => run_string_add_sum w _ _ (by rw [aS_size]; show k * 8 + 8 ≤ _; omega)
    by_cases hlt : k < N
    · clear hcv PC
      go_wp2
      go_round
      case rel => exact ⟨k + 1, by omega, by go_num, rfl, rfl⟩
      case measure => simp [intOf]; omega
    · obtain rfl : N = k := by omega
      clear a1 a2 hlt hk
      by_cases hm : N ≤ 62
      · have dm : decide ((N : Int) ≤ 62) = true := decide_eq_true (by omega)
        go_wp2_with (go_at_call 10; with_reducible refine PC.out.mono ?_)
        rintro e w1 ⟨hb, o, p, er, A1, n1, c1, A2, n2, c2, A3, n3, c3, A4, n4, c4, hP, rfl⟩
        obtain ⟨rfl, -⟩ := (hDp.out o p er hP).1 hm
        have AW := Aside0.mk (fun o1 o2 => awake_call ((w1.alloc o1).alloc o2) (((hE.out.grow hb).alloc o1).alloc o2))
        have hb := Aside0.mk hb
        clear PC hP
        go_wp2_with (go_at_call 13; with_reducible refine (AW.out _ _).mono ?_)
        rintro e w2 ⟨rfl, hb2⟩
        have hb2 := Aside0.mk ((((Below.refl w1.heap.size w1).alloc (Nat.le_refl _) _).alloc (by simp) _).trans (hb2.mono (by simp; omega)))
        go_wp2
        go_ret
        exact ⟨rfl, hb.out.trans (hb2.out.mono hb.out.size)⟩
      · have dm : decide ((N : Int) ≤ 62) = false := decide_eq_false (by omega)
        go_wp2_with (go_at_call 10; with_reducible refine PC.out.mono ?_)
        rintro e w1 ⟨hb, o, p, er, A1, n1, c1, A2, n2, c2, A3, n3, c3, A4, n4, c4, hP, rfl⟩
        obtain ⟨rfl, hp0, hp1⟩ := (hDp.out o p er hP).2 hm
        rw [hszS.out] at hp1
        have dp : decide (p < (S.size : Int)) = true := decide_eq_true hp1
        have AW := Aside0.mk (fun o1 o2 => awake_call ((w1.alloc o1).alloc o2) (((hE.out.grow hb).alloc o1).alloc o2))
        have hb := Aside0.mk hb
        clear PC hP
        go_wp2_with (go_at_call 13; with_reducible refine (AW.out _ _).mono ?_)
        rintro e w2 ⟨rfl, hb2⟩
        have hb2 := Aside0.mk ((((Below.refl w1.heap.size w1).alloc (Nat.le_refl _) _).alloc (by simp) _).trans (hb2.mono (by simp; omega)))
        go_wp2
        go_ret
        exact ⟨rfl, hb.out.trans (hb2.out.mono hb.out.size)⟩
theorem deep_walk (n kind : Int) (W : World) (hE : Env W) : Calls Tryz.prog 6 #[.int .i64 n, .int .i64 kind] W fun e W' => e = .returned (.bool true) ∧ Below W.heap.size W W' := by
  obtain ⟨N, hN, hN2⟩ := mod_small n 200 (by omega)
  obtain ⟨K, hK, hK4⟩ := mod_small kind 4 (by omega)
  have hK' : K = 0 ∨ K = 1 ∨ K = 2 ∨ K = 3 := by omega
  rcases hK' with rfl | rfl | rfl | rfl
  · exact deep_walk0 n kind N hN hN2 hK W hE
  · exact deep_walk1 n kind N hN hN2 hK W hE
  · exact deep_walk2 n kind N hN hN2 hK W hE
  · exact deep_walk3 n kind N hN hN2 hK W hE
end Go.Proofs.YtgaoapnaplgaiaaGreatDoor.Sc

