/- This claim's own texts, joined, with only what the claim uses: ParH, ParZe. -/
import Derived.Test.YtgaoapnaplgaiaaGreatDoorZd29
import Derived.Test.YtgaoapnaplgaiaaGreatDoorZd31
namespace Go.Proofs.YtgaoapnaplgaiaaGreatDoor.Sc
set_option maxRecDepth 100000
open Go.RowKit Tk Go.Proofs.YtgaoapnaplgaiaaGreatDoor.Wd

theorem decl_call {c : Ctx} (hG : Good c) {W : World} {a : Nat} {d fp fe : Int} (h : St c W a d fp fe) (hd : -800 ≤ d ∧ d ≤ 800) :
    Calls Tryz.prog 54 #[c.me] W (Post c W fp fe repD (declS c a d)) := by
  by_cases k8 : kd c a = 8
  · exact decl8 hG h (by omega) k8 _ ⟨if_pos k8⟩
  by_cases k25 : kd c a = 25
  · exact decl25 hG h (by omega) k25 _ ⟨(if_neg k8).trans (if_pos k25)⟩
  by_cases k14 : kd c a = 14
  · exact decl14 hG h (by omega) k14 _ ⟨(if_neg k8).trans ((if_neg k25).trans (if_pos k14))⟩
  by_cases k26 : kd c a = 26
  · exact decl26 hG h hd k26 _ ⟨(if_neg k8).trans ((if_neg k25).trans ((if_neg k14).trans (if_pos k26)))⟩
  rw [show declS c a d = .ok (⟨0, 0, ⟨#[]⟩, z67, z67, z67, ps c a⟩, false) a d from (if_neg k8).trans ((if_neg k25).trans ((if_neg k14).trans (if_neg k26)))]
  exact decl0 hG h k8 k25 k14 k26
/-- A procedure; a program. -/
structure Prc where
  name : ByteArray
  body : List Stm
  pos : Int
structure Tre where
  decls : List Dec
  procs : List Prc
  init : List Stm
  loop : List Stm
def declsLoop (c : Ctx) : Nat → List Dec → Nat → Int → Out (List Dec)
  | 0, _, _, _ => .bad 0 0
  | f + 1, l, a, d => (declS c a d).bind fun x a1 d1 => if x.2 then declsLoop c f (l ++ [x.1]) a1 d1 else .ok l a1 d1
def procsLoop (c : Ctx) : Nat → List Prc → Nat → Int → Out (List Prc)
  | 0, _, _, _ => .bad 0 0
  | f + 1, l, a, d => if kd c a = 21 then (nameS c (a + 1) d).bind fun s a1 d1 => (blkS c a1 d1).bind fun b a2 d2 => procsLoop c f (l ++ [⟨s, b, ps c a⟩]) a2 d2 else .ok l a d
def programS (c : Ctx) (a : Nat) (d : Int) : Out Tre := (declsLoop c (c.L.length + 1 - a) [] a d).bind fun ds a1 d1 => (procsLoop c (c.L.length + 1 - a1) [] a1 d1).bind fun pr a2 d2 => (wantS c 13 a2 d2).bind fun _ a3 d3 =>
  (blkS c a3 d3).bind fun i a4 d4 => (wantS c 18 a4 d4).bind fun _ a5 d5 => (blkS c a5 d5).bind fun l a6 d6 => if kd c a6 = 0 then .ok ⟨ds, pr, i, l⟩ a6 d6 else .bad (ps c a6) 40
theorem typ_fine {c : Ctx} {a a' : Nat} {d d' t : Int} (h : typS c a d = .ok t a' d') : a < a' ∧ a' ≤ c.L.length ∧ d' = d := by
  unfold typS at h
  split at h
  · rename_i hk; have := kd_lt hk (by omega); cases h; exact ⟨by omega, by omega, rfl⟩
  · split at h
    · rename_i hk; have := kd_lt hk (by omega); cases h; exact ⟨by omega, by omega, rfl⟩
    · obtain ⟨t, a1, d1, h1, h2⟩ := bind_ok h
      obtain ⟨e, hl, hd⟩ := want_fine (by omega) (by omega) h1
      cases h2
      exact ⟨by omega, hl, hd⟩
theorem semi_fine {c : Ctx} {x : Dec} {y : Dec × Bool} {a a' : Nat} {d d' : Int} (h : semiS c x a d = .ok y a' d') : a < a' ∧ a' ≤ c.L.length ∧ d' = d ∧ y = (x, true) := by
  obtain ⟨t, a1, d1, h1, h2⟩ := bind_ok h
  obtain ⟨e, hl, hd⟩ := want_fine (by omega) (by omega) h1
  cases h2
  exact ⟨by omega, hl, hd, rfl⟩
theorem declS_fine {c : Ctx} {y : Dec × Bool} {a a' : Nat} {d d' : Int} (hl : a ≤ c.L.length) (h : declS c a d = .ok y a' d') : a ≤ a' ∧ a' ≤ c.L.length ∧ d' = d ∧ (y.2 = true → a < a') := by
  unfold declS at h
  split at h
  · rename_i hk
    have := kd_lt hk (by omega)
    obtain ⟨nm, a1, d1, h1, h2⟩ := bind_ok h
    obtain ⟨e1, l1, f1, -⟩ := name_ok h1
    obtain ⟨_, a2, d2, h3, h4⟩ := bind_ok h2
    obtain ⟨e2, l2, f2⟩ := want_fine (by omega) (by omega) h3
    obtain ⟨lo, a3, d3, h5, h6⟩ := bind_ok h4
    obtain ⟨e3, l3, f3⟩ := constant_fine l2 h5
    obtain ⟨e4, l4, f4, -⟩ := semi_fine h6
    exact ⟨by omega, l4, by omega, fun _ => by omega⟩
  split at h
  · rename_i hk
    have := kd_lt hk (by omega)
    obtain ⟨lo, a3, d3, h5, h6⟩ := bind_ok h
    obtain ⟨e3, l3, f3⟩ := constant_fine (by omega) h5
    obtain ⟨e4, l4, f4, -⟩ := semi_fine h6
    exact ⟨by omega, l4, by omega, fun _ => by omega⟩
  split at h
  · rename_i hk
    have := kd_lt hk (by omega)
    obtain ⟨ty, a0, d0, h0, h⟩ := bind_ok h
    obtain ⟨e0, l0, f0⟩ := typ_fine h0
    obtain ⟨nm, a1, d1, h1, h2⟩ := bind_ok h
    obtain ⟨e1, l1, f1, -⟩ := name_ok h1
    obtain ⟨_, a2, d2, h3, h4⟩ := bind_ok h2
    obtain ⟨e2, l2, f2⟩ := want_fine (by omega) (by omega) h3
    obtain ⟨lo, a3, d3, h5, h6⟩ := bind_ok h4
    obtain ⟨e3, l3, f3⟩ := constant_fine l2 h5
    obtain ⟨_, a4, d4, h7, h8⟩ := bind_ok h6
    obtain ⟨e4, l4, f4⟩ := want_fine (by omega) (by omega) h7
    obtain ⟨hi, a5, d5, h9, hA⟩ := bind_ok h8
    obtain ⟨e5, l5, f5⟩ := constant_fine l4 h9
    obtain ⟨e6, l6, f6, -⟩ := semi_fine hA
    exact ⟨by omega, l6, by omega, fun _ => by omega⟩
  split at h
  · rename_i hk
    have := kd_lt hk (by omega)
    obtain ⟨ty, a0, d0, h0, h⟩ := bind_ok h
    obtain ⟨e0, l0, f0⟩ := typ_fine h0
    obtain ⟨nm, a1, d1, h1, h2⟩ := bind_ok h
    obtain ⟨e1, l1, f1, -⟩ := name_ok h1
    obtain ⟨b, a2, d2, h3, h4⟩ := bind_ok h2
    obtain ⟨q1, q2, qt, qf⟩ := take_ok (by omega) l1 h3
    obtain ⟨os, a3, d3, h5, h6⟩ := bind_ok h4
    have hq : a1 ≤ a3 ∧ a3 ≤ c.L.length ∧ d3 = d1 := by
      cases b with
      | true =>
        obtain ⟨r1, r2, r3⟩ := qt rfl
        rw [if_pos (by omega)] at r2
        obtain ⟨sz, a4, d4, h7, h8⟩ := bind_ok (show Out.bind _ _ = _ from h5)
        obtain ⟨e4, l4, f4⟩ := constant_fine q2 h7
        obtain ⟨_, a5, d5, h9, hA⟩ := bind_ok h8
        obtain ⟨e5, l5, f5⟩ := want_shut (by omega) h9
        cases hA
        exact ⟨by omega, l5, by omega⟩
      | false =>
        obtain ⟨r1, r2⟩ := qf rfl
        cases h5
        exact ⟨by omega, q2, r2⟩
    obtain ⟨_, a4, d4, h7, h8⟩ := bind_ok h6
    obtain ⟨e4, l4, f4⟩ := want_fine (by omega) (by omega) h7
    obtain ⟨lo, a5, d5, h9, hA⟩ := bind_ok h8
    obtain ⟨e5, l5, f5⟩ := constant_fine l4 h9
    obtain ⟨e6, l6, f6, -⟩ := semi_fine hA
    exact ⟨by omega, l6, by omega, fun _ => by omega⟩
  · cases h
    exact ⟨Nat.le_refl _, hl, rfl, fun h => by cases h⟩
abbrev decCells (x : Dec) : List Value := [.int .i64 x.op, .int .i64 x.ty, .string x.name, .string x.size.1, .int .i64 x.size.2.1, .int .i64 x.size.2.2, .string x.lo.1, .int .i64 x.lo.2.1, .int .i64 x.lo.2.2, .string x.hi.1, .int .i64 x.hi.2.1, .int .i64 x.hi.2.2, .int .i64 x.pos]
/-- A declaration as an element: it leads nowhere. -/
def RepD (_ : Nat → Prop) (_ : World) (x : Dec) (v : List Value) : Prop := v = decCells x
theorem repD_keeps : Keeps RepD := fun h _ _ => h
theorem all2_dec {P : Nat → Prop} {W : World} : ∀ (xs : List Dec), All2 (RepD P W) xs (xs.map decCells)
  | [] => trivial
  | _ :: xs => ⟨rfl, all2_dec xs⟩
/-- A procedure as an element. -/
def RepP (P : Nat → Prop) (W : World) (x : Prc) (v : List Value) : Prop := ∃ A n cap, v = [.string x.name, .slice A n cap, .int .i64 x.pos] ∧ RepB P W x.body [.slice A n cap]
theorem repP_keeps : Keeps RepP := by
  rintro P Q W W' x v ⟨A, n, cap, e, h⟩ hq hk
  exact ⟨A, n, cap, e, repB_keeps h hq hk⟩
theorem repP_lt {w : World} {P : Nat → Prop} {x : Prc} {v : List Value} (h : RepP P w x v) : RepP (fun b => P b ∧ b < w.heap.size) w x v := by
  obtain ⟨A, n, cap, e, h⟩ := h
  exact ⟨A, n, cap, e, repB_lt h⟩
theorem Acc.farP {ty size lo : Nat} {W W' : World} {v : Value} {xs : List Prc} (h : Acc RepP ty size lo W v xs) (hf : Far lo W W') : Acc RepP ty size lo W' v xs := Acc.far (R := RepP) repP_keeps h hf
/-- A program as it lies. -/
structure RepT (P : Nat → Prop) (W : World) (t : Tre) (A1 : Option Addr) (n1 c1 : Nat) (A2 : Option Addr) (n2 c2 : Nat) (A3 : Option Addr) (n3 c3 : Nat) (A4 : Option Addr) (n4 c4 : Nat) : Prop where
  h1 : t.decls.length = n1 ∧ n1 ≤ c1
  h2 : t.procs.length = n2 ∧ n2 ≤ c2
  r1 : Row P W A1 (t.decls.map decCells).flatten
  r2 : ∃ vs, Row P W A2 vs.flatten ∧ All2 (RepP P W) t.procs vs
  r3 : RepB P W t.init [.slice A3 n3 c3]
  r4 : RepB P W t.loop [.slice A4 n4 c4]
abbrev repTree (lo : Nat) : World → Value → Tre → Prop := fun W v t => ∃ A1 n1 c1 A2 n2 c2 A3 n3 c3 A4 n4 c4, v = .agg #[.slice A1 n1 c1, .slice A2 n2 c2, .slice A3 n3 c3, .slice A4 n4 c4] ∧ RepT (fun b => lo ≤ b) W t A1 n1 c1 A2 n2 c2 A3 n3 c3 A4 n4 c4
/-- The two rows of a program. -/
structure Rows2 (lo : Nat) (X : World) (v1 v2 : Value) (ds : List Dec) (pr : List Prc) : Prop where
  decs : X.ownsRow lo 69 13 v1 ds.length (ds.map decCells).flatten
  pros : Acc RepP 73 3 lo X v2 pr
  sep : ∀ k, v1.ownBlock = some k → v2.ownBlock ≠ some k
theorem Rows2.far {lo : Nat} {X Y : World} {v1 v2 : Value} {ds : List Dec} {pr : List Prc} (h : Rows2 lo X v1 v2 ds pr) (hf : Far lo X Y) : Rows2 lo Y v1 v2 ds pr := ⟨ownsRow_far h.decs hf, h.pros.farP hf, h.sep⟩
end Go.Proofs.YtgaoapnaplgaiaaGreatDoor.Sc

