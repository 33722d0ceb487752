/- A gate: what it is, what it does, in plain terms; its small calls. No conditions. -/
import Derived.Test.YtnhecopgecoloaaPEvg
import Derived.Test.YtnhecopgecoloaaLEv
import Derived.Test.YtnhecopgecoloaaMx
import Derived.Test.YtnhecopgecoloaaCm
namespace Go.Proofs.Ytnhecopgecoloaa
open Hp Sx

def minT : Int := -1152921504606846976
def maxT : Int := 1152921504606846976
def noM : Int := -1152921504606846977
/-- What a gate is. -/
structure GS where
  S : List Ev
  cap : Int
  mark : Int
  shut : Bool
def rng (t : Int) : Bool := decide (minT ≤ t) && decide (t ≤ maxT)
/-- Push's code -/
def GS.pcode (g : GS) (e : Ev) : Int := if g.shut then 101 else if rng e.ts = false then 29 else if e.ts ≤ g.mark then 102 else if e.nm ∈ g.S.map Ev.nm then 103 else if (g.S.length : Int) = g.cap then 104 else 0
def GS.push (g : GS) (e : Ev) : GS := if g.pcode e = 0 then { g with S := put elt g.S e } else g
/-- what is let through, and what is left -/
def thr (m : Int) (S : List Ev) : List Ev := S.takeWhile fun x => decide (x.ts ≤ m)
def lft (m : Int) (S : List Ev) : List Ev := S.dropWhile fun x => decide (x.ts ≤ m)
def GS.acode (g : GS) (m : Int) : Int := if g.shut then 101 else if rng m = false then 106 else if m < g.mark then 105 else 0
def GS.told (g : GS) (m : Int) : List Ev := if g.acode m = 0 then thr m g.S else []
def GS.adv (g : GS) (m : Int) : GS := if g.acode m = 0 then { g with S := lft m g.S, mark := m } else g
def GS.fcode (g : GS) : Int := if g.shut then 101 else 0
def GS.ftold (g : GS) : List Ev := if g.shut then [] else g.S
def GS.flush (g : GS) : GS := if g.shut then g else { g with S := [], mark := maxT, shut := true }
/-- what holds of every gate -/
structure GS.Ok (g : GS) : Prop where
  ris : Rising elt g.S
  len : (g.S.length : Int) ≤ g.cap
  cap : g.cap ≤ 4096
  cap1 : 1 ≤ g.cap
  ts : ∀ x ∈ g.S, g.mark < x.ts ∧ x.ts ≤ maxT
  mark : noM ≤ g.mark ∧ g.mark ≤ maxT
theorem GS.Ok.len' {g : GS} (h : g.Ok) : g.S.length ≤ 4096 := by have := h.len; have := h.cap; omega
theorem room96 {n : Nat} (h : n ≤ 5000) : Room n 96 := ⟨by omega, by omega⟩
theorem room88 {n : Nat} (h : n ≤ 5000) : Room n 88 := ⟨by omega, by omega⟩

/-- the names that the map bears -/
structure Nms (L : List (Nm × Value × Nat)) (clock : Nat) (S : List Ev) : Prop where
  keys : (L.map (·.1)).Perm (S.map Ev.nm)
  vals : ∀ x ∈ L, x.2.1 = .int .i64 1 ∧ x.2.2 < clock
def gfoot (bg r bp : Nat) (sp : Value) (b : Nat) : Prop := b = bg ∨ b = r ∨ PEv.foot bp sp b
/-- The gate behind bg. -/
structure Gt (w : World) (bg r bp : Nat) (sp : Value) (g : GS) (N : Nat) : Prop where
  blk : Blk w bg 83 [.pointer (some ⟨bp, 0, none⟩), .map (some r), .int .i64 g.cap, .int .i64 g.mark, .bool g.shut]
  pile : PEv.Pile w bp sp g.S N
  map : ∃ L clock, Mp w r Nm.cells L clock ∧ Nms L clock g.S
  d1 : bg ≠ r
  d2 : ∀ b, PEv.foot bp sp b → b ≠ bg ∧ b ≠ r
theorem Gt.get {F : Nat → Prop} {w w' : World} {bg r bp : Nat} {sp : Value} {g : GS} {N : Nat} (h : Gt w bg r bp sp g N) (u : Upd F w w') (hn : ∀ b, gfoot bg r bp sp b → ¬ F b) : Gt w' bg r bp sp g N :=
  ⟨h.blk.get u (hn _ (.inl rfl)), h.pile.get u fun b hb => hn b (.inr (.inr hb)), by obtain ⟨L, c, h1, h2⟩ := h.map; exact ⟨L, c, h1.get u (hn r (.inr (.inl rfl))), h2⟩, h.d1, h.d2⟩
theorem Gt.at {w w' : World} {bg r bp : Nat} {sp : Value} {g : GS} {N : Nat} (h : Gt w bg r bp sp g N) (u : Ext w w') : Gt w' bg r bp sp g N := h.get u fun _ _ h => h
theorem Gt.lt {w : World} {bg r bp : Nat} {sp : Value} {g : GS} {N : Nat} (h : Gt w bg r bp sp g N) {b : Nat} (hb : gfoot bg r bp sp b) : b < w.heap.size := by
  rcases hb with rfl | rfl | hb
  · exact h.blk.lt
  · obtain ⟨L, c, h1, _⟩ := h.map; exact h1.lt
  · exact h.pile.lt hb
set_option maxRecDepth 100000 in
theorem key_nm : KeyTy Try.prog 86 Nm.cells := ⟨fun b x w => by cases b <;> kernel_rfl, by kernel_rfl, eq_nm⟩
theorem zero_int (w : World) : (zeroValue 3).run Try.prog w = .ok (.int .i64 0) w := by kernel_rfl

set_option maxRecDepth 100000 in
theorem sound (n : Int) (w : World) : Gets Try.prog 33 [.int .i64 n] w fun v w' => v = .bool (decide (1 ≤ n) && decide (n ≤ 4096)) ∧ Ext w w' := by
  refine ⟨GoFn.h, calls_of_swp 9 Try.func33 Try.ntmps33 rfl (Nat.le_of_ble_eq_true rfl) ?_⟩
  (repeat (first | refine swp_seq ?_ | refine swp_block ?_)); refine swp_region (by kernel_rfl) ?_
  repeat (first | refine x_move (by rfl) ?_ | refine x_as (by rfl) (by rfl) ?_ | refine x_skip (by rfl) ?_ | refine x_fld (by rfl) (by rfl) FldO.h ?_ | refine x_nilck (by rfl) (by rfl) ?_ | refine x_len (by rfl) (by rfl) ElOf.some ?_ | refine x_ext (by rfl) (by rfl) (by rfl) ?_ | refine x_pickT (by rfl) (by rfl) (by rfl) ?_ | refine x_pickF (by rfl) (by rfl) (by rfl) ?_ | refine x_add (by rfl) (by rfl) (by rfl) (by omega) ?_ | refine x_sub (by rfl) (by rfl) (by rfl) (by omega) ?_ | refine x_not (by rfl) (by rfl) ?_)
  refine x_nilw ?_
  (repeat (first | refine swp_seq ?_ | refine swp_block ?_)); refine swp_region (by kernel_rfl) ?_
  repeat (first | refine x_move (by rfl) ?_ | refine x_as (by rfl) (by rfl) ?_ | refine x_skip (by rfl) ?_ | refine x_fld (by rfl) (by rfl) FldO.h ?_ | refine x_nilck (by rfl) (by rfl) ?_ | refine x_len (by rfl) (by rfl) ElOf.some ?_ | refine x_ext (by rfl) (by rfl) (by rfl) ?_ | refine x_pickT (by rfl) (by rfl) (by rfl) ?_ | refine x_pickF (by rfl) (by rfl) (by rfl) ?_ | refine x_add (by rfl) (by rfl) (by rfl) (by omega) ?_ | refine x_sub (by rfl) (by rfl) (by rfl) (by omega) ?_ | refine x_not (by rfl) (by rfl) ?_)
  by_cases h : 1 ≤ n
  · refine x_geqT (by rfl) (by rfl) (by rfl) h ?_
    repeat (first | refine x_move (by rfl) ?_ | refine x_as (by rfl) (by rfl) ?_ | refine x_skip (by rfl) ?_ | refine x_fld (by rfl) (by rfl) FldO.h ?_ | refine x_nilck (by rfl) (by rfl) ?_ | refine x_len (by rfl) (by rfl) ElOf.some ?_ | refine x_ext (by rfl) (by rfl) (by rfl) ?_ | refine x_pickT (by rfl) (by rfl) (by rfl) ?_ | refine x_pickF (by rfl) (by rfl) (by rfl) ?_ | refine x_add (by rfl) (by rfl) (by rfl) (by omega) ?_ | refine x_sub (by rfl) (by rfl) (by rfl) (by omega) ?_ | refine x_not (by rfl) (by rfl) ?_)
    refine x_leq (by rfl) (by rfl) (by rfl) ?_
    repeat (first | refine x_move (by rfl) ?_ | refine x_as (by rfl) (by rfl) ?_ | refine x_skip (by rfl) ?_ | refine x_fld (by rfl) (by rfl) FldO.h ?_ | refine x_nilck (by rfl) (by rfl) ?_ | refine x_len (by rfl) (by rfl) ElOf.some ?_ | refine x_ext (by rfl) (by rfl) (by rfl) ?_ | refine x_pickT (by rfl) (by rfl) (by rfl) ?_ | refine x_pickF (by rfl) (by rfl) (by rfl) ?_ | refine x_add (by rfl) (by rfl) (by rfl) (by omega) ?_ | refine x_sub (by rfl) (by rfl) (by rfl) (by omega) ?_ | refine x_not (by rfl) (by rfl) ?_)
    refine x_nilw ?_
    refine swp_ret ?_; (repeat (first | with_reducible refine r_then ?_ | with_reducible refine r_block ?_ | with_reducible refine r_jump ?_))
    exact post1 rfl rfl ⟨_, rfl, by rw [decide_eq_true h]; rfl, Upd.refl _ _⟩
  · refine x_geqF (by rfl) (by rfl) (by rfl) h ?_
    repeat (first | refine x_move (by rfl) ?_ | refine x_as (by rfl) (by rfl) ?_ | refine x_skip (by rfl) ?_ | refine x_fld (by rfl) (by rfl) FldO.h ?_ | refine x_nilck (by rfl) (by rfl) ?_ | refine x_len (by rfl) (by rfl) ElOf.some ?_ | refine x_ext (by rfl) (by rfl) (by rfl) ?_ | refine x_pickT (by rfl) (by rfl) (by rfl) ?_ | refine x_pickF (by rfl) (by rfl) (by rfl) ?_ | refine x_add (by rfl) (by rfl) (by rfl) (by omega) ?_ | refine x_sub (by rfl) (by rfl) (by rfl) (by omega) ?_ | refine x_not (by rfl) (by rfl) ?_)
    refine x_nilw ?_
    refine swp_ret ?_; (repeat (first | with_reducible refine r_then ?_ | with_reducible refine r_block ?_ | with_reducible refine r_jump ?_))
    exact post1 rfl rfl ⟨_, rfl, by rw [decide_eq_false h]; rfl, Upd.refl _ _⟩
set_option maxRecDepth 100000 in
theorem in_range (n : Int) (w : World) : Gets Try.prog 35 [.int .i64 n] w fun v w' => v = .bool (rng n) ∧ w = w' := by
  refine ⟨GoFn.h, calls_of_swp 9 Try.func35 Try.ntmps35 rfl (Nat.le_of_ble_eq_true rfl) ?_⟩
  (repeat (first | refine swp_seq ?_ | refine swp_block ?_)); refine swp_region (by kernel_rfl) ?_
  repeat (first | refine x_move (by rfl) ?_ | refine x_as (by rfl) (by rfl) ?_ | refine x_skip (by rfl) ?_ | refine x_fld (by rfl) (by rfl) FldO.h ?_ | refine x_nilck (by rfl) (by rfl) ?_ | refine x_len (by rfl) (by rfl) ElOf.some ?_ | refine x_ext (by rfl) (by rfl) (by rfl) ?_ | refine x_pickT (by rfl) (by rfl) (by rfl) ?_ | refine x_pickF (by rfl) (by rfl) (by rfl) ?_ | refine x_add (by rfl) (by rfl) (by rfl) (by omega) ?_ | refine x_sub (by rfl) (by rfl) (by rfl) (by omega) ?_ | refine x_not (by rfl) (by rfl) ?_)
  refine x_nilw ?_
  (repeat (first | refine swp_seq ?_ | refine swp_block ?_)); refine swp_region (by kernel_rfl) ?_
  repeat (first | refine x_move (by rfl) ?_ | refine x_as (by rfl) (by rfl) ?_ | refine x_skip (by rfl) ?_ | refine x_fld (by rfl) (by rfl) FldO.h ?_ | refine x_nilck (by rfl) (by rfl) ?_ | refine x_len (by rfl) (by rfl) ElOf.some ?_ | refine x_ext (by rfl) (by rfl) (by rfl) ?_ | refine x_pickT (by rfl) (by rfl) (by rfl) ?_ | refine x_pickF (by rfl) (by rfl) (by rfl) ?_ | refine x_add (by rfl) (by rfl) (by rfl) (by omega) ?_ | refine x_sub (by rfl) (by rfl) (by rfl) (by omega) ?_ | refine x_not (by rfl) (by rfl) ?_)
  by_cases h : minT ≤ n
  · refine x_geqT (by rfl) (by rfl) (by rfl) h ?_
    repeat (first | refine x_move (by rfl) ?_ | refine x_as (by rfl) (by rfl) ?_ | refine x_skip (by rfl) ?_ | refine x_fld (by rfl) (by rfl) FldO.h ?_ | refine x_nilck (by rfl) (by rfl) ?_ | refine x_len (by rfl) (by rfl) ElOf.some ?_ | refine x_ext (by rfl) (by rfl) (by rfl) ?_ | refine x_pickT (by rfl) (by rfl) (by rfl) ?_ | refine x_pickF (by rfl) (by rfl) (by rfl) ?_ | refine x_add (by rfl) (by rfl) (by rfl) (by omega) ?_ | refine x_sub (by rfl) (by rfl) (by rfl) (by omega) ?_ | refine x_not (by rfl) (by rfl) ?_)
    refine x_leq (by rfl) (by rfl) (by rfl) ?_
    repeat (first | refine x_move (by rfl) ?_ | refine x_as (by rfl) (by rfl) ?_ | refine x_skip (by rfl) ?_ | refine x_fld (by rfl) (by rfl) FldO.h ?_ | refine x_nilck (by rfl) (by rfl) ?_ | refine x_len (by rfl) (by rfl) ElOf.some ?_ | refine x_ext (by rfl) (by rfl) (by rfl) ?_ | refine x_pickT (by rfl) (by rfl) (by rfl) ?_ | refine x_pickF (by rfl) (by rfl) (by rfl) ?_ | refine x_add (by rfl) (by rfl) (by rfl) (by omega) ?_ | refine x_sub (by rfl) (by rfl) (by rfl) (by omega) ?_ | refine x_not (by rfl) (by rfl) ?_)
    refine x_nilw ?_
    refine swp_ret ?_; (repeat (first | with_reducible refine r_then ?_ | with_reducible refine r_block ?_ | with_reducible refine r_jump ?_))
    exact post1 rfl rfl ⟨_, rfl, by unfold rng; rw [decide_eq_true h]; rfl, rfl⟩
  · refine x_geqF (by rfl) (by rfl) (by rfl) h ?_
    repeat (first | refine x_move (by rfl) ?_ | refine x_as (by rfl) (by rfl) ?_ | refine x_skip (by rfl) ?_ | refine x_fld (by rfl) (by rfl) FldO.h ?_ | refine x_nilck (by rfl) (by rfl) ?_ | refine x_len (by rfl) (by rfl) ElOf.some ?_ | refine x_ext (by rfl) (by rfl) (by rfl) ?_ | refine x_pickT (by rfl) (by rfl) (by rfl) ?_ | refine x_pickF (by rfl) (by rfl) (by rfl) ?_ | refine x_add (by rfl) (by rfl) (by rfl) (by omega) ?_ | refine x_sub (by rfl) (by rfl) (by rfl) (by omega) ?_ | refine x_not (by rfl) (by rfl) ?_)
    refine x_nilw ?_
    refine swp_ret ?_; (repeat (first | with_reducible refine r_then ?_ | with_reducible refine r_block ?_ | with_reducible refine r_jump ?_))
    exact post1 rfl rfl ⟨_, rfl, by unfold rng; rw [decide_eq_false h]; rfl, rfl⟩

set_option maxRecDepth 100000 in
theorem g_mark {w : World} {bg r bp : Nat} {sp : Value} {g : GS} {N : Nat} (h : Gt w bg r bp sp g N) : Gets Try.prog 22 [.pointer (some ⟨bg, 0, none⟩)] w fun v w' => v = .int .i64 g.mark ∧ w = w' := by
  refine ⟨GoFn.h, calls_of_swp 7 Try.func22 Try.ntmps22 rfl (Nat.le_of_ble_eq_true rfl) ?_⟩
  (repeat (first | refine swp_seq ?_ | refine swp_block ?_)); refine swp_region (by kernel_rfl) ?_
  repeat (first | refine x_move (by rfl) ?_ | refine x_as (by rfl) (by rfl) ?_ | refine x_skip (by rfl) ?_ | refine x_fld (by rfl) (by rfl) FldO.h ?_ | refine x_nilck (by rfl) (by rfl) ?_ | refine x_len (by rfl) (by rfl) ElOf.some ?_ | refine x_ext (by rfl) (by rfl) (by rfl) ?_ | refine x_pickT (by rfl) (by rfl) (by rfl) ?_ | refine x_pickF (by rfl) (by rfl) (by rfl) ?_ | refine x_add (by rfl) (by rfl) (by rfl) (by omega) ?_ | refine x_sub (by rfl) (by rfl) (by rfl) (by omega) ?_ | refine x_not (by rfl) (by rfl) ?_)
  refine x_nilw ?_
  (repeat (first | refine swp_seq ?_ | refine swp_block ?_)); refine swp_region (by kernel_rfl) ?_
  repeat (first | refine x_move (by rfl) ?_ | refine x_as (by rfl) (by rfl) ?_ | refine x_skip (by rfl) ?_ | refine x_fld (by rfl) (by rfl) FldO.h ?_ | refine x_nilck (by rfl) (by rfl) ?_ | refine x_len (by rfl) (by rfl) ElOf.some ?_ | refine x_ext (by rfl) (by rfl) (by rfl) ?_ | refine x_pickT (by rfl) (by rfl) (by rfl) ?_ | refine x_pickF (by rfl) (by rfl) (by rfl) ?_ | refine x_add (by rfl) (by rfl) (by rfl) (by omega) ?_ | refine x_sub (by rfl) (by rfl) (by rfl) (by omega) ?_ | refine x_not (by rfl) (by rfl) ?_)
  refine w_load (by rfl) (by rfl) (load_one OneT.h h.blk (by rfl)) ?_
  repeat (first | refine x_move (by rfl) ?_ | refine x_as (by rfl) (by rfl) ?_ | refine x_skip (by rfl) ?_ | refine x_fld (by rfl) (by rfl) FldO.h ?_ | refine x_nilck (by rfl) (by rfl) ?_ | refine x_len (by rfl) (by rfl) ElOf.some ?_ | refine x_ext (by rfl) (by rfl) (by rfl) ?_ | refine x_pickT (by rfl) (by rfl) (by rfl) ?_ | refine x_pickF (by rfl) (by rfl) (by rfl) ?_ | refine x_add (by rfl) (by rfl) (by rfl) (by omega) ?_ | refine x_sub (by rfl) (by rfl) (by rfl) (by omega) ?_ | refine x_not (by rfl) (by rfl) ?_)
  refine x_nilw ?_
  refine swp_ret ?_; (repeat (first | with_reducible refine r_then ?_ | with_reducible refine r_block ?_ | with_reducible refine r_jump ?_))
  exact post1 rfl rfl ⟨_, rfl, rfl, rfl⟩
set_option maxRecDepth 100000 in
theorem g_closed {w : World} {bg r bp : Nat} {sp : Value} {g : GS} {N : Nat} (h : Gt w bg r bp sp g N) : Gets Try.prog 24 [.pointer (some ⟨bg, 0, none⟩)] w fun v w' => v = .bool g.shut ∧ w = w' := by
  refine ⟨GoFn.h, calls_of_swp 7 Try.func24 Try.ntmps24 rfl (Nat.le_of_ble_eq_true rfl) ?_⟩
  (repeat (first | refine swp_seq ?_ | refine swp_block ?_)); refine swp_region (by kernel_rfl) ?_
  repeat (first | refine x_move (by rfl) ?_ | refine x_as (by rfl) (by rfl) ?_ | refine x_skip (by rfl) ?_ | refine x_fld (by rfl) (by rfl) FldO.h ?_ | refine x_nilck (by rfl) (by rfl) ?_ | refine x_len (by rfl) (by rfl) ElOf.some ?_ | refine x_ext (by rfl) (by rfl) (by rfl) ?_ | refine x_pickT (by rfl) (by rfl) (by rfl) ?_ | refine x_pickF (by rfl) (by rfl) (by rfl) ?_ | refine x_add (by rfl) (by rfl) (by rfl) (by omega) ?_ | refine x_sub (by rfl) (by rfl) (by rfl) (by omega) ?_ | refine x_not (by rfl) (by rfl) ?_)
  refine x_nilw ?_
  (repeat (first | refine swp_seq ?_ | refine swp_block ?_)); refine swp_region (by kernel_rfl) ?_
  repeat (first | refine x_move (by rfl) ?_ | refine x_as (by rfl) (by rfl) ?_ | refine x_skip (by rfl) ?_ | refine x_fld (by rfl) (by rfl) FldO.h ?_ | refine x_nilck (by rfl) (by rfl) ?_ | refine x_len (by rfl) (by rfl) ElOf.some ?_ | refine x_ext (by rfl) (by rfl) (by rfl) ?_ | refine x_pickT (by rfl) (by rfl) (by rfl) ?_ | refine x_pickF (by rfl) (by rfl) (by rfl) ?_ | refine x_add (by rfl) (by rfl) (by rfl) (by omega) ?_ | refine x_sub (by rfl) (by rfl) (by rfl) (by omega) ?_ | refine x_not (by rfl) (by rfl) ?_)
  refine w_load (by rfl) (by rfl) (load_one OneT.h h.blk (by rfl)) ?_
  repeat (first | refine x_move (by rfl) ?_ | refine x_as (by rfl) (by rfl) ?_ | refine x_skip (by rfl) ?_ | refine x_fld (by rfl) (by rfl) FldO.h ?_ | refine x_nilck (by rfl) (by rfl) ?_ | refine x_len (by rfl) (by rfl) ElOf.some ?_ | refine x_ext (by rfl) (by rfl) (by rfl) ?_ | refine x_pickT (by rfl) (by rfl) (by rfl) ?_ | refine x_pickF (by rfl) (by rfl) (by rfl) ?_ | refine x_add (by rfl) (by rfl) (by rfl) (by omega) ?_ | refine x_sub (by rfl) (by rfl) (by rfl) (by omega) ?_ | refine x_not (by rfl) (by rfl) ?_)
  refine x_nilw ?_
  refine swp_ret ?_; (repeat (first | with_reducible refine r_then ?_ | with_reducible refine r_block ?_ | with_reducible refine r_jump ?_))
  exact post1 rfl rfl ⟨_, rfl, rfl, rfl⟩
set_option maxRecDepth 100000 in
theorem g_len {w : World} {bg r bp : Nat} {sp : Value} {g : GS} {N : Nat} (h : Gt w bg r bp sp g N) : Gets Try.prog 13 [.pointer (some ⟨bg, 0, none⟩)] w fun v w' => v = .int .i64 (g.S.length : Nat) ∧ w = w' := by
  refine ⟨GoFn.h, calls_of_swp 8 Try.func13 Try.ntmps13 rfl (Nat.le_of_ble_eq_true rfl) ?_⟩
  (repeat (first | refine swp_seq ?_ | refine swp_block ?_)); refine swp_region (by kernel_rfl) ?_
  repeat (first | refine x_move (by rfl) ?_ | refine x_as (by rfl) (by rfl) ?_ | refine x_skip (by rfl) ?_ | refine x_fld (by rfl) (by rfl) FldO.h ?_ | refine x_nilck (by rfl) (by rfl) ?_ | refine x_len (by rfl) (by rfl) ElOf.some ?_ | refine x_ext (by rfl) (by rfl) (by rfl) ?_ | refine x_pickT (by rfl) (by rfl) (by rfl) ?_ | refine x_pickF (by rfl) (by rfl) (by rfl) ?_ | refine x_add (by rfl) (by rfl) (by rfl) (by omega) ?_ | refine x_sub (by rfl) (by rfl) (by rfl) (by omega) ?_ | refine x_not (by rfl) (by rfl) ?_)
  refine x_nilw ?_
  (repeat (first | refine swp_seq ?_ | refine swp_block ?_)); refine swp_region (by kernel_rfl) ?_
  repeat (first | refine x_move (by rfl) ?_ | refine x_as (by rfl) (by rfl) ?_ | refine x_skip (by rfl) ?_ | refine x_fld (by rfl) (by rfl) FldO.h ?_ | refine x_nilck (by rfl) (by rfl) ?_ | refine x_len (by rfl) (by rfl) ElOf.some ?_ | refine x_ext (by rfl) (by rfl) (by rfl) ?_ | refine x_pickT (by rfl) (by rfl) (by rfl) ?_ | refine x_pickF (by rfl) (by rfl) (by rfl) ?_ | refine x_add (by rfl) (by rfl) (by rfl) (by omega) ?_ | refine x_sub (by rfl) (by rfl) (by rfl) (by omega) ?_ | refine x_not (by rfl) (by rfl) ?_)
  refine w_load (by rfl) (by rfl) (load_one OneT.h h.blk (by rfl)) ?_
  refine w_call (by rfl) (by rfl) (by rfl) (PEv.len h.pile) ?_
  rintro _ _ ⟨rfl, rfl⟩
  repeat (first | refine x_move (by rfl) ?_ | refine x_as (by rfl) (by rfl) ?_ | refine x_skip (by rfl) ?_ | refine x_fld (by rfl) (by rfl) FldO.h ?_ | refine x_nilck (by rfl) (by rfl) ?_ | refine x_len (by rfl) (by rfl) ElOf.some ?_ | refine x_ext (by rfl) (by rfl) (by rfl) ?_ | refine x_pickT (by rfl) (by rfl) (by rfl) ?_ | refine x_pickF (by rfl) (by rfl) (by rfl) ?_ | refine x_add (by rfl) (by rfl) (by rfl) (by omega) ?_ | refine x_sub (by rfl) (by rfl) (by rfl) (by omega) ?_ | refine x_not (by rfl) (by rfl) ?_)
  refine x_nilw ?_
  refine swp_ret ?_; (repeat (first | with_reducible refine r_then ?_ | with_reducible refine r_block ?_ | with_reducible refine r_jump ?_))
  exact post1 rfl rfl ⟨_, rfl, rfl, rfl⟩
set_option maxRecDepth 100000 in
theorem g_held {w : World} {bg r bp : Nat} {sp : Value} {g : GS} {N : Nat} (h : Gt w bg r bp sp g N) (hl : g.S.length ≤ 4096) : Gets Try.prog 23 [.pointer (some ⟨bg, 0, none⟩)] w fun v w' => PEv.Fresh w w' v g.S := by
  refine ⟨GoFn.h, calls_of_swp 8 Try.func23 Try.ntmps23 rfl (Nat.le_of_ble_eq_true rfl) ?_⟩
  (repeat (first | refine swp_seq ?_ | refine swp_block ?_)); refine swp_region (by kernel_rfl) ?_
  repeat (first | refine x_move (by rfl) ?_ | refine x_as (by rfl) (by rfl) ?_ | refine x_skip (by rfl) ?_ | refine x_fld (by rfl) (by rfl) FldO.h ?_ | refine x_nilck (by rfl) (by rfl) ?_ | refine x_len (by rfl) (by rfl) ElOf.some ?_ | refine x_ext (by rfl) (by rfl) (by rfl) ?_ | refine x_pickT (by rfl) (by rfl) (by rfl) ?_ | refine x_pickF (by rfl) (by rfl) (by rfl) ?_ | refine x_add (by rfl) (by rfl) (by rfl) (by omega) ?_ | refine x_sub (by rfl) (by rfl) (by rfl) (by omega) ?_ | refine x_not (by rfl) (by rfl) ?_)
  refine x_nilw ?_
  (repeat (first | refine swp_seq ?_ | refine swp_block ?_)); refine swp_region (by kernel_rfl) ?_
  repeat (first | refine x_move (by rfl) ?_ | refine x_as (by rfl) (by rfl) ?_ | refine x_skip (by rfl) ?_ | refine x_fld (by rfl) (by rfl) FldO.h ?_ | refine x_nilck (by rfl) (by rfl) ?_ | refine x_len (by rfl) (by rfl) ElOf.some ?_ | refine x_ext (by rfl) (by rfl) (by rfl) ?_ | refine x_pickT (by rfl) (by rfl) (by rfl) ?_ | refine x_pickF (by rfl) (by rfl) (by rfl) ?_ | refine x_add (by rfl) (by rfl) (by rfl) (by omega) ?_ | refine x_sub (by rfl) (by rfl) (by rfl) (by omega) ?_ | refine x_not (by rfl) (by rfl) ?_)
  refine w_load (by rfl) (by rfl) (load_one OneT.h h.blk (by rfl)) ?_
  refine w_call (by rfl) (by rfl) (by rfl) (PEv.sorted elt_ord h.pile (room96 (by omega)) (room88 (by omega)) (by omega)) ?_
  rintro v w' hf
  repeat (first | refine x_move (by rfl) ?_ | refine x_as (by rfl) (by rfl) ?_ | refine x_skip (by rfl) ?_ | refine x_fld (by rfl) (by rfl) FldO.h ?_ | refine x_nilck (by rfl) (by rfl) ?_ | refine x_len (by rfl) (by rfl) ElOf.some ?_ | refine x_ext (by rfl) (by rfl) (by rfl) ?_ | refine x_pickT (by rfl) (by rfl) (by rfl) ?_ | refine x_pickF (by rfl) (by rfl) (by rfl) ?_ | refine x_add (by rfl) (by rfl) (by rfl) (by omega) ?_ | refine x_sub (by rfl) (by rfl) (by rfl) (by omega) ?_ | refine x_not (by rfl) (by rfl) ?_)
  refine x_nilw ?_
  refine swp_ret ?_; (repeat (first | with_reducible refine r_then ?_ | with_reducible refine r_block ?_ | with_reducible refine r_jump ?_))
  exact post1 rfl rfl ⟨_, rfl, hf⟩
def fresh (cap : Int) : GS := ⟨[], cap, noM, false⟩
theorem fresh_ok {cap : Int} (h1 : 1 ≤ cap) (h2 : cap ≤ 4096) : (fresh cap).Ok :=
  ⟨List.Pairwise.nil, by simp [fresh]; omega, h2, h1, fun x hx => by simp [fresh] at hx, by simp [fresh, noM, maxT]⟩
set_option maxRecDepth 100000 in
theorem g_new (cap : Int) (w : World) : Gets Try.prog 11 [.int .i64 cap] w fun v w' =>
    (¬ (1 ≤ cap ∧ cap ≤ 4096) ∧ v = .tuple #[.pointer none, .int .i64 100] ∧ Ext w w') ∨
    ((1 ≤ cap ∧ cap ≤ 4096) ∧ ∃ bg r bp sp, v = .tuple #[.pointer (some ⟨bg, 0, none⟩), .int .i64 0] ∧ Gt w' bg r bp sp (fresh cap) 0 ∧ (∀ b, gfoot bg r bp sp b → w.heap.size ≤ b) ∧ Ext w w') := by
  refine ⟨GoFn.h, calls_of_swp 12 Try.func11 Try.ntmps11 rfl (Nat.le_of_ble_eq_true rfl) ?_⟩
  (repeat (first | refine swp_seq ?_ | refine swp_block ?_)); refine swp_region (by kernel_rfl) ?_
  repeat (first | refine x_move (by rfl) ?_ | refine x_as (by rfl) (by rfl) ?_ | refine x_skip (by rfl) ?_ | refine x_fld (by rfl) (by rfl) FldO.h ?_ | refine x_nilck (by rfl) (by rfl) ?_ | refine x_len (by rfl) (by rfl) ElOf.some ?_ | refine x_ext (by rfl) (by rfl) (by rfl) ?_ | refine x_pickT (by rfl) (by rfl) (by rfl) ?_ | refine x_pickF (by rfl) (by rfl) (by rfl) ?_ | refine x_add (by rfl) (by rfl) (by rfl) (by omega) ?_ | refine x_sub (by rfl) (by rfl) (by rfl) (by omega) ?_ | refine x_not (by rfl) (by rfl) ?_)
  refine x_nilw ?_
  (repeat (first | refine swp_seq ?_ | refine swp_block ?_)); refine swp_region (by kernel_rfl) ?_
  repeat (first | refine x_move (by rfl) ?_ | refine x_as (by rfl) (by rfl) ?_ | refine x_skip (by rfl) ?_ | refine x_fld (by rfl) (by rfl) FldO.h ?_ | refine x_nilck (by rfl) (by rfl) ?_ | refine x_len (by rfl) (by rfl) ElOf.some ?_ | refine x_ext (by rfl) (by rfl) (by rfl) ?_ | refine x_pickT (by rfl) (by rfl) (by rfl) ?_ | refine x_pickF (by rfl) (by rfl) (by rfl) ?_ | refine x_add (by rfl) (by rfl) (by rfl) (by omega) ?_ | refine x_sub (by rfl) (by rfl) (by rfl) (by omega) ?_ | refine x_not (by rfl) (by rfl) ?_)
  refine w_call (by rfl) (by rfl) (by rfl) (sound cap w) ?_
  rintro _ w1 ⟨rfl, u1⟩
  repeat (first | refine x_move (by rfl) ?_ | refine x_as (by rfl) (by rfl) ?_ | refine x_skip (by rfl) ?_ | refine x_fld (by rfl) (by rfl) FldO.h ?_ | refine x_nilck (by rfl) (by rfl) ?_ | refine x_len (by rfl) (by rfl) ElOf.some ?_ | refine x_ext (by rfl) (by rfl) (by rfl) ?_ | refine x_pickT (by rfl) (by rfl) (by rfl) ?_ | refine x_pickF (by rfl) (by rfl) (by rfl) ?_ | refine x_add (by rfl) (by rfl) (by rfl) (by omega) ?_ | refine x_sub (by rfl) (by rfl) (by rfl) (by omega) ?_ | refine x_not (by rfl) (by rfl) ?_)
  refine x_nilw ?_
  by_cases hc : 1 ≤ cap ∧ cap ≤ 4096
  · rw [decide_eq_true hc.1, decide_eq_true hc.2]
    (repeat (first | refine swp_seq ?_ | refine swp_block ?_))
    refine swp_false (by rfl) (swp_skip ?_)
    (repeat (first | with_reducible refine n_then ?_ | with_reducible refine n_block ?_ | with_reducible refine n_jump ?_))
    (repeat (first | refine swp_seq ?_ | refine swp_block ?_)); refine swp_region (by kernel_rfl) ?_
    refine w_call (by rfl) (by rfl) (by rfl) (PEv.new w1) ?_
    rintro _ w2 ⟨bp, rfl, hbp, u2, hp2⟩
    refine w_map Nm.cells (by rfl) (by rfl) ?_
    intro r w3 e3 u3 h3
    repeat (first | refine x_move (by rfl) ?_ | refine x_as (by rfl) (by rfl) ?_ | refine x_skip (by rfl) ?_ | refine x_fld (by rfl) (by rfl) FldO.h ?_ | refine x_nilck (by rfl) (by rfl) ?_ | refine x_len (by rfl) (by rfl) ElOf.some ?_ | refine x_ext (by rfl) (by rfl) (by rfl) ?_ | refine x_pickT (by rfl) (by rfl) (by rfl) ?_ | refine x_pickF (by rfl) (by rfl) (by rfl) ?_ | refine x_add (by rfl) (by rfl) (by rfl) (by omega) ?_ | refine x_sub (by rfl) (by rfl) (by rfl) (by omega) ?_ | refine x_not (by rfl) (by rfl) ?_)
    refine x_build (v := .agg [.pointer (some ⟨bp, 0, none⟩), .map (some r), .int .i64 cap, .int .i64 noM, .bool false].toArray) (by rfl) (by rfl) (fun _ => by kernel_rfl) ?_
    refine w_boxA (by rfl) (by rfl) (by rfl) ?_; intro bg w4 e4 u4 h4
    repeat (first | refine x_move (by rfl) ?_ | refine x_as (by rfl) (by rfl) ?_ | refine x_skip (by rfl) ?_ | refine x_fld (by rfl) (by rfl) FldO.h ?_ | refine x_nilck (by rfl) (by rfl) ?_ | refine x_len (by rfl) (by rfl) ElOf.some ?_ | refine x_ext (by rfl) (by rfl) (by rfl) ?_ | refine x_pickT (by rfl) (by rfl) (by rfl) ?_ | refine x_pickF (by rfl) (by rfl) (by rfl) ?_ | refine x_add (by rfl) (by rfl) (by rfl) (by omega) ?_ | refine x_sub (by rfl) (by rfl) (by rfl) (by omega) ?_ | refine x_not (by rfl) (by rfl) ?_)
    refine x_nilw ?_
    refine swp_ret ?_; (repeat (first | with_reducible refine r_then ?_ | with_reducible refine r_block ?_ | with_reducible refine r_jump ?_))
    have hpl : bp < w2.heap.size := hp2.lt (.inl rfl)
    have s1 := u1.size; have s2 := u2.size; have s3 := u3.size
    have hrl := h3.lt
    refine post2 rfl rfl rfl ⟨_, rfl, .inr ⟨hc, bg, r, bp, .slice none 0 0, rfl, ⟨h4, (hp2.at u3).at u4, ⟨[], 0, h3.at u4, ⟨List.Perm.refl _, fun x hx => by cases hx⟩⟩, by omega, fun b hb => ?_⟩, fun b hb => ?_, ((u1.trans u2).trans u3).trans u4⟩⟩
    · rcases hb with rfl | h
      · exact ⟨by omega, by omega⟩
      · exact h.elim
    · rcases hb with rfl | rfl | rfl | h
      · omega
      · omega
      · omega
      · exact h.elim
  · rw [show (decide (1 ≤ cap) && decide (cap ≤ 4096)) = false by rw [← Bool.decide_and]; exact decide_eq_false hc]
    (repeat (first | refine swp_seq ?_ | refine swp_block ?_))
    refine swp_true (by rfl) ?_
    (repeat (first | refine swp_seq ?_ | refine swp_block ?_)); refine swp_region (by kernel_rfl) ?_
    repeat (first | refine x_move (by rfl) ?_ | refine x_as (by rfl) (by rfl) ?_ | refine x_skip (by rfl) ?_ | refine x_fld (by rfl) (by rfl) FldO.h ?_ | refine x_nilck (by rfl) (by rfl) ?_ | refine x_len (by rfl) (by rfl) ElOf.some ?_ | refine x_ext (by rfl) (by rfl) (by rfl) ?_ | refine x_pickT (by rfl) (by rfl) (by rfl) ?_ | refine x_pickF (by rfl) (by rfl) (by rfl) ?_ | refine x_add (by rfl) (by rfl) (by rfl) (by omega) ?_ | refine x_sub (by rfl) (by rfl) (by rfl) (by omega) ?_ | refine x_not (by rfl) (by rfl) ?_)
    refine x_nilw ?_
    refine swp_ret ?_; (repeat (first | with_reducible refine r_then ?_ | with_reducible refine r_block ?_ | with_reducible refine r_jump ?_))
    exact post2 rfl rfl rfl ⟨_, rfl, .inl ⟨hc, rfl, u1⟩⟩
end Go.Proofs.Ytnhecopgecoloaa
