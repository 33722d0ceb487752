/- api's names and events: what Before and Name compute. No conditions. -/
import Derived.Test.YtpnigekkbmanlaaTab
namespace Go.Proofs.Ytpnigekkbmanlaa
open Sx
structure Nm where
  ts : Int
  id : Int
def Nm.cells (x : Nm) : List Value := [.int .i64 x.ts, .int .u64 x.id]
abbrev Nm.v (x : Nm) : Value := .agg x.cells.toArray
def nlt (x y : Nm) : Bool := decide (x.ts < y.ts) || (decide (x.ts = y.ts) && decide (x.id < y.id))
structure Ev where
  ts : Int
  id : Int
  ty : Int
  a0 : Int
  a1 : Int
  a2 : Int
  a3 : Int
  a4 : Int
  a5 : Int
  a6 : Int
  a7 : Int
def Ev.cells (x : Ev) : List Value := [.int .i64 x.ts, .int .u64 x.id, .int .i64 x.ty, .int .i64 x.a0, .int .i64 x.a1, .int .i64 x.a2, .int .i64 x.a3, .int .i64 x.a4, .int .i64 x.a5, .int .i64 x.a6, .int .i64 x.a7]
abbrev Ev.v (x : Ev) : Value := .agg x.cells.toArray
def Ev.zero : Ev := ⟨0, 0, 0, 0, 0, 0, 0, 0, 0, 0, 0⟩
def Nm.zero : Nm := ⟨0, 0⟩
def Ev.nm (x : Ev) : Nm := ⟨x.ts, x.id⟩
def elt (x y : Ev) : Bool := nlt x.nm y.nm

set_option maxRecDepth 100000 in
theorem name_before (x y : Nm) (w : World) : Gets Try.prog 44 [x.v, y.v] w fun v w' => v = .bool (nlt x y) ∧ Ext w w' := by
  refine ⟨GoFn.h, calls_of_swp 24 Try.func44 Try.ntmps44 rfl (Nat.le_of_ble_eq_true rfl) ?_⟩
  (repeat (first | refine swp_seq ?_ | refine swp_block ?_)); refine swp_region (by kernel_rfl) ?_
  refine w_boxA (by rfl) (by rfl) (by rfl) ?_; intro b0 w0 e0 u0 h0
  refine w_boxA (by rfl) (by rfl) (by rfl) ?_; intro b1 w1 e1 u1 h1
  replace h0 := h0.at u1
  have u := u0.trans u1
  repeat (first | refine x_move (by rfl) ?_ | refine x_as (by rfl) (by rfl) ?_ | refine x_skip (by rfl) ?_ | refine x_fld (by rfl) (by rfl) FldO.h ?_ | refine w_load (by rfl) (by rfl) (load_one OneT.h (by assumption) (by rfl)) ?_ | refine x_nilck (by rfl) (by rfl) ?_ | refine x_len (by rfl) (by rfl) ElOf.some ?_ | refine x_iface (by rfl) (by rfl) NIf.h ?_ | refine x_ext (by rfl) (by rfl) (by rfl) ?_ | refine x_pickT (by rfl) (by rfl) (by rfl) ?_ | refine x_pickF (by rfl) (by rfl) (by rfl) ?_ | refine x_add (by rfl) (by rfl) (by rfl) (by omega) ?_ | refine x_sub (by rfl) (by rfl) (by rfl) (by omega) ?_ | refine x_lss (by rfl) (by rfl) (by rfl) ?_ | refine x_geq (by rfl) (by rfl) (by rfl) ?_ | refine x_leq (by rfl) (by rfl) (by rfl) ?_ | refine x_gtr (by rfl) (by rfl) (by rfl) ?_ | refine x_eql (by rfl) (by rfl) (by rfl) ?_ | refine x_neq (by rfl) (by rfl) (by rfl) ?_ | refine x_not (by rfl) (by rfl) ?_)
  refine x_nilw ?_
  (repeat (first | refine swp_seq ?_ | refine swp_block ?_)); refine swp_region (by kernel_rfl) ?_
  repeat (first | refine x_move (by rfl) ?_ | refine x_as (by rfl) (by rfl) ?_ | refine x_skip (by rfl) ?_ | refine x_fld (by rfl) (by rfl) FldO.h ?_ | refine w_load (by rfl) (by rfl) (load_one OneT.h (by assumption) (by rfl)) ?_ | refine x_nilck (by rfl) (by rfl) ?_ | refine x_len (by rfl) (by rfl) ElOf.some ?_ | refine x_iface (by rfl) (by rfl) NIf.h ?_ | refine x_ext (by rfl) (by rfl) (by rfl) ?_ | refine x_pickT (by rfl) (by rfl) (by rfl) ?_ | refine x_pickF (by rfl) (by rfl) (by rfl) ?_ | refine x_add (by rfl) (by rfl) (by rfl) (by omega) ?_ | refine x_sub (by rfl) (by rfl) (by rfl) (by omega) ?_ | refine x_lss (by rfl) (by rfl) (by rfl) ?_ | refine x_geq (by rfl) (by rfl) (by rfl) ?_ | refine x_leq (by rfl) (by rfl) (by rfl) ?_ | refine x_gtr (by rfl) (by rfl) (by rfl) ?_ | refine x_eql (by rfl) (by rfl) (by rfl) ?_ | refine x_neq (by rfl) (by rfl) (by rfl) ?_ | refine x_not (by rfl) (by rfl) ?_)
  by_cases c1 : x.ts < y.ts
  · rw [decide_eq_true c1]
    repeat (first | refine x_move (by rfl) ?_ | refine x_as (by rfl) (by rfl) ?_ | refine x_skip (by rfl) ?_ | refine x_fld (by rfl) (by rfl) FldO.h ?_ | refine w_load (by rfl) (by rfl) (load_one OneT.h (by assumption) (by rfl)) ?_ | refine x_nilck (by rfl) (by rfl) ?_ | refine x_len (by rfl) (by rfl) ElOf.some ?_ | refine x_iface (by rfl) (by rfl) NIf.h ?_ | refine x_ext (by rfl) (by rfl) (by rfl) ?_ | refine x_pickT (by rfl) (by rfl) (by rfl) ?_ | refine x_pickF (by rfl) (by rfl) (by rfl) ?_ | refine x_add (by rfl) (by rfl) (by rfl) (by omega) ?_ | refine x_sub (by rfl) (by rfl) (by rfl) (by omega) ?_ | refine x_lss (by rfl) (by rfl) (by rfl) ?_ | refine x_geq (by rfl) (by rfl) (by rfl) ?_ | refine x_leq (by rfl) (by rfl) (by rfl) ?_ | refine x_gtr (by rfl) (by rfl) (by rfl) ?_ | refine x_eql (by rfl) (by rfl) (by rfl) ?_ | refine x_neq (by rfl) (by rfl) (by rfl) ?_ | refine x_not (by rfl) (by rfl) ?_)
    refine x_nilw ?_
    refine swp_ret ?_; (repeat (first | with_reducible refine r_then ?_ | with_reducible refine r_block ?_ | with_reducible refine r_jump ?_))
    exact post1 rfl rfl ⟨_, rfl, by simp [nlt, c1, upd, ev], u⟩
  · rw [decide_eq_false c1]
    repeat (first | refine x_move (by rfl) ?_ | refine x_as (by rfl) (by rfl) ?_ | refine x_skip (by rfl) ?_ | refine x_fld (by rfl) (by rfl) FldO.h ?_ | refine w_load (by rfl) (by rfl) (load_one OneT.h (by assumption) (by rfl)) ?_ | refine x_nilck (by rfl) (by rfl) ?_ | refine x_len (by rfl) (by rfl) ElOf.some ?_ | refine x_iface (by rfl) (by rfl) NIf.h ?_ | refine x_ext (by rfl) (by rfl) (by rfl) ?_ | refine x_pickT (by rfl) (by rfl) (by rfl) ?_ | refine x_pickF (by rfl) (by rfl) (by rfl) ?_ | refine x_add (by rfl) (by rfl) (by rfl) (by omega) ?_ | refine x_sub (by rfl) (by rfl) (by rfl) (by omega) ?_ | refine x_lss (by rfl) (by rfl) (by rfl) ?_ | refine x_geq (by rfl) (by rfl) (by rfl) ?_ | refine x_leq (by rfl) (by rfl) (by rfl) ?_ | refine x_gtr (by rfl) (by rfl) (by rfl) ?_ | refine x_eql (by rfl) (by rfl) (by rfl) ?_ | refine x_neq (by rfl) (by rfl) (by rfl) ?_ | refine x_not (by rfl) (by rfl) ?_)
    by_cases c2 : x.ts = y.ts
    · rw [decide_eq_true c2]
      repeat (first | refine x_move (by rfl) ?_ | refine x_as (by rfl) (by rfl) ?_ | refine x_skip (by rfl) ?_ | refine x_fld (by rfl) (by rfl) FldO.h ?_ | refine w_load (by rfl) (by rfl) (load_one OneT.h (by assumption) (by rfl)) ?_ | refine x_nilck (by rfl) (by rfl) ?_ | refine x_len (by rfl) (by rfl) ElOf.some ?_ | refine x_iface (by rfl) (by rfl) NIf.h ?_ | refine x_ext (by rfl) (by rfl) (by rfl) ?_ | refine x_pickT (by rfl) (by rfl) (by rfl) ?_ | refine x_pickF (by rfl) (by rfl) (by rfl) ?_ | refine x_add (by rfl) (by rfl) (by rfl) (by omega) ?_ | refine x_sub (by rfl) (by rfl) (by rfl) (by omega) ?_ | refine x_lss (by rfl) (by rfl) (by rfl) ?_ | refine x_geq (by rfl) (by rfl) (by rfl) ?_ | refine x_leq (by rfl) (by rfl) (by rfl) ?_ | refine x_gtr (by rfl) (by rfl) (by rfl) ?_ | refine x_eql (by rfl) (by rfl) (by rfl) ?_ | refine x_neq (by rfl) (by rfl) (by rfl) ?_ | refine x_not (by rfl) (by rfl) ?_)
      refine x_nilw ?_
      refine swp_ret ?_; (repeat (first | with_reducible refine r_then ?_ | with_reducible refine r_block ?_ | with_reducible refine r_jump ?_))
      exact post1 rfl rfl ⟨_, rfl, by simp [nlt, c2, upd, ev], u⟩
    · rw [decide_eq_false c2]
      repeat (first | refine x_move (by rfl) ?_ | refine x_as (by rfl) (by rfl) ?_ | refine x_skip (by rfl) ?_ | refine x_fld (by rfl) (by rfl) FldO.h ?_ | refine w_load (by rfl) (by rfl) (load_one OneT.h (by assumption) (by rfl)) ?_ | refine x_nilck (by rfl) (by rfl) ?_ | refine x_len (by rfl) (by rfl) ElOf.some ?_ | refine x_iface (by rfl) (by rfl) NIf.h ?_ | refine x_ext (by rfl) (by rfl) (by rfl) ?_ | refine x_pickT (by rfl) (by rfl) (by rfl) ?_ | refine x_pickF (by rfl) (by rfl) (by rfl) ?_ | refine x_add (by rfl) (by rfl) (by rfl) (by omega) ?_ | refine x_sub (by rfl) (by rfl) (by rfl) (by omega) ?_ | refine x_lss (by rfl) (by rfl) (by rfl) ?_ | refine x_geq (by rfl) (by rfl) (by rfl) ?_ | refine x_leq (by rfl) (by rfl) (by rfl) ?_ | refine x_gtr (by rfl) (by rfl) (by rfl) ?_ | refine x_eql (by rfl) (by rfl) (by rfl) ?_ | refine x_neq (by rfl) (by rfl) (by rfl) ?_ | refine x_not (by rfl) (by rfl) ?_)
      refine x_nilw ?_
      refine swp_ret ?_; (repeat (first | with_reducible refine r_then ?_ | with_reducible refine r_block ?_ | with_reducible refine r_jump ?_))
      exact post1 rfl rfl ⟨_, rfl, by simp [nlt, c1, c2, upd, ev], u⟩

end Go.Proofs.Ytpnigekkbmanlaa
