/- The law's own questions: the same, where, rising, within. Conditions: what is read. -/
import Derived.Test.YtpnigekkbmanlaaTa
import Derived.Test.YtpnigekkbmanlaaLEv
import Derived.Test.YtpnigekkbmanlaaMv
namespace Go.Proofs.Ytpnigekkbmanlaa
open Sx Hp

/-- A list of what waits, as it is read. -/
structure RL (w : World) (v : Value) (xs : List Wt) : Prop where
  rd : Rd w 5 v xs.length (fl Wt.cells xs)
  each : ∀ x ∈ xs, x.Rdy w
theorem RL.at {w w' : World} {v : Value} {xs : List Wt} (h : RL w v xs) (u : Ext w w') : RL w' v xs := ⟨h.rd.at u, fun x hx => (h.each x hx).at u⟩
theorem Lst.rl {w0 w : World} {v : Value} {xs : List Wt} (h : Lst tWt 40 w0 w v xs) : RL w v xs := ⟨h.own.rd, h.each⟩

set_option maxHeartbeats 1000000 in
set_option maxRecDepth 100000 in
theorem same_waiting (x y : Wt) (w : World) (hx : x.Rdy w) (hy : y.Rdy w) (hs : x.says = y.says) : Gets Try.prog 23 [x.v, y.v] w fun v w' => v = .bool true ∧ Ext w w' := by
  have hsm : x.m.says = y.m.says := congrArg Prod.fst hs
  have hse : x.bs.map El.evs = y.bs.map El.evs := congrArg Prod.snd hs
  have hlb : x.bs.length = y.bs.length := by simpa using congrArg List.length hse
  have hsb := hx.sb
  refine ⟨GoFn.h, calls_of_swp 40 Try.func23 Try.ntmps23 rfl (Nat.le_of_ble_eq_true rfl) ?_⟩
  (repeat (first | refine swp_seq ?_ | refine swp_block ?_)); refine swp_region (by kernel_rfl) ?_
  refine w_boxA (by rfl) (by rfl) (by rfl) ?_; intro b0 w0 e0 u0 h0
  refine w_boxA (by rfl) (by rfl) (by rfl) ?_; intro b1 w1 e1 u1 h1
  replace h0 : Blk w1 b0 40 x.cells := h0.at u1
  replace h1 : Blk w1 b1 40 y.cells := h1
  have u := u0.trans u1
  have rb1 := hx.rd.at u
  have rb2 := hy.rd.at u
  repeat (first | refine x_move (by rfl) ?_ | refine x_as (by rfl) (by rfl) ?_ | refine x_skip (by rfl) ?_ | refine x_fld (by rfl) (by rfl) FldO.h ?_ | refine w_load (by rfl) (by rfl) (load_one OneT.h (by assumption) (by rfl)) ?_ | refine x_nilck (by rfl) (by rfl) ?_ | refine x_len (by rfl) (by rfl) ElOf.some ?_ | refine x_iface (by rfl) (by rfl) NIf.h ?_ | refine x_ext (by rfl) (by rfl) (by rfl) ?_ | refine x_pickT (by rfl) (by rfl) (by rfl) ?_ | refine x_pickF (by rfl) (by rfl) (by rfl) ?_ | refine x_add (by rfl) (by rfl) (by rfl) (by omega) ?_ | refine x_sub (by rfl) (by rfl) (by rfl) (by omega) ?_ | refine x_lss (by rfl) (by rfl) (by rfl) ?_ | refine x_geq (by rfl) (by rfl) (by rfl) ?_ | refine x_leq (by rfl) (by rfl) (by rfl) ?_ | refine x_gtr (by rfl) (by rfl) (by rfl) ?_ | refine x_eql (by rfl) (by rfl) (by rfl) ?_ | refine x_neq (by rfl) (by rfl) (by rfl) ?_ | refine x_not (by rfl) (by rfl) ?_)
  refine x_nilw ?_
  (repeat (first | refine swp_seq ?_ | refine swp_block ?_)); refine swp_region (by kernel_rfl) ?_
  repeat (first | refine x_move (by rfl) ?_ | refine x_as (by rfl) (by rfl) ?_ | refine x_skip (by rfl) ?_ | refine x_fld (by rfl) (by rfl) FldO.h ?_ | refine x_nilck (by rfl) (by rfl) ?_ | refine x_len (by rfl) (by rfl) ElOf.some ?_ | refine x_ext (by rfl) (by rfl) (by rfl) ?_ | refine x_pickT (by rfl) (by rfl) (by rfl) ?_ | refine x_pickF (by rfl) (by rfl) (by rfl) ?_ | refine x_add (by rfl) (by rfl) (by rfl) (by omega) ?_ | refine x_sub (by rfl) (by rfl) (by rfl) (by omega) ?_ | refine x_not (by rfl) (by rfl) ?_)
  refine w_load (by rfl) (by rfl) (load_agg (xs := x.m.cells) AggT.h h0 (by rfl) (by rfl)) ?_
  repeat (first | refine x_move (by rfl) ?_ | refine x_as (by rfl) (by rfl) ?_ | refine x_skip (by rfl) ?_ | refine x_fld (by rfl) (by rfl) FldO.h ?_ | refine x_nilck (by rfl) (by rfl) ?_ | refine x_len (by rfl) (by rfl) ElOf.some ?_ | refine x_ext (by rfl) (by rfl) (by rfl) ?_ | refine x_pickT (by rfl) (by rfl) (by rfl) ?_ | refine x_pickF (by rfl) (by rfl) (by rfl) ?_ | refine x_add (by rfl) (by rfl) (by rfl) (by omega) ?_ | refine x_sub (by rfl) (by rfl) (by rfl) (by omega) ?_ | refine x_not (by rfl) (by rfl) ?_)
  refine w_load (by rfl) (by rfl) (load_agg (xs := y.m.cells) AggT.h h1 (by rfl) (by rfl)) ?_
  refine w_call (by rfl) (by rfl) (by rfl) (same_match x.m y.m w1 (hx.m.at u) (hy.m.at u) hsm) ?_
  rintro _ w2 ⟨rfl, u2⟩
  repeat (first | refine x_move (by rfl) ?_ | refine x_as (by rfl) (by rfl) ?_ | refine x_skip (by rfl) ?_ | refine x_fld (by rfl) (by rfl) FldO.h ?_ | refine x_nilck (by rfl) (by rfl) ?_ | refine x_len (by rfl) (by rfl) ElOf.some ?_ | refine x_ext (by rfl) (by rfl) (by rfl) ?_ | refine x_pickT (by rfl) (by rfl) (by rfl) ?_ | refine x_pickF (by rfl) (by rfl) (by rfl) ?_ | refine x_add (by rfl) (by rfl) (by rfl) (by omega) ?_ | refine x_sub (by rfl) (by rfl) (by rfl) (by omega) ?_ | refine x_not (by rfl) (by rfl) ?_)
  refine w_load (by rfl) (by rfl) (load_one (v := .slice x.ba x.bs.length x.bc) OneT.h (h0.at u2) (by rfl)) ?_
  repeat (first | refine x_move (by rfl) ?_ | refine x_as (by rfl) (by rfl) ?_ | refine x_skip (by rfl) ?_ | refine x_fld (by rfl) (by rfl) FldO.h ?_ | refine x_nilck (by rfl) (by rfl) ?_ | refine x_len (by rfl) (by rfl) ElOf.some ?_ | refine x_ext (by rfl) (by rfl) (by rfl) ?_ | refine x_pickT (by rfl) (by rfl) (by rfl) ?_ | refine x_pickF (by rfl) (by rfl) (by rfl) ?_ | refine x_add (by rfl) (by rfl) (by rfl) (by omega) ?_ | refine x_sub (by rfl) (by rfl) (by rfl) (by omega) ?_ | refine x_not (by rfl) (by rfl) ?_)
  refine w_load (by rfl) (by rfl) (load_one (v := .slice y.ba y.bs.length y.bc) OneT.h (h1.at u2) (by rfl)) ?_
  repeat (first | refine x_move (by rfl) ?_ | refine x_as (by rfl) (by rfl) ?_ | refine x_skip (by rfl) ?_ | refine x_fld (by rfl) (by rfl) FldO.h ?_ | refine x_nilck (by rfl) (by rfl) ?_ | refine x_len (by rfl) (by rfl) ElOf.some ?_ | refine x_ext (by rfl) (by rfl) (by rfl) ?_ | refine x_pickT (by rfl) (by rfl) (by rfl) ?_ | refine x_pickF (by rfl) (by rfl) (by rfl) ?_ | refine x_add (by rfl) (by rfl) (by rfl) (by omega) ?_ | refine x_sub (by rfl) (by rfl) (by rfl) (by omega) ?_ | refine x_not (by rfl) (by rfl) ?_)
  refine x_neqF (by rfl) (by rfl) (by rfl) (by omega) ?_
  repeat (first | refine x_move (by rfl) ?_ | refine x_as (by rfl) (by rfl) ?_ | refine x_skip (by rfl) ?_ | refine x_fld (by rfl) (by rfl) FldO.h ?_ | refine x_nilck (by rfl) (by rfl) ?_ | refine x_len (by rfl) (by rfl) ElOf.some ?_ | refine x_ext (by rfl) (by rfl) (by rfl) ?_ | refine x_pickT (by rfl) (by rfl) (by rfl) ?_ | refine x_pickF (by rfl) (by rfl) (by rfl) ?_ | refine x_add (by rfl) (by rfl) (by rfl) (by omega) ?_ | refine x_sub (by rfl) (by rfl) (by rfl) (by omega) ?_ | refine x_not (by rfl) (by rfl) ?_)
  refine x_nilw ?_
  replace h0 := h0.at u2
  replace h1 := h1.at u2
  replace rb1 := rb1.at u2
  replace rb2 := rb2.at u2
  have u02 := u.trans u2
  refine swp_fit [(2, .pointer (some ⟨b0, 0, none⟩)), (3, .pointer (some ⟨b1, 0, none⟩)), (20, .bool false)] ⟨rfl, rfl, rfl, trivial⟩ fun ρ => ?_
  (repeat (first | refine swp_seq ?_ | refine swp_block ?_))
  refine swp_false (by rfl) (swp_skip ?_)
  (repeat (first | refine swp_seq ?_ | refine swp_block ?_)); refine swp_region (by kernel_rfl) ?_
  repeat (first | refine x_move (by rfl) ?_ | refine x_as (by rfl) (by rfl) ?_ | refine x_skip (by rfl) ?_ | refine x_fld (by rfl) (by rfl) FldO.h ?_)
  refine x_nilw ?_
  (repeat (first | refine swp_seq ?_ | refine swp_block ?_))
  refine swp_loop (fun (i : Nat) σ w3 => At σ [(2, .pointer (some ⟨b0, 0, none⟩)), (3, .pointer (some ⟨b1, 0, none⟩)), (5, .int .i64 (i : Nat))] ∧ i ≤ x.bs.length ∧ Ext w2 w3) (fun i => x.bs.length - i) 0 ⟨at_ ⟨rfl, rfl, rfl, trivial⟩, by omega, Upd.refl _ _⟩ ?_
  rintro i σ w3 ⟨⟨ρ, rfl⟩, hi, u3⟩
  have g0 := h0.at u3
  have g1 := h1.at u3
  have u03 := u02.trans u3
  (repeat (first | refine swp_seq ?_ | refine swp_block ?_)); refine swp_region (by kernel_rfl) ?_
  repeat (first | refine x_move (by rfl) ?_ | refine x_as (by rfl) (by rfl) ?_ | refine x_skip (by rfl) ?_ | refine x_fld (by rfl) (by rfl) FldO.h ?_)
  refine w_load (by rfl) (by rfl) (load_one (v := .slice x.ba x.bs.length x.bc) OneT.h g0 (by rfl)) ?_
  repeat (first | refine x_move (by rfl) ?_ | refine x_as (by rfl) (by rfl) ?_ | refine x_len (by rfl) (by rfl) ElOf.some ?_ | refine x_add (by rfl) (by rfl) (by rfl) (by omega) ?_ | refine x_lss (by rfl) (by rfl) (by rfl) ?_)
  refine x_nilw ?_
  (repeat (first | refine swp_seq ?_ | refine swp_block ?_))
  refine swp_if (by rfl) (fun h => swp_skip ?_) (fun h => ?_)
  · have hj1 : i < x.bs.length := by omega
    have hj2 : i < y.bs.length := by omega
    obtain ⟨e, he⟩ := nthE hj1
    obtain ⟨f, hf⟩ := nthE hj2
    have hef : e.evs = f.evs := by
      have h1 : (x.bs.map El.evs)[i]? = some e.evs := by rw [List.getElem?_map, he]; rfl
      have h2 : (y.bs.map El.evs)[i]? = some f.evs := by rw [List.getElem?_map, hf]; rfl
      rw [hse, h2] at h1
      injection h1 with h1
      exact h1.symm
    have eR := hx.each e (List.mem_of_getElem? he)
    have fR := hy.each f (List.mem_of_getElem? hf)
    have hes := eR.sm
    obtain ⟨p1, o1, d1, he1, -, -⟩ := rb1.pos (by omega)
    simp only [Value.slice.injEq] at he1
    obtain ⟨ea1, _, rfl⟩ := he1
    obtain ⟨p2, o2, d2, he2, -, -⟩ := rb2.pos (by omega)
    simp only [Value.slice.injEq] at he2
    obtain ⟨ea2, _, rfl⟩ := he2
    have r1 := rb1.at u3
    have r2 := rb2.at u3
    rw [ea1] at r1
    rw [ea2] at r2
    (repeat (first | with_reducible refine n_then ?_ | with_reducible refine n_block ?_ | with_reducible refine n_jump ?_))
    refine swp_fit [(2, .pointer (some ⟨b0, 0, none⟩)), (3, .pointer (some ⟨b1, 0, none⟩)), (5, .int .i64 (i : Nat))] ⟨rfl, rfl, rfl, trivial⟩ fun ρ => ?_
    (repeat (first | refine swp_seq ?_ | refine swp_block ?_)); refine swp_draw (Ext w3) [] Mixed.h (by kernel_rfl) (by kernel_rfl) (ext_drew w3) ?_
    repeat (first | refine x_move (by rfl) ?_ | refine x_as (by rfl) (by rfl) ?_ | refine x_skip (by rfl) ?_ | refine x_fld (by rfl) (by rfl) FldO.h ?_)
    refine q_load (by rfl) (by rfl) (by rfl) (fun w' hw' => load_one (v := .slice (some ⟨p1, o1, none⟩) x.bs.length x.bc) OneT.h (g0.at hw') (by rw [← ea1]; rfl)) ?_
    repeat (first | refine x_move (by rfl) ?_ | refine x_as (by rfl) (by rfl) ?_ | refine x_skip (by rfl) ?_ | refine x_fld (by rfl) (by rfl) FldO.h ?_)
    refine x_idx i (by rfl) (by rfl) (by rfl) ElSz.h rfl hj1 ?_
    refine q_load (by rfl) (by rfl) (by rfl) (fun w' hw' => load_one_cell OneT.h (rd_cell (v := .slice e.a e.evs.length e.c) (j := 0) el_len (r1.at hw') he rfl rfl rfl)) ?_
    repeat (first | refine x_move (by rfl) ?_ | refine x_as (by rfl) (by rfl) ?_ | refine x_skip (by rfl) ?_ | refine x_fld (by rfl) (by rfl) FldO.h ?_)
    refine q_load (by rfl) (by rfl) (by rfl) (fun w' hw' => load_one (v := .slice (some ⟨p2, o2, none⟩) y.bs.length y.bc) OneT.h (g1.at hw') (by rw [← ea2]; rfl)) ?_
    repeat (first | refine x_move (by rfl) ?_ | refine x_as (by rfl) (by rfl) ?_ | refine x_skip (by rfl) ?_ | refine x_fld (by rfl) (by rfl) FldO.h ?_)
    refine x_idx i (by rfl) (by rfl) (by rfl) ElSz.h rfl hj2 ?_
    refine q_load (by rfl) (by rfl) (by rfl) (fun w' hw' => load_one_cell OneT.h (rd_cell (v := .slice f.a f.evs.length f.c) (j := 0) el_len (r2.at hw') hf rfl rfl rfl)) ?_
    refine q_call (v := .bool true) (by rfl) (by rfl) (by rfl) (fun w' hw' => (LEv.same (xs := e.evs) ((eR.rd.at u03).at hw') (by have := (fR.rd.at u03).at hw'; rw [← hef] at this ⊢; exact this) (by omega)).mono fun v w'' h => ⟨h.1, hw'.trans h.2⟩) ?_
    repeat (first | refine x_move (by rfl) ?_ | refine x_as (by rfl) (by rfl) ?_ | refine x_skip (by rfl) ?_ | refine x_fld (by rfl) (by rfl) FldO.h ?_ | refine x_nilck (by rfl) (by rfl) ?_ | refine x_len (by rfl) (by rfl) ElOf.some ?_ | refine x_ext (by rfl) (by rfl) (by rfl) ?_ | refine x_pickT (by rfl) (by rfl) (by rfl) ?_ | refine x_pickF (by rfl) (by rfl) (by rfl) ?_ | refine x_add (by rfl) (by rfl) (by rfl) (by omega) ?_ | refine x_sub (by rfl) (by rfl) (by rfl) (by omega) ?_ | refine x_not (by rfl) (by rfl) ?_)
    refine x_nil fun w4 u4 => ?_
    (repeat (first | refine swp_seq ?_ | refine swp_block ?_))
    refine swp_false (by rfl) (swp_skip ?_)
    (repeat (first | with_reducible refine n_then ?_ | with_reducible refine n_block ?_ | with_reducible refine n_jump ?_))
    (repeat (first | refine swp_seq ?_ | refine swp_block ?_)); refine swp_region (by kernel_rfl) ?_
    repeat (first | refine x_move (by rfl) ?_ | refine x_as (by rfl) (by rfl) ?_ | refine x_len (by rfl) (by rfl) ElOf.some ?_ | refine x_add (by rfl) (by rfl) (by rfl) (by omega) ?_ | refine x_lss (by rfl) (by rfl) (by rfl) ?_)
    refine x_nilw ?_
    exact ⟨i + 1, ⟨at_ ⟨rfl, rfl, rfl, trivial⟩, hj1, u3.trans u4⟩, by omega⟩
  · refine swp_exit ?_; (repeat (first | with_reducible refine e_then ?_ | with_reducible refine e_jump ?_)); refine e_block ?_; (repeat (first | with_reducible refine n_then ?_ | with_reducible refine n_block ?_ | with_reducible refine n_jump ?_))
    (repeat (first | refine swp_seq ?_ | refine swp_block ?_)); refine swp_region (by kernel_rfl) ?_
    repeat (first | refine x_move (by rfl) ?_ | refine x_as (by rfl) (by rfl) ?_ | refine x_len (by rfl) (by rfl) ElOf.some ?_ | refine x_add (by rfl) (by rfl) (by rfl) (by omega) ?_ | refine x_lss (by rfl) (by rfl) (by rfl) ?_)
    refine x_nilw ?_
    refine swp_ret ?_; (repeat (first | with_reducible refine r_then ?_ | with_reducible refine r_block ?_ | with_reducible refine r_jump ?_))
    exact post1 rfl rfl ⟨_, rfl, rfl, u03⟩

set_option maxHeartbeats 1000000 in
set_option maxRecDepth 100000 in
theorem same_all {w : World} {s1 s2 : Value} {xs ys : List Wt} (h1 : RL w s1 xs) (h2 : RL w s2 ys) (hs : xs.map Wt.says = ys.map Wt.says) (hl : xs.length ≤ 9223372036854775807) :
    Gets Try.prog 25 [s1, s2] w fun v w' => v = .bool true ∧ Ext w w' := by
  have hlen : xs.length = ys.length := by simpa using congrArg List.length hs
  have r1 := h1.rd
  have r2 := h2.rd
  obtain ⟨a1, c1, rfl⟩ := r1.slice
  obtain ⟨a2, c2, rfl⟩ := r2.slice
  refine ⟨GoFn.h, calls_of_swp 27 Try.func25 Try.ntmps25 rfl (Nat.le_of_ble_eq_true rfl) ?_⟩
  (repeat (first | refine swp_seq ?_ | refine swp_block ?_)); refine swp_region (by kernel_rfl) ?_
  repeat (first | refine x_move (by rfl) ?_ | refine x_as (by rfl) (by rfl) ?_ | refine x_len (by rfl) (by rfl) ElOf.some ?_ | refine x_add (by rfl) (by rfl) (by rfl) (by omega) ?_ | refine x_lss (by rfl) (by rfl) (by rfl) ?_)
  refine x_nilw ?_
  (repeat (first | refine swp_seq ?_ | refine swp_block ?_)); refine swp_region (by kernel_rfl) ?_
  repeat (first | refine x_move (by rfl) ?_ | refine x_as (by rfl) (by rfl) ?_ | refine x_skip (by rfl) ?_ | refine x_fld (by rfl) (by rfl) FldO.h ?_ | refine w_load (by rfl) (by rfl) (load_one OneT.h (by assumption) (by rfl)) ?_ | refine x_nilck (by rfl) (by rfl) ?_ | refine x_len (by rfl) (by rfl) ElOf.some ?_ | refine x_iface (by rfl) (by rfl) NIf.h ?_ | refine x_ext (by rfl) (by rfl) (by rfl) ?_ | refine x_pickT (by rfl) (by rfl) (by rfl) ?_ | refine x_pickF (by rfl) (by rfl) (by rfl) ?_ | refine x_add (by rfl) (by rfl) (by rfl) (by omega) ?_ | refine x_sub (by rfl) (by rfl) (by rfl) (by omega) ?_ | refine x_lss (by rfl) (by rfl) (by rfl) ?_ | refine x_geq (by rfl) (by rfl) (by rfl) ?_ | refine x_leq (by rfl) (by rfl) (by rfl) ?_ | refine x_gtr (by rfl) (by rfl) (by rfl) ?_ | refine x_eql (by rfl) (by rfl) (by rfl) ?_ | refine x_neq (by rfl) (by rfl) (by rfl) ?_ | refine x_not (by rfl) (by rfl) ?_)
  refine x_nilw ?_
  (repeat (first | refine swp_seq ?_ | refine swp_block ?_))
  refine swp_if (by rfl) (fun h0 => absurd (by omega) h0) (fun _ => swp_skip ?_)
  (repeat (first | refine swp_seq ?_ | refine swp_block ?_)); refine swp_region (by kernel_rfl) ?_
  repeat (first | refine x_move (by rfl) ?_ | refine x_as (by rfl) (by rfl) ?_ | refine x_len (by rfl) (by rfl) ElOf.some ?_ | refine x_add (by rfl) (by rfl) (by rfl) (by omega) ?_ | refine x_lss (by rfl) (by rfl) (by rfl) ?_)
  refine x_nilw ?_
  (repeat (first | refine swp_seq ?_ | refine swp_block ?_))
  refine swp_loop (fun (i : Nat) σ w1 => At σ [(0, .slice a1 xs.length c1), (1, .slice a2 ys.length c2), (5, .int .i64 (i : Nat))] ∧ i ≤ xs.length ∧ Ext w w1) (fun i => xs.length - i) 0 ⟨at_ ⟨rfl, rfl, rfl, trivial⟩, by omega, Upd.refl _ _⟩ ?_
  rintro i σ w1 ⟨⟨ρ, rfl⟩, hi, u1⟩
  (repeat (first | refine swp_seq ?_ | refine swp_block ?_)); refine swp_region (by kernel_rfl) ?_
  repeat (first | refine x_move (by rfl) ?_ | refine x_as (by rfl) (by rfl) ?_ | refine x_len (by rfl) (by rfl) ElOf.some ?_ | refine x_add (by rfl) (by rfl) (by rfl) (by omega) ?_ | refine x_lss (by rfl) (by rfl) (by rfl) ?_)
  refine x_nilw ?_
  (repeat (first | refine swp_seq ?_ | refine swp_block ?_))
  refine swp_if (by rfl) (fun h0 => swp_skip ?_) (fun h0 => ?_)
  · have hi' : i < xs.length := by omega
    obtain ⟨x, hx⟩ := nthE hi'
    obtain ⟨y, hy⟩ := nthE (L := ys) (i := i) (by omega)
    have hxy : x.says = y.says := by
      have e1 : (xs.map Wt.says)[i]? = some x.says := by rw [List.getElem?_map, hx]; rfl
      have e2 : (ys.map Wt.says)[i]? = some y.says := by rw [List.getElem?_map, hy]; rfl
      rw [hs, e2] at e1
      injection e1 with e1
      exact e1.symm
    obtain ⟨b1, o1, d1, he1, -, -⟩ := r1.pos (by omega)
    simp only [Value.slice.injEq] at he1
    obtain ⟨rfl, _, rfl⟩ := he1
    obtain ⟨b2, o2, d2, he2, -, -⟩ := r2.pos (by omega)
    simp only [Value.slice.injEq] at he2
    obtain ⟨rfl, _, rfl⟩ := he2
    have vx := (h1.each x (List.mem_of_getElem? hx)).at u1
    have vy := (h2.each y (List.mem_of_getElem? hy)).at u1
    (repeat (first | with_reducible refine n_then ?_ | with_reducible refine n_block ?_ | with_reducible refine n_jump ?_))
    (repeat (first | refine swp_seq ?_ | refine swp_block ?_)); refine swp_draw (Ext w1) [] Mixed.h (by kernel_rfl) (by kernel_rfl) (ext_drew w1) ?_
    repeat (first | refine x_move (by rfl) ?_ | refine x_as (by rfl) (by rfl) ?_ | refine x_len (by rfl) (by rfl) ElOf.some ?_ | refine x_add (by rfl) (by rfl) (by rfl) (by omega) ?_ | refine x_lss (by rfl) (by rfl) (by rfl) ?_)
    refine x_idx i (by rfl) (by rfl) (by rfl) ElSz.h rfl hi' ?_
    refine q_load (by rfl) (by rfl) (by rfl) (fun w' hw' => rd_load wt_len AggT.h ((r1.at u1).at hw') hx rfl rfl) ?_
    repeat (first | refine x_move (by rfl) ?_ | refine x_as (by rfl) (by rfl) ?_ | refine x_len (by rfl) (by rfl) ElOf.some ?_ | refine x_add (by rfl) (by rfl) (by rfl) (by omega) ?_ | refine x_lss (by rfl) (by rfl) (by rfl) ?_)
    refine x_idx i (by rfl) (by rfl) (by rfl) ElSz.h rfl (by omega) ?_
    refine q_load (by rfl) (by rfl) (by rfl) (fun w' hw' => rd_load wt_len AggT.h ((r2.at u1).at hw') hy rfl rfl) ?_
    refine q_call (v := .bool true) (by rfl) (by rfl) (by rfl) (fun w' hw' => (same_waiting x y w' (vx.at hw') (vy.at hw') hxy).mono fun v w'' h => ⟨h.1, hw'.trans h.2⟩) ?_
    repeat (first | refine x_move (by rfl) ?_ | refine x_as (by rfl) (by rfl) ?_ | refine x_skip (by rfl) ?_ | refine x_fld (by rfl) (by rfl) FldO.h ?_ | refine x_nilck (by rfl) (by rfl) ?_ | refine x_len (by rfl) (by rfl) ElOf.some ?_ | refine x_ext (by rfl) (by rfl) (by rfl) ?_ | refine x_pickT (by rfl) (by rfl) (by rfl) ?_ | refine x_pickF (by rfl) (by rfl) (by rfl) ?_ | refine x_add (by rfl) (by rfl) (by rfl) (by omega) ?_ | refine x_sub (by rfl) (by rfl) (by rfl) (by omega) ?_ | refine x_not (by rfl) (by rfl) ?_)
    refine x_nil fun w2 u2 => ?_
    (repeat (first | refine swp_seq ?_ | refine swp_block ?_))
    refine swp_false (by rfl) (swp_skip ?_)
    (repeat (first | with_reducible refine n_then ?_ | with_reducible refine n_block ?_ | with_reducible refine n_jump ?_))
    (repeat (first | refine swp_seq ?_ | refine swp_block ?_)); refine swp_region (by kernel_rfl) ?_
    repeat (first | refine x_move (by rfl) ?_ | refine x_as (by rfl) (by rfl) ?_ | refine x_len (by rfl) (by rfl) ElOf.some ?_ | refine x_add (by rfl) (by rfl) (by rfl) (by omega) ?_ | refine x_lss (by rfl) (by rfl) (by rfl) ?_)
    refine x_nilw ?_
    exact ⟨i + 1, ⟨at_ ⟨rfl, rfl, rfl, trivial⟩, by omega, u1.trans u2⟩, by omega⟩
  · refine swp_exit ?_; (repeat (first | with_reducible refine e_then ?_ | with_reducible refine e_jump ?_)); refine e_block ?_; (repeat (first | with_reducible refine n_then ?_ | with_reducible refine n_block ?_ | with_reducible refine n_jump ?_))
    (repeat (first | refine swp_seq ?_ | refine swp_block ?_)); refine swp_region (by kernel_rfl) ?_
    repeat (first | refine x_move (by rfl) ?_ | refine x_as (by rfl) (by rfl) ?_ | refine x_len (by rfl) (by rfl) ElOf.some ?_ | refine x_add (by rfl) (by rfl) (by rfl) (by omega) ?_ | refine x_lss (by rfl) (by rfl) (by rfl) ?_)
    refine x_nilw ?_
    refine swp_ret ?_; (repeat (first | with_reducible refine r_then ?_ | with_reducible refine r_block ?_ | with_reducible refine r_jump ?_))
    exact post1 rfl rfl ⟨_, rfl, rfl, u1⟩

set_option maxRecDepth 100000 in
theorem alike_ (x y : Mt) (w : World) (hx : x.Rdy w) (hy : y.Rdy w) : Gets Try.prog 17 [x.v, y.v] w fun v w' => v = .bool (decide (x.key = y.key)) ∧ Ext w w' := by
  have k1 : mlt x y = true → x.key ≠ y.key := fun h e => by rw [mlt, e, klt_tot.irr] at h; cases h
  have k2 : mlt y x = true → x.key ≠ y.key := fun h e => by rw [mlt, e, klt_tot.irr] at h; cases h
  have k3 : mlt x y = false → mlt y x = false → x.key = y.key := fun h1 h2 => Classical.byContradiction fun hn => by
    rcases klt_tot.tri _ _ hn with h | h
    · rw [mlt, h] at h1; cases h1
    · rw [mlt, h] at h2; cases h2
  refine ⟨GoFn.h, calls_of_swp 15 Try.func17 Try.ntmps17 rfl (Nat.le_of_ble_eq_true rfl) ?_⟩
  (repeat (first | refine swp_seq ?_ | refine swp_block ?_)); refine swp_region (by kernel_rfl) ?_
  refine w_boxA (by rfl) (by rfl) (by rfl) ?_; intro b0 w0 e0 u0 h0
  refine w_boxA (by rfl) (by rfl) (by rfl) ?_; intro b1 w1 e1 u1 h1
  replace h0 : Blk w1 b0 29 x.cells := h0.at u1
  replace h1 : Blk w1 b1 29 y.cells := h1
  have u := u0.trans u1
  repeat (first | refine x_move (by rfl) ?_ | refine x_as (by rfl) (by rfl) ?_ | refine x_len (by rfl) (by rfl) ElOf.some ?_ | refine x_add (by rfl) (by rfl) (by rfl) (by omega) ?_ | refine x_lss (by rfl) (by rfl) (by rfl) ?_)
  refine x_nilw ?_
  (repeat (first | refine swp_seq ?_ | refine swp_block ?_)); refine swp_region (by kernel_rfl) ?_
  repeat (first | refine x_move (by rfl) ?_ | refine x_as (by rfl) (by rfl) ?_ | refine x_skip (by rfl) ?_ | refine x_fld (by rfl) (by rfl) FldO.h ?_ | refine x_nilck (by rfl) (by rfl) ?_ | refine x_len (by rfl) (by rfl) ElOf.some ?_ | refine x_ext (by rfl) (by rfl) (by rfl) ?_ | refine x_pickT (by rfl) (by rfl) (by rfl) ?_ | refine x_pickF (by rfl) (by rfl) (by rfl) ?_ | refine x_add (by rfl) (by rfl) (by rfl) (by omega) ?_ | refine x_sub (by rfl) (by rfl) (by rfl) (by omega) ?_ | refine x_not (by rfl) (by rfl) ?_)
  refine w_load (by rfl) (by rfl) (load_agg (xs := x.cells) AggT.h h0 (by rfl) (by rfl)) ?_
  repeat (first | refine x_move (by rfl) ?_ | refine x_as (by rfl) (by rfl) ?_ | refine x_skip (by rfl) ?_ | refine x_fld (by rfl) (by rfl) FldO.h ?_ | refine x_nilck (by rfl) (by rfl) ?_ | refine x_len (by rfl) (by rfl) ElOf.some ?_ | refine x_ext (by rfl) (by rfl) (by rfl) ?_ | refine x_pickT (by rfl) (by rfl) (by rfl) ?_ | refine x_pickF (by rfl) (by rfl) (by rfl) ?_ | refine x_add (by rfl) (by rfl) (by rfl) (by omega) ?_ | refine x_sub (by rfl) (by rfl) (by rfl) (by omega) ?_ | refine x_not (by rfl) (by rfl) ?_)
  refine w_load (by rfl) (by rfl) (load_agg (xs := y.cells) AggT.h h1 (by rfl) (by rfl)) ?_
  refine w_call (by rfl) (by rfl) (by rfl) (match_before x y w1 (hx.at u) (hy.at u)) ?_
  rintro _ w2 ⟨rfl, u2⟩
  cases c1 : mlt x y with
  | true =>
    repeat (first | refine x_move (by rfl) ?_ | refine x_as (by rfl) (by rfl) ?_ | refine x_skip (by rfl) ?_ | refine x_fld (by rfl) (by rfl) FldO.h ?_ | refine x_nilck (by rfl) (by rfl) ?_ | refine x_len (by rfl) (by rfl) ElOf.some ?_ | refine x_ext (by rfl) (by rfl) (by rfl) ?_ | refine x_pickT (by rfl) (by rfl) (by rfl) ?_ | refine x_pickF (by rfl) (by rfl) (by rfl) ?_ | refine x_add (by rfl) (by rfl) (by rfl) (by omega) ?_ | refine x_sub (by rfl) (by rfl) (by rfl) (by omega) ?_ | refine x_not (by rfl) (by rfl) ?_)
    refine x_nilw ?_
    refine swp_ret ?_; (repeat (first | with_reducible refine r_then ?_ | with_reducible refine r_block ?_ | with_reducible refine r_jump ?_))
    exact post1 rfl rfl ⟨_, rfl, by rw [decide_eq_false (k1 c1)]; rfl, u.trans u2⟩
  | false =>
    repeat (first | refine x_move (by rfl) ?_ | refine x_as (by rfl) (by rfl) ?_ | refine x_skip (by rfl) ?_ | refine x_fld (by rfl) (by rfl) FldO.h ?_ | refine x_nilck (by rfl) (by rfl) ?_ | refine x_len (by rfl) (by rfl) ElOf.some ?_ | refine x_ext (by rfl) (by rfl) (by rfl) ?_ | refine x_pickT (by rfl) (by rfl) (by rfl) ?_ | refine x_pickF (by rfl) (by rfl) (by rfl) ?_ | refine x_add (by rfl) (by rfl) (by rfl) (by omega) ?_ | refine x_sub (by rfl) (by rfl) (by rfl) (by omega) ?_ | refine x_not (by rfl) (by rfl) ?_)
    refine w_load (by rfl) (by rfl) (load_agg (xs := y.cells) AggT.h (h1.at u2) (by rfl) (by rfl)) ?_
    repeat (first | refine x_move (by rfl) ?_ | refine x_as (by rfl) (by rfl) ?_ | refine x_skip (by rfl) ?_ | refine x_fld (by rfl) (by rfl) FldO.h ?_)
    refine w_load (by rfl) (by rfl) (load_agg (xs := x.cells) AggT.h (h0.at u2) (by rfl) (by rfl)) ?_
    refine w_call (by rfl) (by rfl) (by rfl) (match_before y x w2 ((hy.at u).at u2) ((hx.at u).at u2)) ?_
    rintro _ w3 ⟨rfl, u3⟩
    cases c2 : mlt y x with
    | true =>
      repeat (first | refine x_move (by rfl) ?_ | refine x_as (by rfl) (by rfl) ?_ | refine x_skip (by rfl) ?_ | refine x_fld (by rfl) (by rfl) FldO.h ?_ | refine x_nilck (by rfl) (by rfl) ?_ | refine x_len (by rfl) (by rfl) ElOf.some ?_ | refine x_ext (by rfl) (by rfl) (by rfl) ?_ | refine x_pickT (by rfl) (by rfl) (by rfl) ?_ | refine x_pickF (by rfl) (by rfl) (by rfl) ?_ | refine x_add (by rfl) (by rfl) (by rfl) (by omega) ?_ | refine x_sub (by rfl) (by rfl) (by rfl) (by omega) ?_ | refine x_not (by rfl) (by rfl) ?_)
      refine x_nilw ?_
      refine swp_ret ?_; (repeat (first | with_reducible refine r_then ?_ | with_reducible refine r_block ?_ | with_reducible refine r_jump ?_))
      exact post1 rfl rfl ⟨_, rfl, by rw [decide_eq_false (k2 c2)]; rfl, (u.trans u2).trans u3⟩
    | false =>
      repeat (first | refine x_move (by rfl) ?_ | refine x_as (by rfl) (by rfl) ?_ | refine x_skip (by rfl) ?_ | refine x_fld (by rfl) (by rfl) FldO.h ?_ | refine x_nilck (by rfl) (by rfl) ?_ | refine x_len (by rfl) (by rfl) ElOf.some ?_ | refine x_ext (by rfl) (by rfl) (by rfl) ?_ | refine x_pickT (by rfl) (by rfl) (by rfl) ?_ | refine x_pickF (by rfl) (by rfl) (by rfl) ?_ | refine x_add (by rfl) (by rfl) (by rfl) (by omega) ?_ | refine x_sub (by rfl) (by rfl) (by rfl) (by omega) ?_ | refine x_not (by rfl) (by rfl) ?_)
      refine x_nilw ?_
      refine swp_ret ?_; (repeat (first | with_reducible refine r_then ?_ | with_reducible refine r_block ?_ | with_reducible refine r_jump ?_))
      exact post1 rfl rfl ⟨_, rfl, by rw [decide_eq_true (k3 c1 c2)]; rfl, (u.trans u2).trans u3⟩

/-- where the first that is alike stands -/
def aliA (x y : Wt) : Bool := decide (y.m.key = x.m.key)
def findOf (xs : List Wt) (x : Wt) : Int := match xs.findIdx? (aliA x) with | some i => i | none => -1
theorem findOf_neg {xs : List Wt} {x : Wt} : findOf xs x < 0 ↔ ∀ y ∈ xs, y.m.key ≠ x.m.key := by
  unfold findOf
  cases h : xs.findIdx? (aliA x) with
  | none =>
    rw [List.findIdx?_eq_none_iff] at h
    simp only [aliA, decide_eq_false_iff_not] at h
    exact ⟨fun _ => h, fun _ => by decide⟩
  | some i =>
    obtain ⟨hi, hp, _⟩ := List.findIdx?_eq_some_iff_getElem.1 h
    simp only [aliA, decide_eq_true_eq] at hp
    exact ⟨fun hn => absurd hn (by simp only [Int.not_lt]; omega), fun hn => absurd hp (hn _ (List.getElem_mem hi))⟩
theorem findOf_pos {xs : List Wt} {x : Wt} (h : ∃ y ∈ xs, y.m.key = x.m.key) : ∃ i y, findOf xs x = (i : Nat) ∧ xs[i]? = some y ∧ y.m.key = x.m.key := by
  unfold findOf
  cases hf : xs.findIdx? (aliA x) with
  | none =>
    rw [List.findIdx?_eq_none_iff] at hf
    obtain ⟨y, hy, hk⟩ := h
    have := hf y hy
    simp [aliA, hk] at this
  | some i =>
    obtain ⟨hi, hp, _⟩ := List.findIdx?_eq_some_iff_getElem.1 hf
    simp only [aliA, decide_eq_true_eq] at hp
    exact ⟨i, xs[i], rfl, List.getElem?_eq_getElem hi, hp⟩
set_option maxHeartbeats 1000000 in
set_option maxRecDepth 100000 in
theorem find_wt {w : World} {s1 : Value} {xs : List Wt} (h1 : RL w s1 xs) (x : Wt) (hx : x.Rdy w) (hl : xs.length ≤ 9223372036854775807) :
    Gets Try.prog 26 [s1, x.v] w fun v w' => v = .int .i64 (findOf xs x) ∧ Ext w w' := by
  have r1 := h1.rd
  obtain ⟨a1, c1, rfl⟩ := r1.slice
  refine ⟨GoFn.h, calls_of_swp 21 Try.func26 Try.ntmps26 rfl (Nat.le_of_ble_eq_true rfl) ?_⟩
  (repeat (first | refine swp_seq ?_ | refine swp_block ?_)); refine swp_region (by kernel_rfl) ?_
  refine w_boxA (by rfl) (by rfl) (by rfl) ?_; intro b0 w0 e0 u0 h0
  repeat (first | refine x_move (by rfl) ?_ | refine x_as (by rfl) (by rfl) ?_ | refine x_skip (by rfl) ?_ | refine x_fld (by rfl) (by rfl) FldO.h ?_)
  refine x_nilw ?_
  replace h0 : Blk w0 b0 40 x.cells := h0
  (repeat (first | refine swp_seq ?_ | refine swp_block ?_)); refine swp_region (by kernel_rfl) ?_
  repeat (first | refine x_move (by rfl) ?_ | refine x_as (by rfl) (by rfl) ?_ | refine x_skip (by rfl) ?_ | refine x_fld (by rfl) (by rfl) FldO.h ?_)
  refine x_nilw ?_
  refine swp_fit [(0, .slice a1 xs.length c1), (3, .pointer (some ⟨b0, 0, none⟩)), (5, .int .i64 ((0 : Nat) : Int))] ⟨rfl, rfl, rfl, trivial⟩ fun ρ => ?_
  (repeat (first | refine swp_seq ?_ | refine swp_block ?_))
  refine swp_loop (fun (i : Nat) σ w1 => At σ [(0, .slice a1 xs.length c1), (3, .pointer (some ⟨b0, 0, none⟩)), (5, .int .i64 (i : Nat))] ∧ i ≤ xs.length ∧ (∀ j y, j < i → xs[j]? = some y → aliA x y = false) ∧ Ext w0 w1) (fun i => xs.length - i) 0 ⟨at_ ⟨rfl, rfl, rfl, trivial⟩, by omega, by omega, Upd.refl _ _⟩ ?_
  rintro i σ w1 ⟨⟨ρ, rfl⟩, hi, hno, u1⟩
  have u01 := u0.trans u1
  (repeat (first | refine swp_seq ?_ | refine swp_block ?_)); refine swp_region (by kernel_rfl) ?_
  repeat (first | refine x_move (by rfl) ?_ | refine x_as (by rfl) (by rfl) ?_ | refine x_len (by rfl) (by rfl) ElOf.some ?_ | refine x_add (by rfl) (by rfl) (by rfl) (by omega) ?_ | refine x_lss (by rfl) (by rfl) (by rfl) ?_)
  refine x_nilw ?_
  (repeat (first | refine swp_seq ?_ | refine swp_block ?_))
  refine swp_if (by rfl) (fun h => swp_skip ?_) (fun h => ?_)
  · have hi' : i < xs.length := by omega
    obtain ⟨y, hy⟩ := nthE hi'
    obtain ⟨b1, o1, d1, he1, -, -⟩ := r1.pos (by omega)
    simp only [Value.slice.injEq] at he1
    obtain ⟨rfl, _, rfl⟩ := he1
    have vy := (h1.each y (List.mem_of_getElem? hy)).at u01
    have hyc : ∀ w', Ext w1 w' → (loadVar 29 ⟨b1, o1 + i * 5 + 0, none⟩).run Try.prog w' = .ok (.agg y.m.cells.toArray) w' := fun w' hw' => load_agg_cells AggT.h (by rfl) fun j v hv => by
      rw [Addr.add_lit]
      exact rd_cell (j := j) wt_len ((r1.at u01).at hw') hy (by
        have hj : j < 4 := (List.getElem?_eq_some_iff.1 hv).1
        rw [← hv]
        match j, hj with
        | 0, _ => rfl
        | 1, _ => rfl
        | 2, _ => rfl
        | 3, _ => rfl) rfl (by omega)
    have hR : (Wt.m y).Rdy w1 := vy.m
    (repeat (first | with_reducible refine n_then ?_ | with_reducible refine n_block ?_ | with_reducible refine n_jump ?_))
    (repeat (first | refine swp_seq ?_ | refine swp_block ?_)); refine swp_draw (Ext w1) [] Mixed.h (by kernel_rfl) (by kernel_rfl) (ext_drew w1) ?_
    repeat (first | refine x_move (by rfl) ?_ | refine x_as (by rfl) (by rfl) ?_ | refine x_skip (by rfl) ?_ | refine x_fld (by rfl) (by rfl) FldO.h ?_)
    refine x_idx i (by rfl) (by rfl) (by rfl) ElSz.h rfl hi' ?_
    repeat (first | refine x_move (by rfl) ?_ | refine x_as (by rfl) (by rfl) ?_ | refine x_skip (by rfl) ?_ | refine x_fld (by rfl) (by rfl) FldO.h ?_)
    refine q_load (by rfl) (by rfl) (by rfl) hyc ?_
    repeat (first | refine x_move (by rfl) ?_ | refine x_as (by rfl) (by rfl) ?_ | refine x_skip (by rfl) ?_ | refine x_fld (by rfl) (by rfl) FldO.h ?_)
    refine q_load (by rfl) (by rfl) (by rfl) (fun w' hw' => load_agg (xs := x.m.cells) AggT.h ((h0.at u1).at hw') (by rfl) (by rfl)) ?_
    refine q_call (v := .bool (aliA x y)) (by rfl) (by rfl) (by rfl) (fun w' hw' => (alike_ y.m x.m w' (hR.at hw') ((hx.m.at u01).at hw')).mono fun v w'' h => ⟨h.1, hw'.trans h.2⟩) ?_
    refine x_nil fun w2 u2 => ?_
    cases c : aliA x y with
    | true =>
      (repeat (first | refine swp_seq ?_ | refine swp_block ?_))
      refine swp_true (by rfl) ?_
      (repeat (first | refine swp_seq ?_ | refine swp_block ?_)); refine swp_region (by kernel_rfl) ?_
      repeat (first | refine x_move (by rfl) ?_ | refine x_as (by rfl) (by rfl) ?_ | refine x_skip (by rfl) ?_ | refine x_fld (by rfl) (by rfl) FldO.h ?_)
      refine x_nilw ?_
      refine swp_ret ?_; (repeat (first | with_reducible refine r_then ?_ | with_reducible refine r_block ?_ | with_reducible refine r_jump ?_))
      exact post1 rfl rfl ⟨_, rfl, by rw [findOf, findIdx_at hno hy c]; rfl, u01.trans u2⟩
    | false =>
      (repeat (first | refine swp_seq ?_ | refine swp_block ?_))
      refine swp_false (by rfl) (swp_skip ?_)
      (repeat (first | with_reducible refine n_then ?_ | with_reducible refine n_block ?_ | with_reducible refine n_jump ?_))
      (repeat (first | refine swp_seq ?_ | refine swp_block ?_)); refine swp_region (by kernel_rfl) ?_
      repeat (first | refine x_move (by rfl) ?_ | refine x_as (by rfl) (by rfl) ?_ | refine x_len (by rfl) (by rfl) ElOf.some ?_ | refine x_add (by rfl) (by rfl) (by rfl) (by omega) ?_ | refine x_lss (by rfl) (by rfl) (by rfl) ?_)
      refine x_nilw ?_
      refine ⟨i + 1, ⟨at_ ⟨rfl, rfl, rfl, trivial⟩, by omega, fun j z hj hz => ?_, u1.trans u2⟩, by omega⟩
      rcases Nat.lt_or_ge j i with h | h
      · exact hno j z h hz
      · have : j = i := by omega
        subst this
        rw [hy] at hz
        injection hz with hz
        subst hz
        exact c
  · refine swp_exit ?_; (repeat (first | with_reducible refine e_then ?_ | with_reducible refine e_jump ?_)); refine e_block ?_; (repeat (first | with_reducible refine n_then ?_ | with_reducible refine n_block ?_ | with_reducible refine n_jump ?_))
    (repeat (first | refine swp_seq ?_ | refine swp_block ?_)); refine swp_region (by kernel_rfl) ?_
    repeat (first | refine x_move (by rfl) ?_ | refine x_as (by rfl) (by rfl) ?_ | refine x_skip (by rfl) ?_ | refine x_fld (by rfl) (by rfl) FldO.h ?_)
    refine x_nilw ?_
    refine swp_ret ?_; (repeat (first | with_reducible refine r_then ?_ | with_reducible refine r_block ?_ | with_reducible refine r_jump ?_))
    have hfi : xs.findIdx? (aliA x) = none := by
      rw [List.findIdx?_eq_none_iff]
      intro y hy
      obtain ⟨j, hj, rfl⟩ := List.getElem_of_mem hy
      exact hno j _ (by omega) (List.getElem?_eq_getElem hj)
    exact post1 rfl rfl ⟨_, rfl, by rw [findOf, hfi]; rfl, u01⟩

set_option maxHeartbeats 1000000 in
set_option maxRecDepth 100000 in
theorem rising_wt {w : World} {s1 : Value} {xs : List Wt} (h1 : RL w s1 xs) (hr : xs.Pairwise fun x y => wlt x y = true) (hl : xs.length ≤ 9223372036854775806) :
    Gets Try.prog 28 [s1] w fun v w' => v = .bool true ∧ Ext w w' := by
  have r1 := h1.rd
  obtain ⟨a1, c1, rfl⟩ := r1.slice
  refine ⟨GoFn.h, calls_of_swp 24 Try.func28 Try.ntmps28 rfl (Nat.le_of_ble_eq_true rfl) ?_⟩
  (repeat (first | refine swp_seq ?_ | refine swp_block ?_)); refine swp_region (by kernel_rfl) ?_
  repeat (first | refine x_move (by rfl) ?_ | refine x_as (by rfl) (by rfl) ?_ | refine x_skip (by rfl) ?_ | refine x_fld (by rfl) (by rfl) FldO.h ?_)
  refine x_nilw ?_
  (repeat (first | refine swp_seq ?_ | refine swp_block ?_)); refine swp_region (by kernel_rfl) ?_
  repeat (first | refine x_move (by rfl) ?_ | refine x_as (by rfl) (by rfl) ?_ | refine x_skip (by rfl) ?_ | refine x_fld (by rfl) (by rfl) FldO.h ?_)
  refine x_nilw ?_
  (repeat (first | refine swp_seq ?_ | refine swp_block ?_))
  refine swp_loop (fun (i : Nat) σ w1 => At σ [(0, .slice a1 xs.length c1), (3, .int .i64 (i : Nat))] ∧ i ≤ xs.length ∧ Ext w w1) (fun i => xs.length - i) 0 ⟨at_ ⟨rfl, rfl, trivial⟩, by omega, Upd.refl _ _⟩ ?_
  rintro i σ w1 ⟨⟨ρ, rfl⟩, hi, u1⟩
  (repeat (first | refine swp_seq ?_ | refine swp_block ?_)); refine swp_region (by kernel_rfl) ?_
  repeat (first | refine x_move (by rfl) ?_ | refine x_as (by rfl) (by rfl) ?_ | refine x_skip (by rfl) ?_ | refine x_fld (by rfl) (by rfl) FldO.h ?_ | refine w_load (by rfl) (by rfl) (load_one OneT.h (by assumption) (by rfl)) ?_ | refine x_nilck (by rfl) (by rfl) ?_ | refine x_len (by rfl) (by rfl) ElOf.some ?_ | refine x_iface (by rfl) (by rfl) NIf.h ?_ | refine x_ext (by rfl) (by rfl) (by rfl) ?_ | refine x_pickT (by rfl) (by rfl) (by rfl) ?_ | refine x_pickF (by rfl) (by rfl) (by rfl) ?_ | refine x_add (by rfl) (by rfl) (by rfl) (by omega) ?_ | refine x_sub (by rfl) (by rfl) (by rfl) (by omega) ?_ | refine x_lss (by rfl) (by rfl) (by rfl) ?_ | refine x_geq (by rfl) (by rfl) (by rfl) ?_ | refine x_leq (by rfl) (by rfl) (by rfl) ?_ | refine x_gtr (by rfl) (by rfl) (by rfl) ?_ | refine x_eql (by rfl) (by rfl) (by rfl) ?_ | refine x_neq (by rfl) (by rfl) (by rfl) ?_ | refine x_not (by rfl) (by rfl) ?_)
  refine x_nilw ?_
  (repeat (first | refine swp_seq ?_ | refine swp_block ?_))
  refine swp_if (by rfl) (fun h => swp_skip ?_) (fun h => ?_)
  · have hi' : i + 1 < xs.length := by omega
    obtain ⟨x, hx⟩ := nthE (L := xs) (i := i) (by omega)
    obtain ⟨y, hy⟩ := nthE hi'
    have hxy : wlt x y = true := by
      obtain ⟨q1, rfl⟩ := List.getElem?_eq_some_iff.1 hx
      obtain ⟨q2, rfl⟩ := List.getElem?_eq_some_iff.1 hy
      exact List.pairwise_iff_getElem.1 hr i (i + 1) q1 q2 (by omega)
    obtain ⟨b1, o1, d1, he1, -, -⟩ := r1.pos (by omega)
    simp only [Value.slice.injEq] at he1
    obtain ⟨rfl, _, rfl⟩ := he1
    have vx := (h1.each x (List.mem_of_getElem? hx)).at u1
    have vy := (h1.each y (List.mem_of_getElem? hy)).at u1
    have hc : ∀ (k : Nat) (z : Wt), xs[k]? = some z → ∀ w', Ext w1 w' → (loadVar 29 ⟨b1, o1 + k * 5 + 0, none⟩).run Try.prog w' = .ok (.agg z.m.cells.toArray) w' := fun k z hz w' hw' => load_agg_cells AggT.h (by rfl) fun j v hv => by
      rw [Addr.add_lit]
      exact rd_cell (j := j) wt_len ((r1.at u1).at hw') hz (by
        have hj : j < 4 := (List.getElem?_eq_some_iff.1 hv).1
        rw [← hv]
        match j, hj with
        | 0, _ => rfl
        | 1, _ => rfl
        | 2, _ => rfl
        | 3, _ => rfl) rfl (by omega)
    (repeat (first | with_reducible refine n_then ?_ | with_reducible refine n_block ?_ | with_reducible refine n_jump ?_))
    (repeat (first | refine swp_seq ?_ | refine swp_block ?_)); refine swp_draw (Ext w1) [] Mixed.h (by kernel_rfl) (by kernel_rfl) (ext_drew w1) ?_
    repeat (first | refine x_move (by rfl) ?_ | refine x_as (by rfl) (by rfl) ?_ | refine x_skip (by rfl) ?_ | refine x_fld (by rfl) (by rfl) FldO.h ?_ | refine x_nilck (by rfl) (by rfl) ?_ | refine x_len (by rfl) (by rfl) ElOf.some ?_ | refine x_ext (by rfl) (by rfl) (by rfl) ?_ | refine x_pickT (by rfl) (by rfl) (by rfl) ?_ | refine x_pickF (by rfl) (by rfl) (by rfl) ?_ | refine x_add (by rfl) (by rfl) (by rfl) (by omega) ?_ | refine x_sub (by rfl) (by rfl) (by rfl) (by omega) ?_ | refine x_not (by rfl) (by rfl) ?_)
    refine x_idx i (by rfl) (by rfl) (by rfl) ElSz.h rfl (by omega) ?_
    repeat (first | refine x_move (by rfl) ?_ | refine x_as (by rfl) (by rfl) ?_ | refine x_skip (by rfl) ?_ | refine x_fld (by rfl) (by rfl) FldO.h ?_ | refine x_nilck (by rfl) (by rfl) ?_ | refine x_len (by rfl) (by rfl) ElOf.some ?_ | refine x_ext (by rfl) (by rfl) (by rfl) ?_ | refine x_pickT (by rfl) (by rfl) (by rfl) ?_ | refine x_pickF (by rfl) (by rfl) (by rfl) ?_ | refine x_add (by rfl) (by rfl) (by rfl) (by omega) ?_ | refine x_sub (by rfl) (by rfl) (by rfl) (by omega) ?_ | refine x_not (by rfl) (by rfl) ?_)
    refine q_load (by rfl) (by rfl) (by rfl) (hc i x hx) ?_
    repeat (first | refine x_move (by rfl) ?_ | refine x_as (by rfl) (by rfl) ?_ | refine x_skip (by rfl) ?_ | refine x_fld (by rfl) (by rfl) FldO.h ?_ | refine x_nilck (by rfl) (by rfl) ?_ | refine x_len (by rfl) (by rfl) ElOf.some ?_ | refine x_ext (by rfl) (by rfl) (by rfl) ?_ | refine x_pickT (by rfl) (by rfl) (by rfl) ?_ | refine x_pickF (by rfl) (by rfl) (by rfl) ?_ | refine x_add (by rfl) (by rfl) (by rfl) (by omega) ?_ | refine x_sub (by rfl) (by rfl) (by rfl) (by omega) ?_ | refine x_not (by rfl) (by rfl) ?_)
    refine x_idx (i + 1) (by rfl) (by rfl) (by rfl) ElSz.h (by omega) hi' ?_
    repeat (first | refine x_move (by rfl) ?_ | refine x_as (by rfl) (by rfl) ?_ | refine x_skip (by rfl) ?_ | refine x_fld (by rfl) (by rfl) FldO.h ?_)
    refine q_load (by rfl) (by rfl) (by rfl) (hc (i + 1) y hy) ?_
    refine q_call (v := .bool true) (by rfl) (by rfl) (by rfl) (fun w' hw' => (match_before x.m y.m w' (vx.m.at hw') (vy.m.at hw')).mono fun v w'' h => ⟨by rw [h.1]; exact congrArg Value.bool hxy, hw'.trans h.2⟩) ?_
    repeat (first | refine x_move (by rfl) ?_ | refine x_as (by rfl) (by rfl) ?_ | refine x_skip (by rfl) ?_ | refine x_fld (by rfl) (by rfl) FldO.h ?_ | refine x_nilck (by rfl) (by rfl) ?_ | refine x_len (by rfl) (by rfl) ElOf.some ?_ | refine x_ext (by rfl) (by rfl) (by rfl) ?_ | refine x_pickT (by rfl) (by rfl) (by rfl) ?_ | refine x_pickF (by rfl) (by rfl) (by rfl) ?_ | refine x_add (by rfl) (by rfl) (by rfl) (by omega) ?_ | refine x_sub (by rfl) (by rfl) (by rfl) (by omega) ?_ | refine x_not (by rfl) (by rfl) ?_)
    refine x_nil fun w2 u2 => ?_
    (repeat (first | refine swp_seq ?_ | refine swp_block ?_))
    refine swp_false (by rfl) (swp_skip ?_)
    (repeat (first | with_reducible refine n_then ?_ | with_reducible refine n_block ?_ | with_reducible refine n_jump ?_))
    (repeat (first | refine swp_seq ?_ | refine swp_block ?_)); refine swp_region (by kernel_rfl) ?_
    repeat (first | refine x_move (by rfl) ?_ | refine x_as (by rfl) (by rfl) ?_ | refine x_len (by rfl) (by rfl) ElOf.some ?_ | refine x_add (by rfl) (by rfl) (by rfl) (by omega) ?_ | refine x_lss (by rfl) (by rfl) (by rfl) ?_)
    refine x_nilw ?_
    exact ⟨i + 1, ⟨at_ ⟨rfl, rfl, trivial⟩, by omega, u1.trans u2⟩, by omega⟩
  · refine swp_exit ?_; (repeat (first | with_reducible refine e_then ?_ | with_reducible refine e_jump ?_)); refine e_block ?_; (repeat (first | with_reducible refine n_then ?_ | with_reducible refine n_block ?_ | with_reducible refine n_jump ?_))
    (repeat (first | refine swp_seq ?_ | refine swp_block ?_)); refine swp_region (by kernel_rfl) ?_
    repeat (first | refine x_move (by rfl) ?_ | refine x_as (by rfl) (by rfl) ?_ | refine x_skip (by rfl) ?_ | refine x_fld (by rfl) (by rfl) FldO.h ?_)
    refine x_nilw ?_
    refine swp_ret ?_; (repeat (first | with_reducible refine r_then ?_ | with_reducible refine r_block ?_ | with_reducible refine r_jump ?_))
    exact post1 rfl rfl ⟨_, rfl, rfl, u1⟩

set_option maxHeartbeats 1000000 in
set_option maxRecDepth 100000 in
theorem within_wt {w : World} {s1 s2 : Value} {xs ys : List Wt} (h1 : RL w s1 xs) (h2 : RL w s2 ys) (hin : ∀ x ∈ xs, (∃ y ∈ ys, y.m.key = x.m.key) ∧ ∀ y ∈ ys, y.m.key = x.m.key → x.says = y.says) (hl : xs.length ≤ 9223372036854775807) (hl2 : ys.length ≤ 9223372036854775807) :
    Gets Try.prog 29 [s1, s2] w fun v w' => v = .bool true ∧ Ext w w' := by
  have r1 := h1.rd
  have r2 := h2.rd
  obtain ⟨a1, c1, rfl⟩ := r1.slice
  obtain ⟨a2, c2, rfl⟩ := r2.slice
  refine ⟨GoFn.h, calls_of_swp 33 Try.func29 Try.ntmps29 rfl (Nat.le_of_ble_eq_true rfl) ?_⟩
  (repeat (first | refine swp_seq ?_ | refine swp_block ?_)); refine swp_region (by kernel_rfl) ?_
  repeat (first | refine x_move (by rfl) ?_ | refine x_as (by rfl) (by rfl) ?_ | refine x_skip (by rfl) ?_ | refine x_fld (by rfl) (by rfl) FldO.h ?_)
  refine x_nilw ?_
  (repeat (first | refine swp_seq ?_ | refine swp_block ?_)); refine swp_region (by kernel_rfl) ?_
  repeat (first | refine x_move (by rfl) ?_ | refine x_as (by rfl) (by rfl) ?_ | refine x_skip (by rfl) ?_ | refine x_fld (by rfl) (by rfl) FldO.h ?_)
  refine x_nilw ?_
  (repeat (first | refine swp_seq ?_ | refine swp_block ?_))
  refine swp_loop (fun (i : Nat) σ w1 => At σ [(0, .slice a1 xs.length c1), (1, .slice a2 ys.length c2), (5, .int .i64 (i : Nat))] ∧ i ≤ xs.length ∧ Ext w w1) (fun i => xs.length - i) 0 ⟨at_ ⟨rfl, rfl, rfl, trivial⟩, by omega, Upd.refl _ _⟩ ?_
  rintro i σ w1 ⟨⟨ρ, rfl⟩, hi, u1⟩
  (repeat (first | refine swp_seq ?_ | refine swp_block ?_)); refine swp_region (by kernel_rfl) ?_
  repeat (first | refine x_move (by rfl) ?_ | refine x_as (by rfl) (by rfl) ?_ | refine x_len (by rfl) (by rfl) ElOf.some ?_ | refine x_add (by rfl) (by rfl) (by rfl) (by omega) ?_ | refine x_lss (by rfl) (by rfl) (by rfl) ?_)
  refine x_nilw ?_
  (repeat (first | refine swp_seq ?_ | refine swp_block ?_))
  refine swp_if (by rfl) (fun h0 => swp_skip ?_) (fun h0 => ?_)
  · have hi' : i < xs.length := by omega
    obtain ⟨x, hx⟩ := nthE hi'
    obtain ⟨hex, hall⟩ := hin x (List.mem_of_getElem? hx)
    obtain ⟨k, y, hk, hy, hyk⟩ := findOf_pos hex
    have hk' : k < ys.length := (List.getElem?_eq_some_iff.1 hy).1
    have hs := hall y (List.mem_of_getElem? hy) hyk
    obtain ⟨b1, o1, d1, he1, -, -⟩ := r1.pos (by omega)
    simp only [Value.slice.injEq] at he1
    obtain ⟨rfl, _, rfl⟩ := he1
    obtain ⟨b2, o2, d2, he2, -, -⟩ := r2.pos (by omega)
    simp only [Value.slice.injEq] at he2
    obtain ⟨rfl, _, rfl⟩ := he2
    have vx := (h1.each x (List.mem_of_getElem? hx)).at u1
    have vy := (h2.each y (List.mem_of_getElem? hy)).at u1
    (repeat (first | with_reducible refine n_then ?_ | with_reducible refine n_block ?_ | with_reducible refine n_jump ?_))
    (repeat (first | refine swp_seq ?_ | refine swp_block ?_)); refine swp_region (by kernel_rfl) ?_
    repeat (first | refine x_move (by rfl) ?_ | refine x_as (by rfl) (by rfl) ?_ | refine x_skip (by rfl) ?_ | refine x_fld (by rfl) (by rfl) FldO.h ?_)
    refine x_idx i (by rfl) (by rfl) (by rfl) ElSz.h rfl hi' ?_
    refine w_load (by rfl) (by rfl) (rd_load wt_len AggT.h (r1.at u1) hx rfl rfl) ?_
    refine w_call (by rfl) (by rfl) (by rfl) (find_wt (h2.at u1) x vx hl2) ?_
    rintro _ w2 ⟨rfl, u2⟩
    rw [hk]
    repeat (first | refine x_move (by rfl) ?_ | refine x_as (by rfl) (by rfl) ?_ | refine x_skip (by rfl) ?_ | refine x_fld (by rfl) (by rfl) FldO.h ?_)
    refine x_nilw ?_
    refine swp_fit [(0, .slice (some ⟨b1, o1, none⟩) xs.length c1), (1, .slice (some ⟨b2, o2, none⟩) ys.length c2), (5, .int .i64 (i : Nat)), (6, .int .i64 (k : Nat))] ⟨rfl, rfl, rfl, rfl, trivial⟩ fun ρ => ?_
    have u02 := u1.trans u2
    (repeat (first | refine swp_seq ?_ | refine swp_block ?_)); refine swp_draw (Ext w2) [] Mixed.h (by kernel_rfl) (by kernel_rfl) (ext_drew w2) ?_
    repeat (first | refine x_move (by rfl) ?_ | refine x_as (by rfl) (by rfl) ?_ | refine x_skip (by rfl) ?_ | refine x_fld (by rfl) (by rfl) FldO.h ?_)
    refine x_lssF (by rfl) (by rfl) (by rfl) (by omega) ?_
    repeat (first | refine x_move (by rfl) ?_ | refine x_as (by rfl) (by rfl) ?_ | refine x_skip (by rfl) ?_ | refine x_fld (by rfl) (by rfl) FldO.h ?_)
    refine x_idx i (by rfl) (by rfl) (by rfl) ElSz.h rfl hi' ?_
    refine q_load (by rfl) (by rfl) (by rfl) (fun w' hw' => rd_load wt_len AggT.h ((r1.at u02).at hw') hx rfl rfl) ?_
    repeat (first | refine x_move (by rfl) ?_ | refine x_as (by rfl) (by rfl) ?_ | refine x_skip (by rfl) ?_ | refine x_fld (by rfl) (by rfl) FldO.h ?_)
    refine x_idx k (by rfl) (by rfl) (by rfl) ElSz.h rfl hk' ?_
    refine q_load (by rfl) (by rfl) (by rfl) (fun w' hw' => rd_load wt_len AggT.h ((r2.at u02).at hw') hy rfl rfl) ?_
    refine q_call (v := .bool true) (by rfl) (by rfl) (by rfl) (fun w' hw' => (same_waiting x y w' ((vx.at u2).at hw') ((vy.at u2).at hw') hs).mono fun v w'' h => ⟨h.1, hw'.trans h.2⟩) ?_
    repeat (first | refine x_move (by rfl) ?_ | refine x_as (by rfl) (by rfl) ?_ | refine x_skip (by rfl) ?_ | refine x_fld (by rfl) (by rfl) FldO.h ?_ | refine x_nilck (by rfl) (by rfl) ?_ | refine x_len (by rfl) (by rfl) ElOf.some ?_ | refine x_ext (by rfl) (by rfl) (by rfl) ?_ | refine x_pickT (by rfl) (by rfl) (by rfl) ?_ | refine x_pickF (by rfl) (by rfl) (by rfl) ?_ | refine x_add (by rfl) (by rfl) (by rfl) (by omega) ?_ | refine x_sub (by rfl) (by rfl) (by rfl) (by omega) ?_ | refine x_not (by rfl) (by rfl) ?_)
    refine x_nil fun w3 u3 => ?_
    (repeat (first | refine swp_seq ?_ | refine swp_block ?_))
    refine swp_false (by rfl) (swp_skip ?_)
    (repeat (first | with_reducible refine n_then ?_ | with_reducible refine n_block ?_ | with_reducible refine n_jump ?_))
    (repeat (first | refine swp_seq ?_ | refine swp_block ?_)); refine swp_region (by kernel_rfl) ?_
    repeat (first | refine x_move (by rfl) ?_ | refine x_as (by rfl) (by rfl) ?_ | refine x_len (by rfl) (by rfl) ElOf.some ?_ | refine x_add (by rfl) (by rfl) (by rfl) (by omega) ?_ | refine x_lss (by rfl) (by rfl) (by rfl) ?_)
    refine x_nilw ?_
    exact ⟨i + 1, ⟨at_ ⟨rfl, rfl, rfl, trivial⟩, by omega, u02.trans u3⟩, by omega⟩
  · refine swp_exit ?_; (repeat (first | with_reducible refine e_then ?_ | with_reducible refine e_jump ?_)); refine e_block ?_; (repeat (first | with_reducible refine n_then ?_ | with_reducible refine n_block ?_ | with_reducible refine n_jump ?_))
    (repeat (first | refine swp_seq ?_ | refine swp_block ?_)); refine swp_region (by kernel_rfl) ?_
    repeat (first | refine x_move (by rfl) ?_ | refine x_as (by rfl) (by rfl) ?_ | refine x_skip (by rfl) ?_ | refine x_fld (by rfl) (by rfl) FldO.h ?_)
    refine x_nilw ?_
    refine swp_ret ?_; (repeat (first | with_reducible refine r_then ?_ | with_reducible refine r_block ?_ | with_reducible refine r_jump ?_))
    exact post1 rfl rfl ⟨_, rfl, rfl, u1⟩
end Go.Proofs.Ytpnigekkbmanlaa
