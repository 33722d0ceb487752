/- GatePlays' walk: it answers true. Conditions: fewer than 2^49 steps. -/
import Derived.Test.YtnhecopgecoloaaGu
namespace Go.Proofs.Ytnhecopgecoloaa
open Hp Sx

/-- a step leaves a pair as one -/
theorem PaE.left {w0 w w' : World} {pb n m : Nat} {F G : Nat → Prop} (h1 : ∀ b, F b → w0.heap.size ≤ b ∧ b < w.heap.size) (hw : w0.heap.size ≤ w.heap.size) (hG : ∀ b, G b → F b) (l : Left w w' pb G m) (hm : m ≤ n) : ∃ F', PaE w0 w' pb F' n ∧ Upd F w w' ∧ ∀ b, F' b → F b ∨ w.heap.size ≤ b := by
  obtain ⟨bg, r, bp, sp, bm, sl, g, N, p, hN, u, hf⟩ := l
  have s := u.size
  have hf' : ∀ b, pfoot pb bg r bp sp bm sl b → F b ∨ w.heap.size ≤ b := fun b hb => (hf b hb).imp (hG b) id
  refine ⟨pfoot pb bg r bp sp bm sl, ⟨.inl rfl, fun b hb => ⟨?_, p.lt hb⟩, .inr ⟨bg, r, bp, sp, bm, sl, g, N, p, by omega, fun b hb => hb⟩⟩, u.mono hG, hf'⟩
  rcases hf' b hb with h | h
  · exact (h1 b h).1
  · omega

set_option maxHeartbeats 4000000 in
set_option maxRecDepth 100000 in
theorem walk9 {w : World} {sv : Value} {xs : List Gop} (one two : Int) (h : Rd w 14 sv xs.length (fl Gop.cells xs)) (hl : xs.length ≤ 562949953421311) :
    Gets Try.prog 9 [.int .i64 one, .int .i64 two, sv] w fun v w' => v = .bool true ∧ Ext w w' := by
  obtain ⟨a0, c0, rfl⟩ := h.slice
  have mk : ∀ (cap : Int) (w w1 w2 w3 : World) (pb : Nat) (v : Value) (cs : List Value), ((v = .tuple #[.agg [.pointer none, .pointer none, .int .i64 cap].toArray, .bool true] ∧ Ext w w1) ∨ (∃ bg r bp sp bm, v = .tuple #[.agg [.pointer (some ⟨bg, 0, none⟩), .pointer (some ⟨bm, 0, none⟩), .int .i64 cap].toArray, .bool true] ∧ Gt w1 bg r bp sp (fresh cap) 0 ∧ Mo w1 bm (.slice none 0 0) (fresh cap) ∧ (fresh cap).Ok ∧ (∀ b, gfoot bg r bp sp b → w.heap.size ≤ b ∧ b ≠ bm) ∧ w.heap.size ≤ bm ∧ Ext w w1)) → v = .tuple #[.agg cs.toArray, .bool true] → pb = w1.heap.size → Ext w1 w2 → Upd (fun b => b = pb) w2 w3 → Blk w3 pb 70 cs → PaE w w3 pb (fun b => w.heap.size ≤ b ∧ b < w3.heap.size) 0 ∧ Ext w w3 := by
    intro cap w w1 w2 w3 pb v cs hm hv hpb u2 u3 hb
    have ce : ∀ xs ys : List Value, Value.tuple #[.agg xs.toArray, .bool true] = .tuple #[.agg ys.toArray, .bool true] → ys = xs := fun xs ys h => by simpa using h.symm
    have s2 := u2.size
    rcases hm with ⟨rfl, u1⟩ | ⟨bg, r, bp, sp, bm, rfl, g1, m1, ok, hf, hbm, u1⟩
    · have s1 := u1.size
      have := ce _ _ hv
      subst this
      exact ⟨pae_nil u1 hpb hb, (u1.trans u2).trans' u3 fun b hb e => by have e' : b = pb := e; omega⟩
    · have s1 := u1.size
      have := ce _ _ hv
      subst this
      exact ⟨pae_new u1 g1 m1 ok hf hbm u2 hpb u3 hb, (u1.trans u2).trans' u3 fun b hb e => by have e' : b = pb := e; omega⟩
  have shape : ∀ {cap : Int} {w w1 : World} {v : Value}, ((v = .tuple #[.agg [.pointer none, .pointer none, .int .i64 cap].toArray, .bool true] ∧ Ext w w1) ∨ (∃ bg r bp sp bm, v = .tuple #[.agg [.pointer (some ⟨bg, 0, none⟩), .pointer (some ⟨bm, 0, none⟩), .int .i64 cap].toArray, .bool true] ∧ Gt w1 bg r bp sp (fresh cap) 0 ∧ Mo w1 bm (.slice none 0 0) (fresh cap) ∧ (fresh cap).Ok ∧ (∀ b, gfoot bg r bp sp b → w.heap.size ≤ b ∧ b ≠ bm) ∧ w.heap.size ≤ bm ∧ Ext w w1)) → ∃ x y z : Value, v = .tuple #[.agg [x, y, z].toArray, .bool true] ∧ [x, y, z].all Value.oneCell' = true := by
    rintro cap w w1 v (⟨rfl, _⟩ | ⟨bg, r, bp, sp, bm, rfl, _⟩)
    · exact ⟨_, _, _, rfl, rfl⟩
    · exact ⟨_, _, _, rfl, rfl⟩
  refine ⟨GoFn.h, calls_of_swp 52 Try.func9 Try.ntmps9 rfl (Nat.le_of_ble_eq_true rfl) ?_⟩
  (repeat (first | refine swp_seq ?_ | refine swp_block ?_)); refine swp_region (by kernel_rfl) ?_
  repeat (first | refine x_move (by rfl) ?_ | refine x_as (by rfl) (by rfl) ?_ | refine x_skip (by rfl) ?_ | refine x_fld (by rfl) (by rfl) FldO.h ?_ | refine x_nilck (by rfl) (by rfl) ?_ | refine x_len (by rfl) (by rfl) ElOf.some ?_ | refine x_ext (by rfl) (by rfl) (by rfl) ?_ | refine x_pickT (by rfl) (by rfl) (by rfl) ?_ | refine x_pickF (by rfl) (by rfl) (by rfl) ?_ | refine x_add (by rfl) (by rfl) (by rfl) (by omega) ?_ | refine x_sub (by rfl) (by rfl) (by rfl) (by omega) ?_ | refine x_not (by rfl) (by rfl) ?_)
  refine x_nilw ?_
  (repeat (first | refine swp_seq ?_ | refine swp_block ?_)); refine swp_region (by kernel_rfl) ?_
  repeat (first | refine x_move (by rfl) ?_ | refine x_as (by rfl) (by rfl) ?_ | refine x_skip (by rfl) ?_ | refine x_fld (by rfl) (by rfl) FldO.h ?_ | refine x_nilck (by rfl) (by rfl) ?_ | refine x_len (by rfl) (by rfl) ElOf.some ?_ | refine x_ext (by rfl) (by rfl) (by rfl) ?_ | refine x_pickT (by rfl) (by rfl) (by rfl) ?_ | refine x_pickF (by rfl) (by rfl) (by rfl) ?_ | refine x_add (by rfl) (by rfl) (by rfl) (by omega) ?_ | refine x_sub (by rfl) (by rfl) (by rfl) (by omega) ?_ | refine x_not (by rfl) (by rfl) ?_)
  refine w_call (by rfl) (by rfl) (by rfl) (made one w) ?_
  intro v1 w1 hm1
  obtain ⟨x1, y1, z1, hv1, ho1⟩ := shape hm1
  have hv1' := hv1
  subst hv1
  repeat (first | refine x_move (by rfl) ?_ | refine x_as (by rfl) (by rfl) ?_ | refine x_skip (by rfl) ?_ | refine x_fld (by rfl) (by rfl) FldO.h ?_ | refine x_nilck (by rfl) (by rfl) ?_ | refine x_len (by rfl) (by rfl) ElOf.some ?_ | refine x_ext (by rfl) (by rfl) (by rfl) ?_ | refine x_pickT (by rfl) (by rfl) (by rfl) ?_ | refine x_pickF (by rfl) (by rfl) (by rfl) ?_ | refine x_add (by rfl) (by rfl) (by rfl) (by omega) ?_ | refine x_sub (by rfl) (by rfl) (by rfl) (by omega) ?_ | refine x_not (by rfl) (by rfl) ?_)
  refine w_alloc (by rfl) (by rfl) ZeroT.h ?_; intro pa w2 e2 u2 h2
  refine w_store (xs := [x1, y1, z1]) (by rfl) (by rfl) (by rfl) (by rfl) SzT.h (by rfl) ho1 h2 (by simp) ?_
  intro w3 u3 h3 _
  repeat (first | refine x_move (by rfl) ?_ | refine x_as (by rfl) (by rfl) ?_ | refine x_skip (by rfl) ?_ | refine x_fld (by rfl) (by rfl) FldO.h ?_ | refine x_nilck (by rfl) (by rfl) ?_ | refine x_len (by rfl) (by rfl) ElOf.some ?_ | refine x_ext (by rfl) (by rfl) (by rfl) ?_ | refine x_pickT (by rfl) (by rfl) (by rfl) ?_ | refine x_pickF (by rfl) (by rfl) (by rfl) ?_ | refine x_add (by rfl) (by rfl) (by rfl) (by omega) ?_ | refine x_sub (by rfl) (by rfl) (by rfl) (by omega) ?_ | refine x_not (by rfl) (by rfl) ?_)
  refine x_nilw ?_
  obtain ⟨pe3, u03⟩ := mk one w w1 w2 w3 pa _ [x1, y1, z1] hm1 hv1' e2 u2 u3 h3
  (repeat (first | refine swp_seq ?_ | refine swp_block ?_)); refine swp_region (by kernel_rfl) ?_
  repeat (first | refine x_move (by rfl) ?_ | refine x_as (by rfl) (by rfl) ?_ | refine x_skip (by rfl) ?_ | refine x_fld (by rfl) (by rfl) FldO.h ?_ | refine x_nilck (by rfl) (by rfl) ?_ | refine x_len (by rfl) (by rfl) ElOf.some ?_ | refine x_ext (by rfl) (by rfl) (by rfl) ?_ | refine x_pickT (by rfl) (by rfl) (by rfl) ?_ | refine x_pickF (by rfl) (by rfl) (by rfl) ?_ | refine x_add (by rfl) (by rfl) (by rfl) (by omega) ?_ | refine x_sub (by rfl) (by rfl) (by rfl) (by omega) ?_ | refine x_not (by rfl) (by rfl) ?_)
  refine x_nilw ?_
  (repeat (first | refine swp_seq ?_ | refine swp_block ?_))
  refine swp_false (by rfl) (swp_skip ?_)
  (repeat (first | with_reducible refine n_then ?_ | with_reducible refine n_block ?_ | with_reducible refine n_jump ?_))
  refine swp_fit [(1, .int .i64 two), (2, .slice a0 xs.length c0), (7, .pointer (some ⟨pa, 0, none⟩))] ⟨rfl, rfl, rfl, trivial⟩ fun ρ => ?_
  (repeat (first | refine swp_seq ?_ | refine swp_block ?_)); refine swp_region (by kernel_rfl) ?_
  repeat (first | refine x_move (by rfl) ?_ | refine x_as (by rfl) (by rfl) ?_ | refine x_skip (by rfl) ?_ | refine x_fld (by rfl) (by rfl) FldO.h ?_ | refine x_nilck (by rfl) (by rfl) ?_ | refine x_len (by rfl) (by rfl) ElOf.some ?_ | refine x_ext (by rfl) (by rfl) (by rfl) ?_ | refine x_pickT (by rfl) (by rfl) (by rfl) ?_ | refine x_pickF (by rfl) (by rfl) (by rfl) ?_ | refine x_add (by rfl) (by rfl) (by rfl) (by omega) ?_ | refine x_sub (by rfl) (by rfl) (by rfl) (by omega) ?_ | refine x_not (by rfl) (by rfl) ?_)
  refine w_call (by rfl) (by rfl) (by rfl) (made two w3) ?_
  intro v4 w4 hm4
  obtain ⟨x4, y4, z4, hv4, ho4⟩ := shape hm4
  have hv4' := hv4
  subst hv4
  repeat (first | refine x_move (by rfl) ?_ | refine x_as (by rfl) (by rfl) ?_ | refine x_skip (by rfl) ?_ | refine x_fld (by rfl) (by rfl) FldO.h ?_ | refine x_nilck (by rfl) (by rfl) ?_ | refine x_len (by rfl) (by rfl) ElOf.some ?_ | refine x_ext (by rfl) (by rfl) (by rfl) ?_ | refine x_pickT (by rfl) (by rfl) (by rfl) ?_ | refine x_pickF (by rfl) (by rfl) (by rfl) ?_ | refine x_add (by rfl) (by rfl) (by rfl) (by omega) ?_ | refine x_sub (by rfl) (by rfl) (by rfl) (by omega) ?_ | refine x_not (by rfl) (by rfl) ?_)
  refine w_alloc (by rfl) (by rfl) ZeroT.h ?_; intro pc w5 e5 u5 h5
  refine w_store (xs := [x4, y4, z4]) (by rfl) (by rfl) (by rfl) (by rfl) SzT.h (by rfl) ho4 h5 (by simp) ?_
  intro w6 u6 h6 _
  repeat (first | refine x_move (by rfl) ?_ | refine x_as (by rfl) (by rfl) ?_ | refine x_skip (by rfl) ?_ | refine x_fld (by rfl) (by rfl) FldO.h ?_ | refine x_nilck (by rfl) (by rfl) ?_ | refine x_len (by rfl) (by rfl) ElOf.some ?_ | refine x_ext (by rfl) (by rfl) (by rfl) ?_ | refine x_pickT (by rfl) (by rfl) (by rfl) ?_ | refine x_pickF (by rfl) (by rfl) (by rfl) ?_ | refine x_add (by rfl) (by rfl) (by rfl) (by omega) ?_ | refine x_sub (by rfl) (by rfl) (by rfl) (by omega) ?_ | refine x_not (by rfl) (by rfl) ?_)
  refine x_nilw ?_
  obtain ⟨pe6, u36⟩ := mk two w3 w4 w5 w6 pc _ [x4, y4, z4] hm4 hv4' e5 u5 u6 h6
  (repeat (first | refine swp_seq ?_ | refine swp_block ?_)); refine swp_region (by kernel_rfl) ?_
  repeat (first | refine x_move (by rfl) ?_ | refine x_as (by rfl) (by rfl) ?_ | refine x_skip (by rfl) ?_ | refine x_fld (by rfl) (by rfl) FldO.h ?_ | refine x_nilck (by rfl) (by rfl) ?_ | refine x_len (by rfl) (by rfl) ElOf.some ?_ | refine x_ext (by rfl) (by rfl) (by rfl) ?_ | refine x_pickT (by rfl) (by rfl) (by rfl) ?_ | refine x_pickF (by rfl) (by rfl) (by rfl) ?_ | refine x_add (by rfl) (by rfl) (by rfl) (by omega) ?_ | refine x_sub (by rfl) (by rfl) (by rfl) (by omega) ?_ | refine x_not (by rfl) (by rfl) ?_)
  refine x_nilw ?_
  (repeat (first | refine swp_seq ?_ | refine swp_block ?_))
  refine swp_false (by rfl) (swp_skip ?_)
  (repeat (first | with_reducible refine n_then ?_ | with_reducible refine n_block ?_ | with_reducible refine n_jump ?_))
  have s3 := u03.size
  have s6 := u36.size
  have pe3' := pe3.at u36
  have pe6' : PaE w w6 pc (fun b => w3.heap.size ≤ b ∧ b < w6.heap.size) 0 := ⟨pe6.1, fun b hb => ⟨by have := hb.1; omega, hb.2⟩, pe6.2.2⟩
  refine swp_fit [(2, .slice a0 xs.length c0), (7, .pointer (some ⟨pa, 0, none⟩)), (9, .pointer (some ⟨pc, 0, none⟩))] ⟨rfl, rfl, rfl, trivial⟩ fun ρ => ?_
  (repeat (first | refine swp_seq ?_ | refine swp_block ?_)); refine swp_region (by kernel_rfl) ?_
  repeat (first | refine x_move (by rfl) ?_ | refine x_as (by rfl) (by rfl) ?_ | refine x_skip (by rfl) ?_ | refine x_fld (by rfl) (by rfl) FldO.h ?_ | refine x_nilck (by rfl) (by rfl) ?_ | refine x_len (by rfl) (by rfl) ElOf.some ?_ | refine x_ext (by rfl) (by rfl) (by rfl) ?_ | refine x_pickT (by rfl) (by rfl) (by rfl) ?_ | refine x_pickF (by rfl) (by rfl) (by rfl) ?_ | refine x_add (by rfl) (by rfl) (by rfl) (by omega) ?_ | refine x_sub (by rfl) (by rfl) (by rfl) (by omega) ?_ | refine x_not (by rfl) (by rfl) ?_)
  refine x_nilw ?_
  (repeat (first | refine swp_seq ?_ | refine swp_block ?_))
  refine swp_loop (fun (i : Nat) σ w7 => ∃ F G, At σ [(2, .slice a0 xs.length c0), (7, .pointer (some ⟨pa, 0, none⟩)), (9, .pointer (some ⟨pc, 0, none⟩)), (10, .int .i64 (i : Nat))] ∧ i ≤ xs.length ∧ PaE w w7 pa F (4096 * i) ∧ PaE w w7 pc G (4096 * i) ∧ (∀ b, F b → ¬ G b) ∧ Ext w w7) (fun i => xs.length - i) 0 ⟨_, _, at_ ⟨rfl, rfl, rfl, rfl, trivial⟩, by omega, pe3', pe6', fun b hb hb' => by have := hb.2; have := hb'.1; omega, u03.trans u36⟩ ?_
  rintro i σ w7 ⟨F, G, ⟨ρ, rfl⟩, hi, hA, hB, hd, u7⟩
  have r7 := h.at u7
  have s7 := u7.size
  (repeat (first | refine swp_seq ?_ | refine swp_block ?_)); refine swp_region (by kernel_rfl) ?_
  repeat (first | refine x_move (by rfl) ?_ | refine x_as (by rfl) (by rfl) ?_ | refine x_skip (by rfl) ?_ | refine x_fld (by rfl) (by rfl) FldO.h ?_ | refine w_load (by rfl) (by rfl) (load_one OneT.h (by assumption) (by rfl)) ?_ | refine x_nilck (by rfl) (by rfl) ?_ | refine x_len (by rfl) (by rfl) ElOf.some ?_ | refine x_iface (by rfl) (by rfl) NIf.h ?_ | refine x_ext (by rfl) (by rfl) (by rfl) ?_ | refine x_pickT (by rfl) (by rfl) (by rfl) ?_ | refine x_pickF (by rfl) (by rfl) (by rfl) ?_ | refine x_add (by rfl) (by rfl) (by rfl) (by omega) ?_ | refine x_sub (by rfl) (by rfl) (by rfl) (by omega) ?_ | refine x_lss (by rfl) (by rfl) (by rfl) ?_ | refine x_geq (by rfl) (by rfl) (by rfl) ?_ | refine x_leq (by rfl) (by rfl) (by rfl) ?_ | refine x_gtr (by rfl) (by rfl) (by rfl) ?_ | refine x_eql (by rfl) (by rfl) (by rfl) ?_ | refine x_neq (by rfl) (by rfl) (by rfl) ?_ | refine x_not (by rfl) (by rfl) ?_)
  refine x_nilw ?_
  (repeat (first | refine swp_seq ?_ | refine swp_block ?_))
  refine swp_if (by rfl) (fun h0 => swp_skip ?_) (fun h0 => ?_)
  · have hi' : i < xs.length := by omega
    obtain ⟨o, ho⟩ := nthE hi'
    obtain ⟨b1, o1, d1, he1, -, -⟩ := h.pos (by omega)
    simp only [Value.slice.injEq] at he1
    obtain ⟨rfl, _, rfl⟩ := he1
    (repeat (first | with_reducible refine n_then ?_ | with_reducible refine n_block ?_ | with_reducible refine n_jump ?_))
    (repeat (first | refine swp_seq ?_ | refine swp_block ?_)); refine swp_region (by kernel_rfl) ?_
    repeat (first | refine x_move (by rfl) ?_ | refine x_as (by rfl) (by rfl) ?_ | refine x_skip (by rfl) ?_ | refine x_fld (by rfl) (by rfl) FldO.h ?_ | refine x_nilck (by rfl) (by rfl) ?_ | refine x_len (by rfl) (by rfl) ElOf.some ?_ | refine x_ext (by rfl) (by rfl) (by rfl) ?_ | refine x_pickT (by rfl) (by rfl) (by rfl) ?_ | refine x_pickF (by rfl) (by rfl) (by rfl) ?_ | refine x_add (by rfl) (by rfl) (by rfl) (by omega) ?_ | refine x_sub (by rfl) (by rfl) (by rfl) (by omega) ?_ | refine x_not (by rfl) (by rfl) ?_)
    refine x_idx i (by rfl) (by rfl) (by rfl) ElSz.h rfl hi' ?_
    refine w_load (by rfl) (by rfl) (rd_load gop_len AggT.h r7 ho rfl rfl) ?_
    refine w_alloc (by rfl) (by rfl) ZeroT.h ?_; intro b8 w8 e8 u8 h8
    refine w_store (xs := o.cells) (by rfl) (by rfl) (by rfl) (by rfl) SzT.h (by rfl) (by rfl) h8 (by simp) ?_
    intro w9 u9 h9 _
    refine x_nilw ?_
    replace h9 : Blk w9 b8 51 o.cells := h9
    have u79 : Ext w7 w9 := u8.trans' u9 fun b hb e => by have e' : b = b8 := e; omega
    have s9 := u79.size
    have hA9 := hA.at u79
    have hB9 := hB.at u79
    have hb8 : w7.heap.size ≤ b8 := by omega
    (repeat (first | refine swp_seq ?_ | refine swp_block ?_)); refine swp_region (by kernel_rfl) ?_
    repeat (first | refine x_move (by rfl) ?_ | refine x_as (by rfl) (by rfl) ?_ | refine x_skip (by rfl) ?_ | refine x_fld (by rfl) (by rfl) FldO.h ?_ | refine x_nilck (by rfl) (by rfl) ?_ | refine x_len (by rfl) (by rfl) ElOf.some ?_ | refine x_ext (by rfl) (by rfl) (by rfl) ?_ | refine x_pickT (by rfl) (by rfl) (by rfl) ?_ | refine x_pickF (by rfl) (by rfl) (by rfl) ?_ | refine x_add (by rfl) (by rfl) (by rfl) (by omega) ?_ | refine x_sub (by rfl) (by rfl) (by rfl) (by omega) ?_ | refine x_not (by rfl) (by rfl) ?_)
    refine x_nilw ?_
    refine swp_fit [(2, .slice (some ⟨b1, o1, none⟩) xs.length c0), (7, .pointer (some ⟨pa, 0, none⟩)), (9, .pointer (some ⟨pc, 0, none⟩)), (10, .int .i64 (i : Nat)), (11, .pointer (some ⟨b8, 0, none⟩)), (12, .pointer (some ⟨pa, 0, none⟩))] ⟨rfl, rfl, rfl, rfl, rfl, rfl, trivial⟩ fun ρ => ?_
    refine swp_seq ?_
    refine PEv.swp_cutQ (fun σ w' => ∃ pd, At σ [(2, .slice (some ⟨b1, o1, none⟩) xs.length c0), (7, .pointer (some ⟨pa, 0, none⟩)), (9, .pointer (some ⟨pc, 0, none⟩)), (10, .int .i64 (i : Nat)), (11, .pointer (some ⟨b8, 0, none⟩)), (12, .pointer (some ⟨pd, 0, none⟩))] ∧ (pd = pa ∨ pd = pc) ∧ w9 = w') ?_ ?_
    · (repeat (first | refine swp_seq ?_ | refine swp_block ?_)); refine swp_region (by kernel_rfl) ?_
      repeat (first | refine x_move (by rfl) ?_ | refine x_as (by rfl) (by rfl) ?_ | refine x_skip (by rfl) ?_ | refine x_fld (by rfl) (by rfl) FldO.h ?_ | refine x_nilck (by rfl) (by rfl) ?_ | refine x_len (by rfl) (by rfl) ElOf.some ?_ | refine x_ext (by rfl) (by rfl) (by rfl) ?_ | refine x_pickT (by rfl) (by rfl) (by rfl) ?_ | refine x_pickF (by rfl) (by rfl) (by rfl) ?_ | refine x_add (by rfl) (by rfl) (by rfl) (by omega) ?_ | refine x_sub (by rfl) (by rfl) (by rfl) (by omega) ?_ | refine x_not (by rfl) (by rfl) ?_)
      refine w_load (v := .int .i64 o.which) (by rfl) (by rfl) (load_one OneT.h h9 (by rfl)) ?_
      refine x_rem (by rfl) (by rfl) (by rfl) (by omega) ?_
      refine x_neq (by rfl) (by rfl) (by rfl) ?_
      refine x_nilw ?_
      (repeat (first | refine swp_seq ?_ | refine swp_block ?_))
      refine swp_if (by rfl) (fun hc => ?_) (fun hc => swp_skip ?_)
      · (repeat (first | refine swp_seq ?_ | refine swp_block ?_)); refine swp_region (by kernel_rfl) ?_
        repeat (first | refine x_move (by rfl) ?_ | refine x_as (by rfl) (by rfl) ?_ | refine x_skip (by rfl) ?_ | refine x_fld (by rfl) (by rfl) FldO.h ?_ | refine x_nilck (by rfl) (by rfl) ?_ | refine x_len (by rfl) (by rfl) ElOf.some ?_ | refine x_ext (by rfl) (by rfl) (by rfl) ?_ | refine x_pickT (by rfl) (by rfl) (by rfl) ?_ | refine x_pickF (by rfl) (by rfl) (by rfl) ?_ | refine x_add (by rfl) (by rfl) (by rfl) (by omega) ?_ | refine x_sub (by rfl) (by rfl) (by rfl) (by omega) ?_ | refine x_not (by rfl) (by rfl) ?_)
        refine x_nilw ?_
        exact ⟨rfl, pc, at_ ⟨rfl, rfl, rfl, rfl, rfl, rfl, trivial⟩, .inr rfl, rfl⟩
      · exact ⟨rfl, pa, at_ ⟨rfl, rfl, rfl, rfl, rfl, rfl, trivial⟩, .inl rfl, rfl⟩
    rintro σ w' ⟨pd, ⟨ρ, rfl⟩, hpd, rfl⟩
    refine n_then ?_
    obtain ⟨H, hH, back⟩ : ∃ H : Nat → Prop, PaE w w9 pd H (4096 * i) ∧ ∀ w', (∃ H', PaE w w' pd H' (4096 * (i + 1)) ∧ Upd H w9 w' ∧ ∀ b, H' b → H b ∨ w9.heap.size ≤ b) → ∃ F G, PaE w w' pa F (4096 * (i + 1)) ∧ PaE w w' pc G (4096 * (i + 1)) ∧ (∀ b, F b → ¬ G b) ∧ Ext w w' := by
      have u09 := u7.trans u79
      have s09 := u09.size
      rcases hpd with rfl | rfl
      · refine ⟨F, hA9, fun w' ⟨H', h1, h2, h3⟩ => ⟨H', G, h1, (hB9.get h2 fun b hb hf => hd b hf hb).le (by omega), fun b hb hb' => ?_, u09.trans' h2 fun b hb hf => by have := (hA9.2.1 b hf).1; omega⟩⟩
        rcases h3 b hb with hb2 | hb2
        · exact hd b hb2 hb'
        · have := (hB9.2.1 b hb').2; omega
      · refine ⟨G, hB9, fun w' ⟨H', h1, h2, h3⟩ => ⟨F, H', (hA9.get h2 fun b hb hf => hd b hb hf).le (by omega), h1, fun b hb hb' => ?_, u09.trans' h2 fun b hb hf => by have := (hB9.2.1 b hf).1; omega⟩⟩
        rcases h3 b hb' with hb2 | hb2
        · exact hd b hb hb2
        · have := (hA9.2.1 b hb).2; omega
    have hid : ∃ H', PaE w w9 pd H' (4096 * (i + 1)) ∧ Upd H w9 w9 ∧ ∀ b, H' b → H b ∨ w9.heap.size ≤ b := ⟨H, hH.le (by omega), Upd.refl _ _, fun b hb => .inl hb⟩
    obtain ⟨hpH, hlH, hcase⟩ := hH
    rcases hcase with ⟨c, hnil⟩ | ⟨bg, r, bp, sp, bm, sl, g, N, p, hN, hf⟩
    · (repeat (first | refine swp_seq ?_ | refine swp_block ?_)); refine swp_region (by kernel_rfl) ?_
      repeat (first | refine x_move (by rfl) ?_ | refine x_as (by rfl) (by rfl) ?_ | refine x_skip (by rfl) ?_ | refine x_fld (by rfl) (by rfl) FldO.h ?_ | refine x_nilck (by rfl) (by rfl) ?_ | refine x_len (by rfl) (by rfl) ElOf.some ?_ | refine x_ext (by rfl) (by rfl) (by rfl) ?_ | refine x_pickT (by rfl) (by rfl) (by rfl) ?_ | refine x_pickF (by rfl) (by rfl) (by rfl) ?_ | refine x_add (by rfl) (by rfl) (by rfl) (by omega) ?_ | refine x_sub (by rfl) (by rfl) (by rfl) (by omega) ?_ | refine x_not (by rfl) (by rfl) ?_)
      refine w_load (by rfl) (by rfl) (load_one OneT.h hnil (by rfl)) ?_
      refine x_eqlN Try.underlying22 (by rfl) (by rfl) (by rfl) ?_
      refine x_nilw ?_
      (repeat (first | refine swp_seq ?_ | refine swp_block ?_))
      refine swp_true (by rfl) ?_
      refine swp_exit ?_; (repeat (first | with_reducible refine e_then ?_ | with_reducible refine e_jump ?_)); refine e_block ?_; (repeat (first | with_reducible refine n_then ?_ | with_reducible refine n_block ?_ | with_reducible refine n_jump ?_))
      (repeat (first | refine swp_seq ?_ | refine swp_block ?_)); refine swp_region (by kernel_rfl) ?_
      repeat (first | refine x_move (by rfl) ?_ | refine x_as (by rfl) (by rfl) ?_ | refine x_skip (by rfl) ?_ | refine x_fld (by rfl) (by rfl) FldO.h ?_ | refine x_nilck (by rfl) (by rfl) ?_ | refine x_len (by rfl) (by rfl) ElOf.some ?_ | refine x_ext (by rfl) (by rfl) (by rfl) ?_ | refine x_pickT (by rfl) (by rfl) (by rfl) ?_ | refine x_pickF (by rfl) (by rfl) (by rfl) ?_ | refine x_add (by rfl) (by rfl) (by rfl) (by omega) ?_ | refine x_sub (by rfl) (by rfl) (by rfl) (by omega) ?_ | refine x_not (by rfl) (by rfl) ?_)
      refine x_nilw ?_
      obtain ⟨F', G', h1, h2, h3, h4⟩ := back w9 hid
      exact ⟨i + 1, ⟨F', G', at_ ⟨rfl, rfl, rfl, rfl, trivial⟩, by omega, h1, h2, h3, h4⟩, by omega⟩
    · (repeat (first | refine swp_seq ?_ | refine swp_block ?_)); refine swp_region (by kernel_rfl) ?_
      repeat (first | refine x_move (by rfl) ?_ | refine x_as (by rfl) (by rfl) ?_ | refine x_skip (by rfl) ?_ | refine x_fld (by rfl) (by rfl) FldO.h ?_ | refine x_nilck (by rfl) (by rfl) ?_ | refine x_len (by rfl) (by rfl) ElOf.some ?_ | refine x_ext (by rfl) (by rfl) (by rfl) ?_ | refine x_pickT (by rfl) (by rfl) (by rfl) ?_ | refine x_pickF (by rfl) (by rfl) (by rfl) ?_ | refine x_add (by rfl) (by rfl) (by rfl) (by omega) ?_ | refine x_sub (by rfl) (by rfl) (by rfl) (by omega) ?_ | refine x_not (by rfl) (by rfl) ?_)
      refine w_load (by rfl) (by rfl) (load_one OneT.h p.blk (by rfl)) ?_
      refine x_eqlP Try.underlying22 (by rfl) (by rfl) (by rfl) ?_
      refine x_nilw ?_
      (repeat (first | refine swp_seq ?_ | refine swp_block ?_))
      refine swp_false (by rfl) (swp_skip ?_)
      (repeat (first | with_reducible refine n_then ?_ | with_reducible refine n_block ?_ | with_reducible refine n_jump ?_))
      (repeat (first | refine swp_seq ?_ | refine swp_block ?_)); refine swp_region (by kernel_rfl) ?_
      repeat (first | refine x_move (by rfl) ?_ | refine x_as (by rfl) (by rfl) ?_ | refine x_skip (by rfl) ?_ | refine x_fld (by rfl) (by rfl) FldO.h ?_ | refine x_nilck (by rfl) (by rfl) ?_ | refine x_len (by rfl) (by rfl) ElOf.some ?_ | refine x_ext (by rfl) (by rfl) (by rfl) ?_ | refine x_pickT (by rfl) (by rfl) (by rfl) ?_ | refine x_pickF (by rfl) (by rfl) (by rfl) ?_ | refine x_add (by rfl) (by rfl) (by rfl) (by omega) ?_ | refine x_sub (by rfl) (by rfl) (by rfl) (by omega) ?_ | refine x_not (by rfl) (by rfl) ?_)
      refine w_load (by rfl) (by rfl) (load_agg (xs := o.cells) AggT.h h9 (by rfl) (by rfl)) ?_
      refine w_call (by rfl) (by rfl) (by rfl) (plays o (4096 * i) p hN (by omega)) ?_
      rintro _ w10 ⟨rfl, hleft⟩
      repeat (first | refine x_move (by rfl) ?_ | refine x_as (by rfl) (by rfl) ?_ | refine x_skip (by rfl) ?_ | refine x_fld (by rfl) (by rfl) FldO.h ?_ | refine x_nilck (by rfl) (by rfl) ?_ | refine x_len (by rfl) (by rfl) ElOf.some ?_ | refine x_ext (by rfl) (by rfl) (by rfl) ?_ | refine x_pickT (by rfl) (by rfl) (by rfl) ?_ | refine x_pickF (by rfl) (by rfl) (by rfl) ?_ | refine x_add (by rfl) (by rfl) (by rfl) (by omega) ?_ | refine x_sub (by rfl) (by rfl) (by rfl) (by omega) ?_ | refine x_not (by rfl) (by rfl) ?_)
      refine x_nilw ?_
      (repeat (first | refine swp_seq ?_ | refine swp_block ?_)); refine swp_region (by kernel_rfl) ?_
      repeat (first | refine x_move (by rfl) ?_ | refine x_as (by rfl) (by rfl) ?_ | refine x_skip (by rfl) ?_ | refine x_fld (by rfl) (by rfl) FldO.h ?_ | refine x_nilck (by rfl) (by rfl) ?_ | refine x_len (by rfl) (by rfl) ElOf.some ?_ | refine x_ext (by rfl) (by rfl) (by rfl) ?_ | refine x_pickT (by rfl) (by rfl) (by rfl) ?_ | refine x_pickF (by rfl) (by rfl) (by rfl) ?_ | refine x_add (by rfl) (by rfl) (by rfl) (by omega) ?_ | refine x_sub (by rfl) (by rfl) (by rfl) (by omega) ?_ | refine x_not (by rfl) (by rfl) ?_)
      refine x_nilw ?_
      (repeat (first | refine swp_seq ?_ | refine swp_block ?_))
      refine swp_false (by rfl) (swp_skip ?_)
      (repeat (first | with_reducible refine n_then ?_ | with_reducible refine n_block ?_ | with_reducible refine n_jump ?_))
      (repeat (first | refine swp_seq ?_ | refine swp_block ?_)); refine swp_region (by kernel_rfl) ?_
      repeat (first | refine x_move (by rfl) ?_ | refine x_as (by rfl) (by rfl) ?_ | refine x_skip (by rfl) ?_ | refine x_fld (by rfl) (by rfl) FldO.h ?_ | refine x_nilck (by rfl) (by rfl) ?_ | refine x_len (by rfl) (by rfl) ElOf.some ?_ | refine x_ext (by rfl) (by rfl) (by rfl) ?_ | refine x_pickT (by rfl) (by rfl) (by rfl) ?_ | refine x_pickF (by rfl) (by rfl) (by rfl) ?_ | refine x_add (by rfl) (by rfl) (by rfl) (by omega) ?_ | refine x_sub (by rfl) (by rfl) (by rfl) (by omega) ?_ | refine x_not (by rfl) (by rfl) ?_)
      refine x_nilw ?_
      obtain ⟨F', G', h1, h2, h3, h4⟩ := back w10 (PaE.left hlH (by omega) hf hleft (by omega))
      exact ⟨i + 1, ⟨F', G', at_ ⟨rfl, rfl, rfl, rfl, trivial⟩, by omega, h1, h2, h3, h4⟩, by omega⟩
  · refine swp_exit ?_; (repeat (first | with_reducible refine e_then ?_ | with_reducible refine e_jump ?_)); refine e_block ?_; (repeat (first | with_reducible refine n_then ?_ | with_reducible refine n_block ?_ | with_reducible refine n_jump ?_))
    (repeat (first | refine swp_seq ?_ | refine swp_block ?_)); refine swp_region (by kernel_rfl) ?_
    repeat (first | refine x_move (by rfl) ?_ | refine x_as (by rfl) (by rfl) ?_ | refine x_skip (by rfl) ?_ | refine x_fld (by rfl) (by rfl) FldO.h ?_ | refine x_nilck (by rfl) (by rfl) ?_ | refine x_len (by rfl) (by rfl) ElOf.some ?_ | refine x_ext (by rfl) (by rfl) (by rfl) ?_ | refine x_pickT (by rfl) (by rfl) (by rfl) ?_ | refine x_pickF (by rfl) (by rfl) (by rfl) ?_ | refine x_add (by rfl) (by rfl) (by rfl) (by omega) ?_ | refine x_sub (by rfl) (by rfl) (by rfl) (by omega) ?_ | refine x_not (by rfl) (by rfl) ?_)
    refine x_nilw ?_
    refine swp_ret ?_; (repeat (first | with_reducible refine r_then ?_ | with_reducible refine r_block ?_ | with_reducible refine r_jump ?_))
    exact post1 rfl rfl ⟨_, rfl, rfl, u7⟩
end Go.Proofs.Ytnhecopgecoloaa
