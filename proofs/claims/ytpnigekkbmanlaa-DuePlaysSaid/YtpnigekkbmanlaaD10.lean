/- DueSplits' walk: it answers true. Conditions: what is read; room. -/
import Derived.Test.YtpnigekkbmanlaaD9
namespace Go.Proofs.Ytpnigekkbmanlaa
open Sx Hp

theorem Lst.push2 {α : Type} {T : Thing α} {e : TypeId} {w0 w w1 w2 : World} {sv sv' : Value} {out : List α} {r : α} (h : Lst T e w0 w sv out) (h0 : w0.heap.size ≤ w.heap.size) (hr : T.Rdy w1 r) (hn : ∀ b, T.In r b → w0.heap.size ≤ b ∧ ¬isIn sv b) (x : Ext w w1) (ho : Own w2 e T.k sv' (out.length + 1) (fl T.enc out ++ T.enc r)) (u : Upd (isIn sv) w1 w2) (hin : ∀ b, isIn sv' b → isIn sv b ∨ w1.heap.size ≤ b) : Lst T e w0 w2 sv' (out ++ [r]) := by
  have s1 := x.size
  have e1 : ∀ z ∈ out, T.Rdy w1 z := fun z hz => T.get (h.each z hz) x fun _ _ h => h
  refine ⟨?_, fun z hz => ?_, fun b hb => ?_, fun z hz b hb => ?_, fun z hz b hb hv => ?_⟩
  · rw [List.length_append, List.length_singleton, fl_append, fl_one]; exact ho
  · rcases List.mem_append.1 hz with hz | hz
    · exact T.get (e1 z hz) u (h.ap z hz)
    · rw [List.mem_singleton.1 hz]
      exact T.get hr u fun b hb => (hn b hb).2
  · rcases hin b hb with h' | h'
    · exact h.new b h'
    · omega
  · rcases List.mem_append.1 hz with hz | hz
    · exact h.newE z hz b hb
    · rw [List.mem_singleton.1 hz] at hb
      exact (hn b hb).1
  · rcases hin b hv with h' | h'
    · rcases List.mem_append.1 hz with hz | hz
      · exact h.ap z hz b hb h'
      · rw [List.mem_singleton.1 hz] at hb
        exact (hn b hb).2 h'
    · rcases List.mem_append.1 hz with hz | hz
      · have := T.lt (e1 z hz) hb; omega
      · rw [List.mem_singleton.1 hz] at hb
        have := T.lt hr hb; omega

def bys (mark : Int) (s : Sw) : Bool := decide (s.1.1 ≤ mark)
theorem take_map {mark : Int} (S : List Wt) : (S.takeWhile (by_ mark)).map Wt.says = (S.map Wt.says).takeWhile (bys mark) := by rw [List.takeWhile_map]; rfl
theorem drop_map {mark : Int} (S : List Wt) : (S.dropWhile (by_ mark)).map Wt.says = (S.map Wt.says).dropWhile (bys mark) := by rw [List.dropWhile_map]; rfl
theorem bys_le {a b : Int} (h : a ≤ b) {s : Sw} (hs : bys a s = true) : bys b s = true := by
  simp only [bys, decide_eq_true_eq] at *
  omega
theorem split_take {a b : Int} (h : a ≤ b) : ∀ l : List Sw, l.takeWhile (bys a) ++ (l.dropWhile (bys a)).takeWhile (bys b) = l.takeWhile (bys b) ∧ (l.dropWhile (bys a)).dropWhile (bys b) = l.dropWhile (bys b)
  | [] => by simp
  | x :: l => by
    cases c : bys a x with
    | false => simp [c]
    | true =>
      have c2 := bys_le h c
      obtain ⟨h1, h2⟩ := split_take h l
      simp [c, c2, h1, h2]

set_option maxHeartbeats 4000000 in
set_option maxRecDepth 100000 in
theorem walk10 {w : World} {a0 : Option Addr} {c0 : Nat} {ls : List Wt} (ma mb : Int) (h1 : RL w (.slice a0 ls.length c0) ls) (hb : ls.length * 104 ≤ 140737488351232) :
    Gets Try.prog 10 [.slice a0 ls.length c0, .int .i64 ma, .int .i64 mb] w fun v w' => v = .bool true ∧ Ext w w' := by
  have hr112 : Room ls.length 112 := by
    refine ⟨by omega, ?_⟩
    rw [Nat.add_mul, Nat.add_mul]
    omega
  have hr104 : Room ls.length 104 := hr112.bytes (by omega)
  refine ⟨GoFn.h, calls_of_swp 72 Try.func10 Try.ntmps10 rfl (Nat.le_of_ble_eq_true rfl) ?_⟩
  (repeat (first | refine swp_seq ?_ | refine swp_block ?_)); refine swp_region (by kernel_rfl) ?_
  repeat (first | refine x_move (by rfl) ?_ | refine x_as (by rfl) (by rfl) ?_ | refine x_skip (by rfl) ?_ | refine x_fld (by rfl) (by rfl) FldO.h ?_ | refine x_nilck (by rfl) (by rfl) ?_ | refine x_len (by rfl) (by rfl) ElOf.some ?_ | refine x_ext (by rfl) (by rfl) (by rfl) ?_ | refine x_pickT (by rfl) (by rfl) (by rfl) ?_ | refine x_pickF (by rfl) (by rfl) (by rfl) ?_ | refine x_add (by rfl) (by rfl) (by rfl) (by omega) ?_ | refine x_sub (by rfl) (by rfl) (by rfl) (by omega) ?_ | refine x_not (by rfl) (by rfl) ?_)
  refine x_nilw ?_
  refine swp_seq ?_
  refine PEv.swp_cutQ (fun σ w' => ∃ a b, a ≤ b ∧ At σ [(0, .slice a0 ls.length c0), (1, .int .i64 a), (2, .int .i64 b)] ∧ w = w') ?_ ?_
  · by_cases hab : mb < ma
    · (repeat (first | refine swp_seq ?_ | refine swp_block ?_)); refine swp_region (by kernel_rfl) ?_
      repeat (first | refine x_move (by rfl) ?_ | refine x_as (by rfl) (by rfl) ?_ | refine x_skip (by rfl) ?_ | refine x_fld (by rfl) (by rfl) FldO.h ?_ | refine x_nilck (by rfl) (by rfl) ?_ | refine x_len (by rfl) (by rfl) ElOf.some ?_ | refine x_ext (by rfl) (by rfl) (by rfl) ?_ | refine x_pickT (by rfl) (by rfl) (by rfl) ?_ | refine x_pickF (by rfl) (by rfl) (by rfl) ?_ | refine x_add (by rfl) (by rfl) (by rfl) (by omega) ?_ | refine x_sub (by rfl) (by rfl) (by rfl) (by omega) ?_ | refine x_not (by rfl) (by rfl) ?_)
      refine x_gtrT (by rfl) (by rfl) (by rfl) hab ?_
      refine x_nilw ?_
      (repeat (first | refine swp_seq ?_ | refine swp_block ?_))
      refine swp_true (by rfl) ?_
      (repeat (first | refine swp_seq ?_ | refine swp_block ?_)); refine swp_region (by kernel_rfl) ?_
      repeat (first | refine x_move (by rfl) ?_ | refine x_as (by rfl) (by rfl) ?_ | refine x_skip (by rfl) ?_ | refine x_fld (by rfl) (by rfl) FldO.h ?_ | refine x_nilck (by rfl) (by rfl) ?_ | refine x_len (by rfl) (by rfl) ElOf.some ?_ | refine x_ext (by rfl) (by rfl) (by rfl) ?_ | refine x_pickT (by rfl) (by rfl) (by rfl) ?_ | refine x_pickF (by rfl) (by rfl) (by rfl) ?_ | refine x_add (by rfl) (by rfl) (by rfl) (by omega) ?_ | refine x_sub (by rfl) (by rfl) (by rfl) (by omega) ?_ | refine x_not (by rfl) (by rfl) ?_)
      refine x_nilw ?_
      exact ⟨rfl, mb, ma, by omega, at_ ⟨rfl, rfl, rfl, trivial⟩, rfl⟩
    · (repeat (first | refine swp_seq ?_ | refine swp_block ?_)); refine swp_region (by kernel_rfl) ?_
      repeat (first | refine x_move (by rfl) ?_ | refine x_as (by rfl) (by rfl) ?_ | refine x_skip (by rfl) ?_ | refine x_fld (by rfl) (by rfl) FldO.h ?_ | refine x_nilck (by rfl) (by rfl) ?_ | refine x_len (by rfl) (by rfl) ElOf.some ?_ | refine x_ext (by rfl) (by rfl) (by rfl) ?_ | refine x_pickT (by rfl) (by rfl) (by rfl) ?_ | refine x_pickF (by rfl) (by rfl) (by rfl) ?_ | refine x_add (by rfl) (by rfl) (by rfl) (by omega) ?_ | refine x_sub (by rfl) (by rfl) (by rfl) (by omega) ?_ | refine x_not (by rfl) (by rfl) ?_)
      refine x_gtrF (by rfl) (by rfl) (by rfl) hab ?_
      refine x_nilw ?_
      (repeat (first | refine swp_seq ?_ | refine swp_block ?_))
      refine swp_false (by rfl) ?_
      refine swp_skip ?_
      exact ⟨rfl, ma, mb, by omega, at_ ⟨rfl, rfl, rfl, trivial⟩, rfl⟩
  rintro σ w' ⟨a, b, hab, ⟨ρ, rfl⟩, rfl⟩
  refine n_then ?_
  (repeat (first | refine swp_seq ?_ | refine swp_block ?_)); refine swp_region (by kernel_rfl) ?_
  repeat (first | refine x_move (by rfl) ?_ | refine x_as (by rfl) (by rfl) ?_ | refine x_skip (by rfl) ?_ | refine x_fld (by rfl) (by rfl) FldO.h ?_ | refine x_nilck (by rfl) (by rfl) ?_ | refine x_len (by rfl) (by rfl) ElOf.some ?_ | refine x_ext (by rfl) (by rfl) (by rfl) ?_ | refine x_pickT (by rfl) (by rfl) (by rfl) ?_ | refine x_pickF (by rfl) (by rfl) (by rfl) ?_ | refine x_add (by rfl) (by rfl) (by rfl) (by omega) ?_ | refine x_sub (by rfl) (by rfl) (by rfl) (by omega) ?_ | refine x_not (by rfl) (by rfl) ?_)
  refine w_call (by rfl) (by rfl) (by rfl) (filled h1 hb) ?_
  rintro _ w1 ⟨bd1, G1, S1, N1, vi1, rfl, hN1, hF1⟩
  repeat (first | refine x_move (by rfl) ?_ | refine x_as (by rfl) (by rfl) ?_ | refine x_skip (by rfl) ?_ | refine x_fld (by rfl) (by rfl) FldO.h ?_ | refine x_nilck (by rfl) (by rfl) ?_ | refine x_len (by rfl) (by rfl) ElOf.some ?_ | refine x_ext (by rfl) (by rfl) (by rfl) ?_ | refine x_pickT (by rfl) (by rfl) (by rfl) ?_ | refine x_pickF (by rfl) (by rfl) (by rfl) ?_ | refine x_add (by rfl) (by rfl) (by rfl) (by omega) ?_ | refine x_sub (by rfl) (by rfl) (by rfl) (by omega) ?_ | refine x_not (by rfl) (by rfl) ?_)
  refine x_nilw ?_
  have u1 := hF1.ext
  refine swp_fit [(0, .slice a0 ls.length c0), (1, .int .i64 a), (2, .int .i64 b), (7, .pointer (some ⟨bd1, 0, none⟩)), (9, .bool true)] ⟨rfl, rfl, rfl, rfl, rfl, trivial⟩ fun ρ => ?_
  (repeat (first | refine swp_seq ?_ | refine swp_block ?_)); refine swp_region (by kernel_rfl) ?_
  repeat (first | refine x_move (by rfl) ?_ | refine x_as (by rfl) (by rfl) ?_ | refine x_skip (by rfl) ?_ | refine x_fld (by rfl) (by rfl) FldO.h ?_ | refine x_nilck (by rfl) (by rfl) ?_ | refine x_len (by rfl) (by rfl) ElOf.some ?_ | refine x_ext (by rfl) (by rfl) (by rfl) ?_ | refine x_pickT (by rfl) (by rfl) (by rfl) ?_ | refine x_pickF (by rfl) (by rfl) (by rfl) ?_ | refine x_add (by rfl) (by rfl) (by rfl) (by omega) ?_ | refine x_sub (by rfl) (by rfl) (by rfl) (by omega) ?_ | refine x_not (by rfl) (by rfl) ?_)
  refine w_call (by rfl) (by rfl) (by rfl) (filled (h1.at u1) hb) ?_
  rintro _ w2 ⟨bd2, G2, S2, N2, vi2, rfl, hN2, hF2⟩
  repeat (first | refine x_move (by rfl) ?_ | refine x_as (by rfl) (by rfl) ?_ | refine x_skip (by rfl) ?_ | refine x_fld (by rfl) (by rfl) FldO.h ?_ | refine x_nilck (by rfl) (by rfl) ?_ | refine x_len (by rfl) (by rfl) ElOf.some ?_ | refine x_ext (by rfl) (by rfl) (by rfl) ?_ | refine x_pickT (by rfl) (by rfl) (by rfl) ?_ | refine x_pickF (by rfl) (by rfl) (by rfl) ?_ | refine x_add (by rfl) (by rfl) (by rfl) (by omega) ?_ | refine x_sub (by rfl) (by rfl) (by rfl) (by omega) ?_ | refine x_not (by rfl) (by rfl) ?_)
  refine x_nilw ?_
  have u2 := hF2.ext
  have hfl := foldl_len ls []
  rw [List.length_nil, Nat.zero_add] at hfl
  have hl1 := hF1.wts.len
  have hl2 := hF2.wts.len
  have hSS : S1.map Wt.says = S2.map Wt.says := by
    have e1 := hF1.wts
    have e2 := hF2.wts
    unfold Wts at e1 e2
    rw [e1, e2]
  have s1 := u1.size; have s2 := u2.size
  have hd1 := hF1.dv.at u2
  have hd2 := hF2.dv
  have g1 : ∀ b, G1 b → w.heap.size ≤ b ∧ b < w1.heap.size := hF1.gb
  have g2 : ∀ b, G2 b → w1.heap.size ≤ b ∧ b < w2.heap.size := hF2.gb
  have u02 := u1.trans u2
  have hr1 : Room S1.length 112 := hr112.le (by omega)
  have hr2 : Room S2.length 112 := hr112.le (by omega)
  refine swp_fit [(1, .int .i64 a), (2, .int .i64 b), (7, .pointer (some ⟨bd1, 0, none⟩)), (9, .bool true), (10, .pointer (some ⟨bd2, 0, none⟩)), (12, .bool true)] ⟨rfl, rfl, rfl, rfl, rfl, rfl, trivial⟩ fun ρ => ?_
  (repeat (first | refine swp_seq ?_ | refine swp_block ?_)); refine swp_region (by kernel_rfl) ?_
  repeat (first | refine x_move (by rfl) ?_ | refine x_as (by rfl) (by rfl) ?_ | refine x_skip (by rfl) ?_ | refine x_fld (by rfl) (by rfl) FldO.h ?_ | refine x_nilck (by rfl) (by rfl) ?_ | refine x_len (by rfl) (by rfl) ElOf.some ?_ | refine x_ext (by rfl) (by rfl) (by rfl) ?_ | refine x_pickT (by rfl) (by rfl) (by rfl) ?_ | refine x_pickF (by rfl) (by rfl) (by rfl) ?_ | refine x_add (by rfl) (by rfl) (by rfl) (by omega) ?_ | refine x_sub (by rfl) (by rfl) (by rfl) (by omega) ?_ | refine x_not (by rfl) (by rfl) ?_)
  refine x_nilw ?_
  (repeat (first | refine swp_seq ?_ | refine swp_block ?_))
  refine swp_false (by rfl) (swp_skip ?_)
  (repeat (first | refine swp_seq ?_ | refine swp_block ?_)); refine swp_region (by kernel_rfl) ?_
  repeat (first | refine x_move (by rfl) ?_ | refine x_as (by rfl) (by rfl) ?_ | refine x_skip (by rfl) ?_ | refine x_fld (by rfl) (by rfl) FldO.h ?_ | refine x_nilck (by rfl) (by rfl) ?_ | refine x_len (by rfl) (by rfl) ElOf.some ?_ | refine x_ext (by rfl) (by rfl) (by rfl) ?_ | refine x_pickT (by rfl) (by rfl) (by rfl) ?_ | refine x_pickF (by rfl) (by rfl) (by rfl) ?_ | refine x_add (by rfl) (by rfl) (by rfl) (by omega) ?_ | refine x_sub (by rfl) (by rfl) (by rfl) (by omega) ?_ | refine x_not (by rfl) (by rfl) ?_)
  refine w_call (by rfl) (by rfl) (by rfl) (due_take a hd1 hr1 (by omega)) ?_
  rintro vx w3 ⟨xs, hX, hXs, hd1x, u3, -⟩
  repeat (first | refine x_move (by rfl) ?_ | refine x_as (by rfl) (by rfl) ?_ | refine x_skip (by rfl) ?_ | refine x_fld (by rfl) (by rfl) FldO.h ?_ | refine x_nilck (by rfl) (by rfl) ?_ | refine x_len (by rfl) (by rfl) ElOf.some ?_ | refine x_ext (by rfl) (by rfl) (by rfl) ?_ | refine x_pickT (by rfl) (by rfl) (by rfl) ?_ | refine x_pickF (by rfl) (by rfl) (by rfl) ?_ | refine x_add (by rfl) (by rfl) (by rfl) (by omega) ?_ | refine x_sub (by rfl) (by rfl) (by rfl) (by omega) ?_ | refine x_not (by rfl) (by rfl) ?_)
  refine x_nilw ?_
  have s3 := u3.size
  have hd2x := hd2.get u3 fun b _ hb h => by have := (g1 b h).2; have := (g2 b hb).1; omega
  have hldx : (S1.dropWhile (by_ a)).length ≤ S1.length := (List.dropWhile_sublist _).length_le
  (repeat (first | refine swp_seq ?_ | refine swp_block ?_)); refine swp_region (by kernel_rfl) ?_
  repeat (first | refine x_move (by rfl) ?_ | refine x_as (by rfl) (by rfl) ?_ | refine x_skip (by rfl) ?_ | refine x_fld (by rfl) (by rfl) FldO.h ?_ | refine x_nilck (by rfl) (by rfl) ?_ | refine x_len (by rfl) (by rfl) ElOf.some ?_ | refine x_ext (by rfl) (by rfl) (by rfl) ?_ | refine x_pickT (by rfl) (by rfl) (by rfl) ?_ | refine x_pickF (by rfl) (by rfl) (by rfl) ?_ | refine x_add (by rfl) (by rfl) (by rfl) (by omega) ?_ | refine x_sub (by rfl) (by rfl) (by rfl) (by omega) ?_ | refine x_not (by rfl) (by rfl) ?_)
  refine w_call (by rfl) (by rfl) (by rfl) (due_take b hd1x (hr1.le (by omega)) (by omega)) ?_
  rintro vy w4 ⟨ys, hY, hYs, hd1y, u4, -⟩
  repeat (first | refine x_move (by rfl) ?_ | refine x_as (by rfl) (by rfl) ?_ | refine x_skip (by rfl) ?_ | refine x_fld (by rfl) (by rfl) FldO.h ?_ | refine x_nilck (by rfl) (by rfl) ?_ | refine x_len (by rfl) (by rfl) ElOf.some ?_ | refine x_ext (by rfl) (by rfl) (by rfl) ?_ | refine x_pickT (by rfl) (by rfl) (by rfl) ?_ | refine x_pickF (by rfl) (by rfl) (by rfl) ?_ | refine x_add (by rfl) (by rfl) (by rfl) (by omega) ?_ | refine x_sub (by rfl) (by rfl) (by rfl) (by omega) ?_ | refine x_not (by rfl) (by rfl) ?_)
  refine x_nilw ?_
  have s4 := u4.size
  have hd2y := hd2x.get u4 fun b _ hb h => by have := (g1 b h).2; have := (g2 b hb).1; omega
  have hX4 := hX.get u4 fun b hb _ h => by have := (g1 b h).2; omega
  (repeat (first | refine swp_seq ?_ | refine swp_block ?_)); refine swp_region (by kernel_rfl) ?_
  repeat (first | refine x_move (by rfl) ?_ | refine x_as (by rfl) (by rfl) ?_ | refine x_skip (by rfl) ?_ | refine x_fld (by rfl) (by rfl) FldO.h ?_ | refine x_nilck (by rfl) (by rfl) ?_ | refine x_len (by rfl) (by rfl) ElOf.some ?_ | refine x_ext (by rfl) (by rfl) (by rfl) ?_ | refine x_pickT (by rfl) (by rfl) (by rfl) ?_ | refine x_pickF (by rfl) (by rfl) (by rfl) ?_ | refine x_add (by rfl) (by rfl) (by rfl) (by omega) ?_ | refine x_sub (by rfl) (by rfl) (by rfl) (by omega) ?_ | refine x_not (by rfl) (by rfl) ?_)
  refine w_call (by rfl) (by rfl) (by rfl) (due_take b hd2y hr2 (by omega)) ?_
  rintro vz w5 ⟨zs, hZ, hZs, hd2z, u5, -⟩
  repeat (first | refine x_move (by rfl) ?_ | refine x_as (by rfl) (by rfl) ?_ | refine x_skip (by rfl) ?_ | refine x_fld (by rfl) (by rfl) FldO.h ?_ | refine x_nilck (by rfl) (by rfl) ?_ | refine x_len (by rfl) (by rfl) ElOf.some ?_ | refine x_ext (by rfl) (by rfl) (by rfl) ?_ | refine x_pickT (by rfl) (by rfl) (by rfl) ?_ | refine x_pickF (by rfl) (by rfl) (by rfl) ?_ | refine x_add (by rfl) (by rfl) (by rfl) (by omega) ?_ | refine x_sub (by rfl) (by rfl) (by rfl) (by omega) ?_ | refine x_not (by rfl) (by rfl) ?_)
  refine x_nilw ?_
  have s5 := u5.size
  have hd1z := hd1y.get u5 fun b _ hb h => by have := (g1 b hb).2; have := (g2 b h).1; omega
  have hX5 := hX4.get u5 fun b hb _ h => by have := (g2 b h).2; omega
  have hY5 := hY.get u5 fun b hb _ h => by have := (g2 b h).2; omega
  have u05 : Ext w w5 := ((u02.trans' u3 fun b hb h => by have := (g1 b h).1; omega).trans' u4 fun b hb h => by have := (g1 b h).1; omega).trans' u5 fun b hb h => by have := (g2 b h).1; omega
  -- what they say
  rw [take_map] at hXs hYs hZs
  rw [drop_map, hSS] at hYs
  rw [hSS] at hXs
  obtain ⟨hsp1, hsp2⟩ := split_take hab (S2.map Wt.says)
  have hlT : ys.length + xs.length ≤ S2.length := by
    have e1 := congrArg List.length hXs
    have e2 := congrArg List.length hYs
    have e3 := congrArg List.length hsp1
    have e4 := ((List.takeWhile_sublist (l := S2.map Wt.says) (bys b)).length_le)
    rw [List.length_append] at e3
    rw [List.length_map] at e1 e2 e4
    omega
  have hDD : ((S1.dropWhile (by_ a)).dropWhile (by_ b)).map Wt.says = (S2.dropWhile (by_ b)).map Wt.says := by rw [drop_map, drop_map, drop_map, hSS, hsp2]
  have hrl : RL w5 vy ys := hY5.rl
  have hyb : ∀ c, isIn vy c → w3.heap.size ≤ c ∧ c < w4.heap.size := fun c hc => ⟨hY.new c hc, hY.own.lt hc⟩
  have hye : ∀ y ∈ ys, ∀ c, y.In c → w3.heap.size ≤ c ∧ c < w4.heap.size := fun y hy c hc => ⟨hY.newE y hy c hc, tWt.lt (hY.each y hy) hc⟩
  have hxb : ∀ c, isIn vx c → w2.heap.size ≤ c ∧ c < w3.heap.size := fun c hc => ⟨hX.new c hc, hX.own.lt hc⟩
  obtain ⟨ay, cy, rfl⟩ := hrl.rd.slice
  refine swp_fit [(7, .pointer (some ⟨bd1, 0, none⟩)), (10, .pointer (some ⟨bd2, 0, none⟩)), (13, vx), (14, .slice ay ys.length cy), (15, vz)] ⟨rfl, rfl, rfl, rfl, rfl, trivial⟩ fun ρ => ?_
  (repeat (first | refine swp_seq ?_ | refine swp_block ?_)); refine swp_region (by kernel_rfl) ?_
  repeat (first | refine x_move (by rfl) ?_ | refine x_as (by rfl) (by rfl) ?_ | refine x_skip (by rfl) ?_ | refine x_fld (by rfl) (by rfl) FldO.h ?_ | refine x_nilck (by rfl) (by rfl) ?_ | refine x_len (by rfl) (by rfl) ElOf.some ?_ | refine x_ext (by rfl) (by rfl) (by rfl) ?_ | refine x_pickT (by rfl) (by rfl) (by rfl) ?_ | refine x_pickF (by rfl) (by rfl) (by rfl) ?_ | refine x_add (by rfl) (by rfl) (by rfl) (by omega) ?_ | refine x_sub (by rfl) (by rfl) (by rfl) (by omega) ?_ | refine x_not (by rfl) (by rfl) ?_)
  refine x_nilw ?_
  (repeat (first | refine swp_seq ?_ | refine swp_block ?_))
  refine swp_loop (fun (i : Nat) σ w6 => ∃ sv, At σ [(7, .pointer (some ⟨bd1, 0, none⟩)), (10, .pointer (some ⟨bd2, 0, none⟩)), (13, sv), (14, .slice ay ys.length cy), (15, vz), (16, .int .i64 (i : Nat))] ∧ i ≤ ys.length ∧ Lst tWt 40 w2 w6 sv (xs ++ ys.take i) ∧ (∀ c, isIn sv c → w2.heap.size ≤ c ∧ (c < w3.heap.size ∨ w5.heap.size ≤ c)) ∧ Upd (fun c => w2.heap.size ≤ c ∧ c < w3.heap.size) w5 w6) (fun i => ys.length - i) 0 ⟨vx, at_ ⟨rfl, rfl, rfl, rfl, rfl, rfl, trivial⟩, by omega, by simpa using hX5, fun c hc => ⟨(hxb c hc).1, .inl (hxb c hc).2⟩, Upd.refl _ _⟩ ?_
  rintro i σ w6 ⟨sv, ⟨ρ, rfl⟩, hi, hL, hsb, u6⟩
  have s6 := u6.size
  have hr6 : RL w6 (.slice ay ys.length cy) ys := ⟨hrl.rd.get0 u6 fun c _ hc h => by have := (hyb c hc).1; omega, fun y hy => (hrl.each y hy).get u6 fun c hc h => by have := (hye y hy c hc).1; omega⟩
  (repeat (first | refine swp_seq ?_ | refine swp_block ?_)); refine swp_region (by kernel_rfl) ?_
  repeat (first | refine x_move (by rfl) ?_ | refine x_as (by rfl) (by rfl) ?_ | refine x_skip (by rfl) ?_ | refine x_fld (by rfl) (by rfl) FldO.h ?_ | refine w_load (by rfl) (by rfl) (load_one OneT.h (by assumption) (by rfl)) ?_ | refine x_nilck (by rfl) (by rfl) ?_ | refine x_len (by rfl) (by rfl) ElOf.some ?_ | refine x_iface (by rfl) (by rfl) NIf.h ?_ | refine x_ext (by rfl) (by rfl) (by rfl) ?_ | refine x_pickT (by rfl) (by rfl) (by rfl) ?_ | refine x_pickF (by rfl) (by rfl) (by rfl) ?_ | refine x_add (by rfl) (by rfl) (by rfl) (by omega) ?_ | refine x_sub (by rfl) (by rfl) (by rfl) (by omega) ?_ | refine x_lss (by rfl) (by rfl) (by rfl) ?_ | refine x_geq (by rfl) (by rfl) (by rfl) ?_ | refine x_leq (by rfl) (by rfl) (by rfl) ?_ | refine x_gtr (by rfl) (by rfl) (by rfl) ?_ | refine x_eql (by rfl) (by rfl) (by rfl) ?_ | refine x_neq (by rfl) (by rfl) (by rfl) ?_ | refine x_not (by rfl) (by rfl) ?_)
  refine x_nilw ?_
  (repeat (first | refine swp_seq ?_ | refine swp_block ?_))
  refine swp_if (by rfl) (fun h0 => swp_skip ?_) (fun h0 => ?_)
  · have hi' : i < ys.length := by omega
    obtain ⟨y, hy⟩ := nthE hi'
    have hym := List.mem_of_getElem? hy
    obtain ⟨b2, o2, d2, he2, -, -⟩ := hr6.rd.pos (by omega)
    simp only [Value.slice.injEq] at he2
    obtain ⟨rfl, _, rfl⟩ := he2
    (repeat (first | with_reducible refine n_then ?_ | with_reducible refine n_block ?_ | with_reducible refine n_jump ?_))
    (repeat (first | refine swp_seq ?_ | refine swp_block ?_)); refine swp_region (by kernel_rfl) ?_
    repeat (first | refine x_move (by rfl) ?_ | refine x_as (by rfl) (by rfl) ?_ | refine x_skip (by rfl) ?_ | refine x_fld (by rfl) (by rfl) FldO.h ?_ | refine x_nilck (by rfl) (by rfl) ?_ | refine x_len (by rfl) (by rfl) ElOf.some ?_ | refine x_ext (by rfl) (by rfl) (by rfl) ?_ | refine x_pickT (by rfl) (by rfl) (by rfl) ?_ | refine x_pickF (by rfl) (by rfl) (by rfl) ?_ | refine x_add (by rfl) (by rfl) (by rfl) (by omega) ?_ | refine x_sub (by rfl) (by rfl) (by rfl) (by omega) ?_ | refine x_not (by rfl) (by rfl) ?_)
    refine x_idx i (by rfl) (by rfl) (by rfl) ElSz.h rfl hi' ?_
    refine w_load (by rfl) (by rfl) (rd_load wt_len AggT.h hr6.rd hy rfl rfl) ?_
    refine w_bslice (e := 40) (cs := y.cells) (by rfl) (by rfl) (by rfl) (by kernel_rfl) ?_
    intro b7 w7 e7 u7 h7
    have hlen : (xs ++ ys.take i).length = xs.length + i := by rw [List.length_append, List.length_take]; omega
    refine w_append (more := []) (news := y.cells) (by rfl) (by rfl) (by rfl) (by rfl) SlC.h (hL.own.at u7) (by rw [List.append_nil]; exact h7) (wt_len _) (wt_one _) (by omega) (hr104.le (by rw [hlen]; omega)) ?_
    intro sv' w8 own8 u8 in8
    repeat (first | refine x_move (by rfl) ?_ | refine x_as (by rfl) (by rfl) ?_ | refine x_skip (by rfl) ?_ | refine x_fld (by rfl) (by rfl) FldO.h ?_ | refine x_nilck (by rfl) (by rfl) ?_ | refine x_len (by rfl) (by rfl) ElOf.some ?_ | refine x_ext (by rfl) (by rfl) (by rfl) ?_ | refine x_pickT (by rfl) (by rfl) (by rfl) ?_ | refine x_pickF (by rfl) (by rfl) (by rfl) ?_ | refine x_add (by rfl) (by rfl) (by rfl) (by omega) ?_ | refine x_sub (by rfl) (by rfl) (by rfl) (by omega) ?_ | refine x_not (by rfl) (by rfl) ?_)
    refine x_nilw ?_
    have s7 := u7.size
    have hL8 := hL.push2 (T := tWt) (r := y) (by omega) ((hr6.each y hym).at u7) (fun c hc => ⟨by have := (hye y hym c hc).1; omega, fun h => by have := hye y hym c hc; have := (hsb c h).2; omega⟩) u7 own8 u8 in8
    (repeat (first | with_reducible refine n_then ?_ | with_reducible refine n_block ?_ | with_reducible refine n_jump ?_))
    (repeat (first | refine swp_seq ?_ | refine swp_block ?_)); refine swp_region (by kernel_rfl) ?_
    repeat (first | refine x_move (by rfl) ?_ | refine x_as (by rfl) (by rfl) ?_ | refine x_skip (by rfl) ?_ | refine x_fld (by rfl) (by rfl) FldO.h ?_ | refine w_load (by rfl) (by rfl) (load_one OneT.h (by assumption) (by rfl)) ?_ | refine x_nilck (by rfl) (by rfl) ?_ | refine x_len (by rfl) (by rfl) ElOf.some ?_ | refine x_iface (by rfl) (by rfl) NIf.h ?_ | refine x_ext (by rfl) (by rfl) (by rfl) ?_ | refine x_pickT (by rfl) (by rfl) (by rfl) ?_ | refine x_pickF (by rfl) (by rfl) (by rfl) ?_ | refine x_add (by rfl) (by rfl) (by rfl) (by omega) ?_ | refine x_sub (by rfl) (by rfl) (by rfl) (by omega) ?_ | refine x_lss (by rfl) (by rfl) (by rfl) ?_ | refine x_geq (by rfl) (by rfl) (by rfl) ?_ | refine x_leq (by rfl) (by rfl) (by rfl) ?_ | refine x_gtr (by rfl) (by rfl) (by rfl) ?_ | refine x_eql (by rfl) (by rfl) (by rfl) ?_ | refine x_neq (by rfl) (by rfl) (by rfl) ?_ | refine x_not (by rfl) (by rfl) ?_)
    refine x_nilw ?_
    refine ⟨i + 1, ⟨sv', at_ ⟨rfl, rfl, rfl, rfl, rfl, rfl, trivial⟩, hi', ?_, fun c hc => ?_, (u6.ext u7).trans' u8 fun c hc h => by have := hsb c h; omega⟩, by omega⟩
    · rw [take_succ' hy, ← List.append_assoc]; exact hL8
    · rcases in8 c hc with h | h
      · exact hsb c h
      · exact ⟨by omega, .inr (by omega)⟩
  · have hin : i = ys.length := by omega
    subst hin
    rw [List.take_length] at hL
    refine swp_exit ?_; (repeat (first | with_reducible refine e_then ?_ | with_reducible refine e_jump ?_)); refine e_block ?_; (repeat (first | with_reducible refine n_then ?_ | with_reducible refine n_block ?_ | with_reducible refine n_jump ?_))
    have hZ6 := hZ.get u6 fun c hc _ h => by omega
    have hd1e := hd1z.get u6 fun c _ hc h => by have := (g1 c hc).2; omega
    have hd2e := hd2z.get u6 fun c _ hc h => by have := (g2 c hc).2; omega
    have hxy : (xs ++ ys).map Wt.says = zs.map Wt.says := by rw [List.map_append, hXs, hYs, hsp1, hZs]
    have u06 : Ext w w6 := u05.trans' u6 fun c hc h => by omega
    have hl3 : ((S1.dropWhile (by_ a)).dropWhile (by_ b)).length ≤ S1.length := Nat.le_trans (List.dropWhile_sublist _).length_le hldx
    have hl4 : (S2.dropWhile (by_ b)).length ≤ S2.length := (List.dropWhile_sublist _).length_le
    (repeat (first | refine swp_seq ?_ | refine swp_block ?_)); refine swp_region (by kernel_rfl) ?_
    repeat (first | refine x_move (by rfl) ?_ | refine x_as (by rfl) (by rfl) ?_ | refine x_skip (by rfl) ?_ | refine x_fld (by rfl) (by rfl) FldO.h ?_ | refine x_nilck (by rfl) (by rfl) ?_ | refine x_len (by rfl) (by rfl) ElOf.some ?_ | refine x_ext (by rfl) (by rfl) (by rfl) ?_ | refine x_pickT (by rfl) (by rfl) (by rfl) ?_ | refine x_pickF (by rfl) (by rfl) (by rfl) ?_ | refine x_add (by rfl) (by rfl) (by rfl) (by omega) ?_ | refine x_sub (by rfl) (by rfl) (by rfl) (by omega) ?_ | refine x_not (by rfl) (by rfl) ?_)
    refine w_call (by rfl) (by rfl) (by rfl) (same_all hL.rl hZ6.rl hxy (by rw [List.length_append]; omega)) ?_
    rintro _ w7 ⟨rfl, u7⟩
    repeat (first | refine x_move (by rfl) ?_ | refine x_as (by rfl) (by rfl) ?_ | refine x_skip (by rfl) ?_ | refine x_fld (by rfl) (by rfl) FldO.h ?_ | refine x_nilck (by rfl) (by rfl) ?_ | refine x_len (by rfl) (by rfl) ElOf.some ?_ | refine x_ext (by rfl) (by rfl) (by rfl) ?_ | refine x_pickT (by rfl) (by rfl) (by rfl) ?_ | refine x_pickF (by rfl) (by rfl) (by rfl) ?_ | refine x_add (by rfl) (by rfl) (by rfl) (by omega) ?_ | refine x_sub (by rfl) (by rfl) (by rfl) (by omega) ?_ | refine x_not (by rfl) (by rfl) ?_)
    refine w_call (by rfl) (by rfl) (by rfl) (due_list (hd1e.at u7) (hr1.le (by omega)) (by omega)) ?_
    rintro vp w8 ⟨ps, hP, hPs, u8⟩
    repeat (first | refine x_move (by rfl) ?_ | refine x_as (by rfl) (by rfl) ?_ | refine x_skip (by rfl) ?_ | refine x_fld (by rfl) (by rfl) FldO.h ?_ | refine x_nilck (by rfl) (by rfl) ?_ | refine x_len (by rfl) (by rfl) ElOf.some ?_ | refine x_ext (by rfl) (by rfl) (by rfl) ?_ | refine x_pickT (by rfl) (by rfl) (by rfl) ?_ | refine x_pickF (by rfl) (by rfl) (by rfl) ?_ | refine x_add (by rfl) (by rfl) (by rfl) (by omega) ?_ | refine x_sub (by rfl) (by rfl) (by rfl) (by omega) ?_ | refine x_not (by rfl) (by rfl) ?_)
    refine w_call (by rfl) (by rfl) (by rfl) (due_list ((hd2e.at u7).at u8) (hr2.le (by omega)) (by omega)) ?_
    rintro vq w9 ⟨qs, hQ, hQs, u9⟩
    have hlp : ps.length = ((S1.dropWhile (by_ a)).dropWhile (by_ b)).length := by simpa using congrArg List.length hPs
    refine w_call (by rfl) (by rfl) (by rfl) (same_all (hP.at u9).rl hQ.rl (by rw [hPs, hQs, hDD]) (by omega)) ?_
    rintro _ w10 ⟨rfl, u10⟩
    repeat (first | refine x_move (by rfl) ?_ | refine x_as (by rfl) (by rfl) ?_ | refine x_skip (by rfl) ?_ | refine x_fld (by rfl) (by rfl) FldO.h ?_ | refine x_nilck (by rfl) (by rfl) ?_ | refine x_len (by rfl) (by rfl) ElOf.some ?_ | refine x_ext (by rfl) (by rfl) (by rfl) ?_ | refine x_pickT (by rfl) (by rfl) (by rfl) ?_ | refine x_pickF (by rfl) (by rfl) (by rfl) ?_ | refine x_add (by rfl) (by rfl) (by rfl) (by omega) ?_ | refine x_sub (by rfl) (by rfl) (by rfl) (by omega) ?_ | refine x_not (by rfl) (by rfl) ?_)
    refine x_nilw ?_
    refine swp_ret ?_; (repeat (first | with_reducible refine r_then ?_ | with_reducible refine r_block ?_ | with_reducible refine r_jump ?_))
    exact post1 rfl rfl ⟨_, rfl, rfl, (((u06.trans u7).trans u8).trans u9).trans u10⟩
end Go.Proofs.Ytpnigekkbmanlaa
