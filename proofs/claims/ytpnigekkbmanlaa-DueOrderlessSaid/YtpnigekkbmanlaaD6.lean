/- DueOrderless' walk: it answers true. Conditions: what is read; room. -/
import Derived.Test.YtpnigekkbmanlaaD10
namespace Go.Proofs.Ytpnigekkbmanlaa
open Sx Hp

theorem unlike_apart {l : List Wt} (h : Unlike l) : Apart wls (l.map Wt.says) := by
  refine List.pairwise_map.2 (h.imp fun {x y} hxy => ?_)
  exact klt_tot.tri x.m.key y.m.key hxy
theorem Unlike.perm {l l' : List Wt} (h : Unlike l) (hp : l.Perm l') : Unlike l' := List.Pairwise.perm h hp fun h => h.symm
/-- round from the place r -/
def round {α : Type} (B : List α) (r : Nat) : List α := B.drop r ++ B.take r
theorem round_perm {α : Type} (B : List α) (r : Nat) : (round B r).Perm B := by
  have := List.perm_append_comm (l₁ := B.drop r) (l₂ := B.take r)
  rwa [List.take_append_drop] at this
theorem round_len {α : Type} (B : List α) (r : Nat) : (round B r).length = B.length := (round_perm B r).length_eq
theorem round_get {α : Type} {B : List α} {r i : Nat} (hr : r < B.length) (hi : i < B.length) : (round B r)[i]? = B[(r + i) % B.length]? := by
  unfold round
  rcases Nat.lt_or_ge (r + i) B.length with h | h
  · rw [List.getElem?_append_left (by rw [List.length_drop]; omega), List.getElem?_drop, Nat.mod_eq_of_lt h]
  · have e : (r + i) % B.length = r + i - B.length := by
      rw [Nat.mod_eq_sub_mod h, Nat.mod_eq_of_lt (by omega)]
    rw [List.getElem?_append_right (by rw [List.length_drop]; omega), List.length_drop, List.getElem?_take, if_pos (by omega), e]
    congr 1
    omega

set_option maxHeartbeats 4000000 in
set_option maxRecDepth 100000 in
theorem walk6 {w : World} {a0 : Option Addr} {c0 : Nat} {ls : List Wt} (turn : Int) (back : Bool) (h1 : RL w (.slice a0 ls.length c0) ls) (hb : ls.length * 104 ≤ 140737488351232) :
    Gets Try.prog 6 [.slice a0 ls.length c0, .int .i64 turn, .bool back] w fun v w' => v = .bool true ∧ Ext w w' := by
  have hr112 : Room ls.length 112 := by
    refine ⟨by omega, ?_⟩
    rw [Nat.add_mul, Nat.add_mul]
    omega
  have hr104 : Room ls.length 104 := hr112.bytes (by omega)
  refine ⟨GoFn.h, calls_of_swp 84 Try.func6 Try.ntmps6 rfl (Nat.le_of_ble_eq_true rfl) ?_⟩
  (repeat (first | refine swp_seq ?_ | refine swp_block ?_)); refine swp_region (by kernel_rfl) ?_
  repeat (first | refine x_move (by rfl) ?_ | refine x_as (by rfl) (by rfl) ?_ | refine x_skip (by rfl) ?_ | refine x_fld (by rfl) (by rfl) FldO.h ?_ | refine x_nilck (by rfl) (by rfl) ?_ | refine x_len (by rfl) (by rfl) ElOf.some ?_ | refine x_ext (by rfl) (by rfl) (by rfl) ?_ | refine x_pickT (by rfl) (by rfl) (by rfl) ?_ | refine x_pickF (by rfl) (by rfl) (by rfl) ?_ | refine x_add (by rfl) (by rfl) (by rfl) (by omega) ?_ | refine x_sub (by rfl) (by rfl) (by rfl) (by omega) ?_ | refine x_not (by rfl) (by rfl) ?_)
  refine x_nilw ?_
  (repeat (first | refine swp_seq ?_ | refine swp_block ?_)); refine swp_region (by kernel_rfl) ?_
  repeat (first | refine x_move (by rfl) ?_ | refine x_as (by rfl) (by rfl) ?_ | refine x_skip (by rfl) ?_ | refine x_fld (by rfl) (by rfl) FldO.h ?_ | refine x_nilck (by rfl) (by rfl) ?_ | refine x_len (by rfl) (by rfl) ElOf.some ?_ | refine x_ext (by rfl) (by rfl) (by rfl) ?_ | refine x_pickT (by rfl) (by rfl) (by rfl) ?_ | refine x_pickF (by rfl) (by rfl) (by rfl) ?_ | refine x_add (by rfl) (by rfl) (by rfl) (by omega) ?_ | refine x_sub (by rfl) (by rfl) (by rfl) (by omega) ?_ | refine x_not (by rfl) (by rfl) ?_)
  refine w_call (by rfl) (by rfl) (by rfl) (filled h1 hb) ?_
  rintro _ w1 ⟨bd0, G0, S0, N0, vi0, rfl, hN0, hF0⟩
  repeat (first | refine x_move (by rfl) ?_ | refine x_as (by rfl) (by rfl) ?_ | refine x_skip (by rfl) ?_ | refine x_fld (by rfl) (by rfl) FldO.h ?_ | refine x_nilck (by rfl) (by rfl) ?_ | refine x_len (by rfl) (by rfl) ElOf.some ?_ | refine x_ext (by rfl) (by rfl) (by rfl) ?_ | refine x_pickT (by rfl) (by rfl) (by rfl) ?_ | refine x_pickF (by rfl) (by rfl) (by rfl) ?_ | refine x_add (by rfl) (by rfl) (by rfl) (by omega) ?_ | refine x_sub (by rfl) (by rfl) (by rfl) (by omega) ?_ | refine x_not (by rfl) (by rfl) ?_)
  refine x_nilw ?_
  have u1 := hF0.ext
  have hfl := foldl_len ls []
  rw [List.length_nil, Nat.zero_add] at hfl
  have hun : Unlike (ls.foldl addTo []) := foldl_unlike ls [] List.Pairwise.nil
  have hinm : ∀ y ∈ ls.foldl addTo [], y ∈ ls := fun y hy => by simpa using mem_foldl_addTo _ _ hy
  have hown := hF0.own
  generalize ls.foldl addTo [] = IN at hfl hun hinm hown
  obtain ⟨ai, ci, rfl⟩ := hown.slice
  have rI : RL w1 (.slice ai IN.length ci) IN := ⟨hown.rd, fun y hy => (h1.each y (hinm y hy)).at u1⟩
  have hall1 := foldl_all IN [] (by simpa using hun)
  rw [List.nil_append] at hall1
  refine swp_fit [(1, .int .i64 turn), (2, .bool back), (8, .slice ai IN.length ci), (9, .bool true)] ⟨rfl, rfl, rfl, rfl, trivial⟩ fun ρ => ?_
  (repeat (first | refine swp_seq ?_ | refine swp_block ?_)); refine swp_region (by kernel_rfl) ?_
  repeat (first | refine x_move (by rfl) ?_ | refine x_as (by rfl) (by rfl) ?_ | refine x_skip (by rfl) ?_ | refine x_fld (by rfl) (by rfl) FldO.h ?_ | refine x_nilck (by rfl) (by rfl) ?_ | refine x_len (by rfl) (by rfl) ElOf.some ?_ | refine x_ext (by rfl) (by rfl) (by rfl) ?_ | refine x_pickT (by rfl) (by rfl) (by rfl) ?_ | refine x_pickF (by rfl) (by rfl) (by rfl) ?_ | refine x_add (by rfl) (by rfl) (by rfl) (by omega) ?_ | refine x_sub (by rfl) (by rfl) (by rfl) (by omega) ?_ | refine x_not (by rfl) (by rfl) ?_)
  refine x_nilw ?_
  (repeat (first | refine swp_seq ?_ | refine swp_block ?_))
  refine swp_false (by rfl) (swp_skip ?_)
  (repeat (first | refine swp_seq ?_ | refine swp_block ?_)); refine swp_region (by kernel_rfl) ?_
  repeat (first | refine x_move (by rfl) ?_ | refine x_as (by rfl) (by rfl) ?_ | refine x_skip (by rfl) ?_ | refine x_fld (by rfl) (by rfl) FldO.h ?_ | refine x_nilck (by rfl) (by rfl) ?_ | refine x_len (by rfl) (by rfl) ElOf.some ?_ | refine x_ext (by rfl) (by rfl) (by rfl) ?_ | refine x_pickT (by rfl) (by rfl) (by rfl) ?_ | refine x_pickF (by rfl) (by rfl) (by rfl) ?_ | refine x_add (by rfl) (by rfl) (by rfl) (by omega) ?_ | refine x_sub (by rfl) (by rfl) (by rfl) (by omega) ?_ | refine x_not (by rfl) (by rfl) ?_)
  refine w_call (by rfl) (by rfl) (by rfl) (filled rI (by omega)) ?_
  rintro _ w2 ⟨bd1, G1, S1, N1, vi1, rfl, hN1, hF1⟩
  rw [hall1] at hF1
  repeat (first | refine x_move (by rfl) ?_ | refine x_as (by rfl) (by rfl) ?_ | refine x_skip (by rfl) ?_ | refine x_fld (by rfl) (by rfl) FldO.h ?_ | refine x_nilck (by rfl) (by rfl) ?_ | refine x_len (by rfl) (by rfl) ElOf.some ?_ | refine x_ext (by rfl) (by rfl) (by rfl) ?_ | refine x_pickT (by rfl) (by rfl) (by rfl) ?_ | refine x_pickF (by rfl) (by rfl) (by rfl) ?_ | refine x_add (by rfl) (by rfl) (by rfl) (by omega) ?_ | refine x_sub (by rfl) (by rfl) (by rfl) (by omega) ?_ | refine x_not (by rfl) (by rfl) ?_)
  refine x_nilw ?_
  have u2 := hF1.ext
  have rI2 := rI.at u2
  refine swp_fit [(1, .int .i64 turn), (2, .bool back), (8, .slice ai IN.length ci), (10, .pointer (some ⟨bd1, 0, none⟩)), (12, .bool true)] ⟨rfl, rfl, rfl, rfl, rfl, trivial⟩ fun ρ => ?_
  (repeat (first | refine swp_seq ?_ | refine swp_block ?_)); refine swp_region (by kernel_rfl) ?_
  repeat (first | refine x_move (by rfl) ?_ | refine x_as (by rfl) (by rfl) ?_ | refine x_skip (by rfl) ?_ | refine x_fld (by rfl) (by rfl) FldO.h ?_ | refine x_nilck (by rfl) (by rfl) ?_ | refine x_len (by rfl) (by rfl) ElOf.some ?_ | refine x_ext (by rfl) (by rfl) (by rfl) ?_ | refine x_pickT (by rfl) (by rfl) (by rfl) ?_ | refine x_pickF (by rfl) (by rfl) (by rfl) ?_ | refine x_add (by rfl) (by rfl) (by rfl) (by omega) ?_ | refine x_sub (by rfl) (by rfl) (by rfl) (by omega) ?_ | refine x_not (by rfl) (by rfl) ?_)
  refine x_nilw ?_
  (repeat (first | refine swp_seq ?_ | refine swp_block ?_))
  refine swp_false (by rfl) (swp_skip ?_)
  (repeat (first | refine swp_seq ?_ | refine swp_block ?_)); refine swp_region (by kernel_rfl) ?_
  repeat (first | refine x_move (by rfl) ?_ | refine x_as (by rfl) (by rfl) ?_ | refine x_skip (by rfl) ?_ | refine x_fld (by rfl) (by rfl) FldO.h ?_ | refine x_nilck (by rfl) (by rfl) ?_ | refine x_len (by rfl) (by rfl) ElOf.some ?_ | refine x_ext (by rfl) (by rfl) (by rfl) ?_ | refine x_pickT (by rfl) (by rfl) (by rfl) ?_ | refine x_pickF (by rfl) (by rfl) (by rfl) ?_ | refine x_add (by rfl) (by rfl) (by rfl) (by omega) ?_ | refine x_sub (by rfl) (by rfl) (by rfl) (by omega) ?_ | refine x_not (by rfl) (by rfl) ?_)
  refine x_nilw ?_
  (repeat (first | refine swp_seq ?_ | refine swp_block ?_)); refine swp_region (by kernel_rfl) ?_
  repeat (first | refine x_move (by rfl) ?_ | refine x_as (by rfl) (by rfl) ?_ | refine x_skip (by rfl) ?_ | refine x_fld (by rfl) (by rfl) FldO.h ?_ | refine x_nilck (by rfl) (by rfl) ?_ | refine x_len (by rfl) (by rfl) ElOf.some ?_ | refine x_ext (by rfl) (by rfl) (by rfl) ?_ | refine x_pickT (by rfl) (by rfl) (by rfl) ?_ | refine x_pickF (by rfl) (by rfl) (by rfl) ?_ | refine x_add (by rfl) (by rfl) (by rfl) (by omega) ?_ | refine x_sub (by rfl) (by rfl) (by rfl) (by omega) ?_ | refine x_not (by rfl) (by rfl) ?_)
  refine x_nilw ?_
  obtain ⟨B, hB⟩ : ∃ B, B = if back then IN.reverse else IN := ⟨_, rfl⟩
  have hBl : B.length = IN.length := by rw [hB]; split <;> simp
  have hBp : B.Perm IN := by
    rw [hB]
    split
    · exact List.reverse_perm IN
    · exact List.Perm.refl _
  obtain ⟨r, hr⟩ : ∃ r : Nat, 0 < IN.length → r < IN.length ∧ (r : Int) = if turn.tmod IN.length < 0 then turn.tmod IN.length + IN.length else turn.tmod IN.length := by
    rcases Nat.eq_zero_or_pos IN.length with h | h
    · exact ⟨0, fun h' => by omega⟩
    · have q1 : turn.tmod IN.length < IN.length := Int.tmod_lt_of_pos turn (by omega)
      have q2 : -(IN.length : Int) < turn.tmod IN.length := Int.lt_tmod_of_pos turn (by omega)
      by_cases hneg : turn.tmod IN.length < 0
      · exact ⟨(turn.tmod IN.length + IN.length).toNat, fun _ => ⟨by omega, by rw [if_pos hneg]; omega⟩⟩
      · exact ⟨(turn.tmod IN.length).toNat, fun _ => ⟨by omega, by rw [if_neg hneg]; omega⟩⟩
  refine swp_fit [(1, .int .i64 turn), (2, .bool back), (8, .slice ai IN.length ci), (10, .pointer (some ⟨bd1, 0, none⟩)), (13, .slice none 0 0), (14, .int .i64 ((0 : Nat) : Int))] ⟨rfl, rfl, rfl, rfl, rfl, rfl, trivial⟩ fun ρ => ?_
  (repeat (first | refine swp_seq ?_ | refine swp_block ?_))
  refine swp_loop (fun (i : Nat) σ w3 => ∃ sv, At σ [(1, .int .i64 turn), (2, .bool back), (8, .slice ai IN.length ci), (10, .pointer (some ⟨bd1, 0, none⟩)), (13, sv), (14, .int .i64 (i : Nat))] ∧ i ≤ IN.length ∧ Own w3 40 5 sv ((round B r).take i).length (fl Wt.cells ((round B r).take i)) ∧ (∀ b, isIn sv b → w2.heap.size ≤ b) ∧ Ext w2 w3) (fun i => IN.length - i) 0 ⟨.slice none 0 0, at_ ⟨rfl, rfl, rfl, rfl, rfl, rfl, trivial⟩, by omega, by rw [List.take_zero]; exact Own.nil _ _ _, fun b h => h.elim, Upd.refl _ _⟩ ?_
  rintro i σ w3 ⟨sv, ⟨ρ, rfl⟩, hi, hO, hOb, u3⟩
  have hrl := round_len B r
  have htl : ((round B r).take i).length = i := by rw [List.length_take]; omega
  rw [htl] at hO
  (repeat (first | refine swp_seq ?_ | refine swp_block ?_)); refine swp_region (by kernel_rfl) ?_
  repeat (first | refine x_move (by rfl) ?_ | refine x_as (by rfl) (by rfl) ?_ | refine x_skip (by rfl) ?_ | refine x_fld (by rfl) (by rfl) FldO.h ?_ | refine w_load (by rfl) (by rfl) (load_one OneT.h (by assumption) (by rfl)) ?_ | refine x_nilck (by rfl) (by rfl) ?_ | refine x_len (by rfl) (by rfl) ElOf.some ?_ | refine x_iface (by rfl) (by rfl) NIf.h ?_ | refine x_ext (by rfl) (by rfl) (by rfl) ?_ | refine x_pickT (by rfl) (by rfl) (by rfl) ?_ | refine x_pickF (by rfl) (by rfl) (by rfl) ?_ | refine x_add (by rfl) (by rfl) (by rfl) (by omega) ?_ | refine x_sub (by rfl) (by rfl) (by rfl) (by omega) ?_ | refine x_lss (by rfl) (by rfl) (by rfl) ?_ | refine x_geq (by rfl) (by rfl) (by rfl) ?_ | refine x_leq (by rfl) (by rfl) (by rfl) ?_ | refine x_gtr (by rfl) (by rfl) (by rfl) ?_ | refine x_eql (by rfl) (by rfl) (by rfl) ?_ | refine x_neq (by rfl) (by rfl) (by rfl) ?_ | refine x_not (by rfl) (by rfl) ?_)
  refine x_nilw ?_
  (repeat (first | refine swp_seq ?_ | refine swp_block ?_))
  refine swp_if (by rfl) (fun h0 => swp_skip ?_) (fun h0 => ?_)
  · have hi' : i < IN.length := by omega
    have hn0 : 0 < IN.length := by omega
    obtain ⟨hr1, hr2⟩ := hr hn0
    have rI3 := rI2.at u3
    obtain ⟨b2, o2, d2, he2, -, -⟩ := rI3.rd.pos (by omega)
    simp only [Value.slice.injEq] at he2
    obtain ⟨rfl, _, rfl⟩ := he2
    obtain ⟨x, hx⟩ := nthE (L := round B r) (i := i) (by omega)
    have hx2 := hx
    rw [round_get (by omega) (by omega), hBl] at hx2
    have hm : (r + i) % IN.length < IN.length := Nat.mod_lt _ hn0
    (repeat (first | with_reducible refine n_then ?_ | with_reducible refine n_block ?_ | with_reducible refine n_jump ?_))
    (repeat (first | refine swp_seq ?_ | refine swp_block ?_)); refine swp_region (by kernel_rfl) ?_
    repeat (first | refine x_move (by rfl) ?_ | refine x_as (by rfl) (by rfl) ?_ | refine x_skip (by rfl) ?_ | refine x_fld (by rfl) (by rfl) FldO.h ?_ | refine x_nilck (by rfl) (by rfl) ?_ | refine x_len (by rfl) (by rfl) ElOf.some ?_ | refine x_ext (by rfl) (by rfl) (by rfl) ?_ | refine x_pickT (by rfl) (by rfl) (by rfl) ?_ | refine x_pickF (by rfl) (by rfl) (by rfl) ?_ | refine x_add (by rfl) (by rfl) (by rfl) (by omega) ?_ | refine x_sub (by rfl) (by rfl) (by rfl) (by omega) ?_ | refine x_not (by rfl) (by rfl) ?_)
    refine x_rem (by rfl) (by rfl) (by rfl) (by omega) ?_
    repeat (first | refine x_move (by rfl) ?_ | refine x_as (by rfl) (by rfl) ?_ | refine x_skip (by rfl) ?_ | refine x_fld (by rfl) (by rfl) FldO.h ?_ | refine x_nilck (by rfl) (by rfl) ?_ | refine x_len (by rfl) (by rfl) ElOf.some ?_ | refine x_ext (by rfl) (by rfl) (by rfl) ?_ | refine x_pickT (by rfl) (by rfl) (by rfl) ?_ | refine x_pickF (by rfl) (by rfl) (by rfl) ?_ | refine x_add (by rfl) (by rfl) (by rfl) (by omega) ?_ | refine x_sub (by rfl) (by rfl) (by rfl) (by omega) ?_ | refine x_not (by rfl) (by rfl) ?_)
    refine x_nilw ?_
    refine swp_fit [(1, .int .i64 turn), (2, .bool back), (8, .slice (some ⟨b2, o2, none⟩) IN.length ci), (10, .pointer (some ⟨bd1, 0, none⟩)), (13, sv), (14, .int .i64 (i : Nat)), (15, .int .i64 (turn.tmod IN.length))] ⟨rfl, rfl, rfl, rfl, rfl, rfl, rfl, trivial⟩ fun ρ => ?_
    have q1 : turn.tmod IN.length < IN.length := Int.tmod_lt_of_pos turn (by omega)
    have q2 : -(IN.length : Int) < turn.tmod IN.length := Int.lt_tmod_of_pos turn (by omega)
    refine swp_seq ?_
    refine PEv.swp_cutQ (fun σ w' => At σ [(1, .int .i64 turn), (2, .bool back), (8, .slice (some ⟨b2, o2, none⟩) IN.length ci), (10, .pointer (some ⟨bd1, 0, none⟩)), (13, sv), (14, .int .i64 (i : Nat)), (15, .int .i64 (r : Nat))] ∧ w3 = w') ?_ ?_
    · by_cases hneg : turn.tmod IN.length < 0
      · rw [if_pos hneg] at hr2
        (repeat (first | refine swp_seq ?_ | refine swp_block ?_)); refine swp_region (by kernel_rfl) ?_
        repeat (first | refine x_move (by rfl) ?_ | refine x_as (by rfl) (by rfl) ?_ | refine x_skip (by rfl) ?_ | refine x_fld (by rfl) (by rfl) FldO.h ?_ | refine x_nilck (by rfl) (by rfl) ?_ | refine x_len (by rfl) (by rfl) ElOf.some ?_ | refine x_ext (by rfl) (by rfl) (by rfl) ?_ | refine x_pickT (by rfl) (by rfl) (by rfl) ?_ | refine x_pickF (by rfl) (by rfl) (by rfl) ?_ | refine x_add (by rfl) (by rfl) (by rfl) (by omega) ?_ | refine x_sub (by rfl) (by rfl) (by rfl) (by omega) ?_ | refine x_not (by rfl) (by rfl) ?_)
        refine x_lssT (by rfl) (by rfl) (by rfl) hneg ?_
        refine x_nilw ?_
        (repeat (first | refine swp_seq ?_ | refine swp_block ?_))
        refine swp_true (by rfl) ?_
        (repeat (first | refine swp_seq ?_ | refine swp_block ?_)); refine swp_region (by kernel_rfl) ?_
        repeat (first | refine x_move (by rfl) ?_ | refine x_as (by rfl) (by rfl) ?_ | refine x_skip (by rfl) ?_ | refine x_fld (by rfl) (by rfl) FldO.h ?_ | refine x_nilck (by rfl) (by rfl) ?_ | refine x_len (by rfl) (by rfl) ElOf.some ?_ | refine x_ext (by rfl) (by rfl) (by rfl) ?_ | refine x_pickT (by rfl) (by rfl) (by rfl) ?_ | refine x_pickF (by rfl) (by rfl) (by rfl) ?_ | refine x_add (by rfl) (by rfl) (by rfl) (by omega) ?_ | refine x_sub (by rfl) (by rfl) (by rfl) (by omega) ?_ | refine x_not (by rfl) (by rfl) ?_)
        refine x_nilw ?_
        exact ⟨rfl, at_ ⟨rfl, rfl, rfl, rfl, rfl, rfl, by rw [hr2]; rfl, trivial⟩, rfl⟩
      · rw [if_neg hneg] at hr2
        (repeat (first | refine swp_seq ?_ | refine swp_block ?_)); refine swp_region (by kernel_rfl) ?_
        repeat (first | refine x_move (by rfl) ?_ | refine x_as (by rfl) (by rfl) ?_ | refine x_skip (by rfl) ?_ | refine x_fld (by rfl) (by rfl) FldO.h ?_ | refine x_nilck (by rfl) (by rfl) ?_ | refine x_len (by rfl) (by rfl) ElOf.some ?_ | refine x_ext (by rfl) (by rfl) (by rfl) ?_ | refine x_pickT (by rfl) (by rfl) (by rfl) ?_ | refine x_pickF (by rfl) (by rfl) (by rfl) ?_ | refine x_add (by rfl) (by rfl) (by rfl) (by omega) ?_ | refine x_sub (by rfl) (by rfl) (by rfl) (by omega) ?_ | refine x_not (by rfl) (by rfl) ?_)
        refine x_lssF (by rfl) (by rfl) (by rfl) hneg ?_
        refine x_nilw ?_
        (repeat (first | refine swp_seq ?_ | refine swp_block ?_))
        refine swp_false (by rfl) ?_
        refine swp_skip ?_
        exact ⟨rfl, at_ ⟨rfl, rfl, rfl, rfl, rfl, rfl, by rw [hr2]; rfl, trivial⟩, rfl⟩
    rintro σ w' ⟨⟨ρ, rfl⟩, rfl⟩
    refine n_then ?_
    (repeat (first | refine swp_seq ?_ | refine swp_block ?_)); refine swp_region (by kernel_rfl) ?_
    repeat (first | refine x_move (by rfl) ?_ | refine x_as (by rfl) (by rfl) ?_ | refine x_skip (by rfl) ?_ | refine x_fld (by rfl) (by rfl) FldO.h ?_ | refine x_nilck (by rfl) (by rfl) ?_ | refine x_len (by rfl) (by rfl) ElOf.some ?_ | refine x_ext (by rfl) (by rfl) (by rfl) ?_ | refine x_pickT (by rfl) (by rfl) (by rfl) ?_ | refine x_pickF (by rfl) (by rfl) (by rfl) ?_ | refine x_add (by rfl) (by rfl) (by rfl) (by omega) ?_ | refine x_sub (by rfl) (by rfl) (by rfl) (by omega) ?_ | refine x_not (by rfl) (by rfl) ?_)
    refine x_rem (by rfl) (by rfl) (by rfl) (by omega) ?_
    repeat (first | refine x_move (by rfl) ?_ | refine x_as (by rfl) (by rfl) ?_ | refine x_skip (by rfl) ?_ | refine x_fld (by rfl) (by rfl) FldO.h ?_ | refine x_nilck (by rfl) (by rfl) ?_ | refine x_len (by rfl) (by rfl) ElOf.some ?_ | refine x_ext (by rfl) (by rfl) (by rfl) ?_ | refine x_pickT (by rfl) (by rfl) (by rfl) ?_ | refine x_pickF (by rfl) (by rfl) (by rfl) ?_ | refine x_add (by rfl) (by rfl) (by rfl) (by omega) ?_ | refine x_sub (by rfl) (by rfl) (by rfl) (by omega) ?_ | refine x_not (by rfl) (by rfl) ?_)
    refine x_nilw ?_
    have hrem : ((r : Int) + (i : Int)).tmod (IN.length : Nat) = (((r + i) % IN.length : Nat) : Int) := by
      rw [← tmod_nat]
      rfl
    obtain ⟨k, hk⟩ : ∃ k, k = if back then IN.length - 1 - (r + i) % IN.length else (r + i) % IN.length := ⟨_, rfl⟩
    have hkl : k < IN.length := by rw [hk]; split <;> omega
    have hxk : IN[k]? = some x := by
      rw [← hx2, hB, hk]
      cases back with
      | true =>
        simp only [if_true]
        rw [List.getElem?_reverse hm]
      | false => rfl
    refine swp_fit [(1, .int .i64 turn), (2, .bool back), (8, .slice (some ⟨b2, o2, none⟩) IN.length ci), (10, .pointer (some ⟨bd1, 0, none⟩)), (13, sv), (14, .int .i64 (i : Nat)), (15, .int .i64 (((r + i) % IN.length : Nat) : Int))] ⟨rfl, rfl, rfl, rfl, rfl, rfl, by rw [← hrem]; rfl, trivial⟩ fun ρ => ?_
    refine swp_seq ?_
    refine PEv.swp_cutQ (fun σ w' => At σ [(1, .int .i64 turn), (2, .bool back), (8, .slice (some ⟨b2, o2, none⟩) IN.length ci), (10, .pointer (some ⟨bd1, 0, none⟩)), (13, sv), (14, .int .i64 (i : Nat)), (15, .int .i64 (k : Nat))] ∧ w3 = w') ?_ ?_
    · (repeat (first | refine swp_seq ?_ | refine swp_block ?_)); refine swp_region (by kernel_rfl) ?_
      repeat (first | refine x_move (by rfl) ?_ | refine x_as (by rfl) (by rfl) ?_ | refine x_skip (by rfl) ?_ | refine x_fld (by rfl) (by rfl) FldO.h ?_ | refine x_nilck (by rfl) (by rfl) ?_ | refine x_len (by rfl) (by rfl) ElOf.some ?_ | refine x_ext (by rfl) (by rfl) (by rfl) ?_ | refine x_pickT (by rfl) (by rfl) (by rfl) ?_ | refine x_pickF (by rfl) (by rfl) (by rfl) ?_ | refine x_add (by rfl) (by rfl) (by rfl) (by omega) ?_ | refine x_sub (by rfl) (by rfl) (by rfl) (by omega) ?_ | refine x_not (by rfl) (by rfl) ?_)
      refine x_nilw ?_
      cases hbk : back with
      | true =>
        (repeat (first | refine swp_seq ?_ | refine swp_block ?_))
        refine swp_true (by rfl) ?_
        (repeat (first | refine swp_seq ?_ | refine swp_block ?_)); refine swp_region (by kernel_rfl) ?_
        repeat (first | refine x_move (by rfl) ?_ | refine x_as (by rfl) (by rfl) ?_ | refine x_skip (by rfl) ?_ | refine x_fld (by rfl) (by rfl) FldO.h ?_ | refine x_nilck (by rfl) (by rfl) ?_ | refine x_len (by rfl) (by rfl) ElOf.some ?_ | refine x_ext (by rfl) (by rfl) (by rfl) ?_ | refine x_pickT (by rfl) (by rfl) (by rfl) ?_ | refine x_pickF (by rfl) (by rfl) (by rfl) ?_ | refine x_add (by rfl) (by rfl) (by rfl) (by omega) ?_ | refine x_sub (by rfl) (by rfl) (by rfl) (by omega) ?_ | refine x_not (by rfl) (by rfl) ?_)
        refine x_nilw ?_
        refine ⟨rfl, at_ ⟨rfl, rfl, rfl, rfl, rfl, rfl, ?_, trivial⟩, rfl⟩
        rw [hbk] at hk
        simp only [if_true] at hk
        show Value.int .i64 _ = Value.int .i64 _
        congr 1
        omega
      | false =>
        (repeat (first | refine swp_seq ?_ | refine swp_block ?_))
        refine swp_false (by rfl) ?_
        refine swp_skip ?_
        rw [hbk] at hk
        exact ⟨rfl, at_ ⟨rfl, rfl, rfl, rfl, rfl, rfl, by rw [hk]; rfl, trivial⟩, rfl⟩
    rintro σ w' ⟨⟨ρ, rfl⟩, rfl⟩
    refine n_then ?_
    (repeat (first | refine swp_seq ?_ | refine swp_block ?_)); refine swp_region (by kernel_rfl) ?_
    repeat (first | refine x_move (by rfl) ?_ | refine x_as (by rfl) (by rfl) ?_ | refine x_skip (by rfl) ?_ | refine x_fld (by rfl) (by rfl) FldO.h ?_ | refine x_nilck (by rfl) (by rfl) ?_ | refine x_len (by rfl) (by rfl) ElOf.some ?_ | refine x_ext (by rfl) (by rfl) (by rfl) ?_ | refine x_pickT (by rfl) (by rfl) (by rfl) ?_ | refine x_pickF (by rfl) (by rfl) (by rfl) ?_ | refine x_add (by rfl) (by rfl) (by rfl) (by omega) ?_ | refine x_sub (by rfl) (by rfl) (by rfl) (by omega) ?_ | refine x_not (by rfl) (by rfl) ?_)
    refine x_idx k (by rfl) (by rfl) (by rfl) ElSz.h rfl hkl ?_
    refine w_load (by rfl) (by rfl) (rd_load wt_len AggT.h rI3.rd hxk rfl rfl) ?_
    refine w_bslice (e := 40) (cs := x.cells) (by rfl) (by rfl) (by rfl) (by kernel_rfl) ?_
    intro b4 w4 e4 u4 h4
    refine w_append (more := []) (news := x.cells) (by rfl) (by rfl) (by rfl) (by rfl) SlC.h (hO.at u4) (by rw [List.append_nil]; exact h4) (wt_len _) (wt_one _) (by omega) (hr104.le (by omega)) ?_
    intro sv' w5 own5 u5 in5
    repeat (first | refine x_move (by rfl) ?_ | refine x_as (by rfl) (by rfl) ?_ | refine x_skip (by rfl) ?_ | refine x_fld (by rfl) (by rfl) FldO.h ?_ | refine x_nilck (by rfl) (by rfl) ?_ | refine x_len (by rfl) (by rfl) ElOf.some ?_ | refine x_ext (by rfl) (by rfl) (by rfl) ?_ | refine x_pickT (by rfl) (by rfl) (by rfl) ?_ | refine x_pickF (by rfl) (by rfl) (by rfl) ?_ | refine x_add (by rfl) (by rfl) (by rfl) (by omega) ?_ | refine x_sub (by rfl) (by rfl) (by rfl) (by omega) ?_ | refine x_not (by rfl) (by rfl) ?_)
    refine x_nilw ?_
    (repeat (first | with_reducible refine n_then ?_ | with_reducible refine n_block ?_ | with_reducible refine n_jump ?_))
    (repeat (first | refine swp_seq ?_ | refine swp_block ?_)); refine swp_region (by kernel_rfl) ?_
    repeat (first | refine x_move (by rfl) ?_ | refine x_as (by rfl) (by rfl) ?_ | refine x_skip (by rfl) ?_ | refine x_fld (by rfl) (by rfl) FldO.h ?_ | refine w_load (by rfl) (by rfl) (load_one OneT.h (by assumption) (by rfl)) ?_ | refine x_nilck (by rfl) (by rfl) ?_ | refine x_len (by rfl) (by rfl) ElOf.some ?_ | refine x_iface (by rfl) (by rfl) NIf.h ?_ | refine x_ext (by rfl) (by rfl) (by rfl) ?_ | refine x_pickT (by rfl) (by rfl) (by rfl) ?_ | refine x_pickF (by rfl) (by rfl) (by rfl) ?_ | refine x_add (by rfl) (by rfl) (by rfl) (by omega) ?_ | refine x_sub (by rfl) (by rfl) (by rfl) (by omega) ?_ | refine x_lss (by rfl) (by rfl) (by rfl) ?_ | refine x_geq (by rfl) (by rfl) (by rfl) ?_ | refine x_leq (by rfl) (by rfl) (by rfl) ?_ | refine x_gtr (by rfl) (by rfl) (by rfl) ?_ | refine x_eql (by rfl) (by rfl) (by rfl) ?_ | refine x_neq (by rfl) (by rfl) (by rfl) ?_ | refine x_not (by rfl) (by rfl) ?_)
    refine x_nilw ?_
    have s3 := u3.size; have s4 := u4.size
    refine ⟨i + 1, ⟨sv', at_ ⟨rfl, rfl, rfl, rfl, rfl, rfl, trivial⟩, hi', ?_, fun b hb => ?_, (u3.trans u4).trans' u5 fun b hb h => by have := hOb b h; omega⟩, by omega⟩
    · rw [take_succ' hx, List.length_append, List.length_singleton, htl, fl_append, fl_one]
      exact own5
    · rcases in5 b hb with h | h
      · exact hOb b h
      · omega
  · have hin : i = IN.length := by omega
    have hfull : (round B r).take i = round B r := List.take_of_length_le (by omega)
    rw [hfull] at hO
    have hrB : (round B r).Perm IN := (round_perm B r).trans hBp
    have hun2 : Unlike (round B r) := hun.perm hrB.symm
    have hall2 := foldl_all (round B r) [] (by simpa using hun2)
    rw [List.nil_append] at hall2
    rw [hin, ← hBl, ← hrl] at hO
    have hrbl : (round B r).length = IN.length := by omega
    refine swp_exit ?_; (repeat (first | with_reducible refine e_then ?_ | with_reducible refine e_jump ?_)); refine e_block ?_; (repeat (first | with_reducible refine n_then ?_ | with_reducible refine n_block ?_ | with_reducible refine n_jump ?_))
    obtain ⟨av, cv, rfl⟩ := hO.slice
    have rO : RL w3 (.slice av (round B r).length cv) (round B r) := ⟨hO.rd, fun y hy => (rI2.each y (hrB.mem_iff.1 hy)).at u3⟩
    refine swp_fit [(10, .pointer (some ⟨bd1, 0, none⟩)), (13, .slice av (round B r).length cv)] ⟨rfl, rfl, trivial⟩ fun ρ => ?_
    (repeat (first | refine swp_seq ?_ | refine swp_block ?_)); refine swp_region (by kernel_rfl) ?_
    repeat (first | refine x_move (by rfl) ?_ | refine x_as (by rfl) (by rfl) ?_ | refine x_skip (by rfl) ?_ | refine x_fld (by rfl) (by rfl) FldO.h ?_ | refine x_nilck (by rfl) (by rfl) ?_ | refine x_len (by rfl) (by rfl) ElOf.some ?_ | refine x_ext (by rfl) (by rfl) (by rfl) ?_ | refine x_pickT (by rfl) (by rfl) (by rfl) ?_ | refine x_pickF (by rfl) (by rfl) (by rfl) ?_ | refine x_add (by rfl) (by rfl) (by rfl) (by omega) ?_ | refine x_sub (by rfl) (by rfl) (by rfl) (by omega) ?_ | refine x_not (by rfl) (by rfl) ?_)
    refine w_call (by rfl) (by rfl) (by rfl) (filled rO (by rw [hrbl]; omega)) ?_
    rintro _ w4 ⟨bd2, G2, S2, N2, vi2, rfl, hN2, hF2⟩
    rw [hall2] at hF2
    repeat (first | refine x_move (by rfl) ?_ | refine x_as (by rfl) (by rfl) ?_ | refine x_skip (by rfl) ?_ | refine x_fld (by rfl) (by rfl) FldO.h ?_ | refine x_nilck (by rfl) (by rfl) ?_ | refine x_len (by rfl) (by rfl) ElOf.some ?_ | refine x_ext (by rfl) (by rfl) (by rfl) ?_ | refine x_pickT (by rfl) (by rfl) (by rfl) ?_ | refine x_pickF (by rfl) (by rfl) (by rfl) ?_ | refine x_add (by rfl) (by rfl) (by rfl) (by omega) ?_ | refine x_sub (by rfl) (by rfl) (by rfl) (by omega) ?_ | refine x_not (by rfl) (by rfl) ?_)
    refine x_nilw ?_
    have u4 := hF2.ext
    have hd1 := (hF1.dv.at u3).at u4
    have l1 := hF1.wts.len
    have l2 := hF2.wts.len
    have hSS : S1.map Wt.says = S2.map Wt.says := by
      have e1 := hF1.wts
      have e2 := hF2.wts
      unfold Wts at e1 e2
      rw [e1, e2]
      exact (foldl_put_any wls_ord (unlike_apart hun2) (hrB.map Wt.says)).symm
    refine swp_fit [(10, .pointer (some ⟨bd1, 0, none⟩)), (16, .pointer (some ⟨bd2, 0, none⟩)), (18, .bool true)] ⟨rfl, rfl, rfl, trivial⟩ fun ρ => ?_
    (repeat (first | refine swp_seq ?_ | refine swp_block ?_)); refine swp_region (by kernel_rfl) ?_
    repeat (first | refine x_move (by rfl) ?_ | refine x_as (by rfl) (by rfl) ?_ | refine x_skip (by rfl) ?_ | refine x_fld (by rfl) (by rfl) FldO.h ?_ | refine x_nilck (by rfl) (by rfl) ?_ | refine x_len (by rfl) (by rfl) ElOf.some ?_ | refine x_ext (by rfl) (by rfl) (by rfl) ?_ | refine x_pickT (by rfl) (by rfl) (by rfl) ?_ | refine x_pickF (by rfl) (by rfl) (by rfl) ?_ | refine x_add (by rfl) (by rfl) (by rfl) (by omega) ?_ | refine x_sub (by rfl) (by rfl) (by rfl) (by omega) ?_ | refine x_not (by rfl) (by rfl) ?_)
    refine w_call (by rfl) (by rfl) (by rfl) (due_list hd1 (hr112.le (by omega)) (by omega)) ?_
    rintro vp w5 ⟨ps, hP, hPs, u5⟩
    repeat (first | refine x_move (by rfl) ?_ | refine x_as (by rfl) (by rfl) ?_ | refine x_skip (by rfl) ?_ | refine x_fld (by rfl) (by rfl) FldO.h ?_ | refine x_nilck (by rfl) (by rfl) ?_ | refine x_len (by rfl) (by rfl) ElOf.some ?_ | refine x_ext (by rfl) (by rfl) (by rfl) ?_ | refine x_pickT (by rfl) (by rfl) (by rfl) ?_ | refine x_pickF (by rfl) (by rfl) (by rfl) ?_ | refine x_add (by rfl) (by rfl) (by rfl) (by omega) ?_ | refine x_sub (by rfl) (by rfl) (by rfl) (by omega) ?_ | refine x_not (by rfl) (by rfl) ?_)
    refine w_call (by rfl) (by rfl) (by rfl) (due_list (hF2.dv.at u5) (hr112.le (by omega)) (by omega)) ?_
    rintro vq w6 ⟨qs, hQ, hQs, u6⟩
    have hlp : ps.length = S1.length := by simpa using congrArg List.length hPs
    refine w_call (by rfl) (by rfl) (by rfl) (same_all (hP.at u6).rl hQ.rl (by rw [hPs, hQs, hSS]) (by omega)) ?_
    rintro _ w7 ⟨rfl, u7⟩
    repeat (first | refine x_move (by rfl) ?_ | refine x_as (by rfl) (by rfl) ?_ | refine x_skip (by rfl) ?_ | refine x_fld (by rfl) (by rfl) FldO.h ?_ | refine x_nilck (by rfl) (by rfl) ?_ | refine x_len (by rfl) (by rfl) ElOf.some ?_ | refine x_ext (by rfl) (by rfl) (by rfl) ?_ | refine x_pickT (by rfl) (by rfl) (by rfl) ?_ | refine x_pickF (by rfl) (by rfl) (by rfl) ?_ | refine x_add (by rfl) (by rfl) (by rfl) (by omega) ?_ | refine x_sub (by rfl) (by rfl) (by rfl) (by omega) ?_ | refine x_not (by rfl) (by rfl) ?_)
    refine x_nilw ?_
    refine swp_ret ?_; (repeat (first | with_reducible refine r_then ?_ | with_reducible refine r_block ?_ | with_reducible refine r_jump ?_))
    exact post1 rfl rfl ⟨_, rfl, rfl, (((((u1.trans u2).trans u3).trans u4).trans u5).trans u6).trans u7⟩
end Go.Proofs.Ytpnigekkbmanlaa
