/- The document's Add (layer 14): a match that is not alike to one that waits is put in its place, as a copy. Conditions: what is read; room. -/
import Derived.Test.YtpnigekkbmanlaaDj
namespace Go.Proofs.Ytpnigekkbmanlaa
open Sx Hp

theorem wlt_says {x y : Wt} (h : x.says = y.says) (z : Wt) : wlt x z = wlt y z ∧ wlt z x = wlt z y := by
  simp only [wlt, mlt, says_key h, and_self]
/-- where it stands, no alike one waits -/
theorem no_alike {S : List Wt} {x : Wt} {p : Nat} (hr : Rise S) (h1 : ∀ j y, j < p → S[j]? = some y → wlt y x = true) (h2 : ∀ y, S[p]? = some y → wlt x y = true) : ¬∃ y ∈ S, y.m.key = x.m.key := by
  rintro ⟨y, hy, hk⟩
  obtain ⟨j, hj⟩ := List.mem_iff_getElem?.1 hy
  have irr : ∀ z : Wt, wlt z z = false := fun z => klt_tot.irr _
  have n1 : wlt y x = false := by rw [wlt, mlt, hk]; exact klt_tot.irr _
  have n2 : wlt x y = false := by rw [wlt, mlt, hk]; exact klt_tot.irr _
  rcases Nat.lt_or_ge j p with h | h
  · rw [h1 j y h hj] at n1; cases n1
  · rcases Nat.lt_or_ge p j with h' | h'
    · obtain ⟨jl, je⟩ := List.getElem?_eq_some_iff.1 hj
      obtain ⟨z, hz⟩ := nthE (L := S) (i := p) (by omega)
      obtain ⟨pl, pe⟩ := List.getElem?_eq_some_iff.1 hz
      have := List.pairwise_iff_getElem.1 hr p j pl jl h'
      rw [je, pe] at this
      rw [wlt_ord.tr _ _ _ (h2 z hz) this] at n2
      cases n2
    · obtain rfl : j = p := by omega
      rw [h2 y hj] at n2; cases n2
theorem put_there {S : List Wt} {x y : Wt} {p : Nat} (hs : y.says = x.says) (h1 : ∀ j z, j < p → S[j]? = some z → wlt z x = true) (h2 : ∀ z, S[p]? = some z → wlt x z = true) : put wlt S y = S.take p ++ y :: S.drop p := by
  have := put_at (lt := wlt) (y := y) (B := S.drop p) (fun b hb => ?_) (S.take p) fun a ha => ?_
  · rw [List.take_append_drop] at this; exact this
  · rw [List.head?_drop] at hb
    rw [(wlt_says hs b).1]
    exact h2 b hb
  · obtain ⟨j, hj⟩ := List.mem_iff_getElem?.1 ha
    have hjp : j < p := by
      have := (List.getElem?_eq_some_iff.1 hj).1
      rw [List.length_take] at this
      omega
    rw [List.getElem?_take, if_pos hjp] at hj
    rw [(wlt_says hs a).1]
    exact wlt_ord.asymm (h1 j a hjp hj)
theorem ins_up {S : List Wt} {y z : Wt} {p j : Nat} (hp : p ≤ j) (hz : S[j]? = some z) : (ins S p y).take (j + 2) = (ins S p y).take (j + 1) ++ [z] := by
  have hj := (List.getElem?_eq_some_iff.1 hz).1
  refine take_succ' ?_
  unfold ins
  rw [List.getElem?_append_right (by rw [List.length_take]; omega), List.length_take, Nat.min_eq_left (by omega), show j + 1 - p = (j - p) + 1 by omega, List.getElem?_cons_succ, List.getElem?_drop, show p + (j - p) = j by omega]
  exact hz
theorem ins_take {S : List Wt} {y : Wt} {p : Nat} (hp : p ≤ S.length) : (ins S p y).take (p + 1) = S.take p ++ [y] := by
  unfold ins
  rw [List.take_append, List.length_take, Nat.min_eq_left hp, List.take_of_length_le (by rw [List.length_take]; omega), show p + 1 - p = 1 by omega]
  rfl

set_option maxHeartbeats 4000000 in
set_option maxRecDepth 100000 in
theorem model_add {w : World} {bm : Nat} {G : Nat → Prop} {S : List Wt} (h : Dm w bm G S) (x : Wt) (hx : x.Rdy w) (hr : Room (S.length + 1) 104) :
    Gets Try.prog 31 [.pointer (some ⟨bm, 0, none⟩), x.v] w fun v w' => (v = .bool false ∧ (∃ y ∈ S, y.m.key = x.m.key) ∧ Dm w' bm G S ∧ Ext w w') ∨
      (v = .bool true ∧ (¬∃ y ∈ S, y.m.key = x.m.key) ∧ ∃ y G', y.says = x.says ∧ (∀ b, y.In b → w.heap.size ≤ b) ∧ Dm w' bm G' (put wlt S y) ∧ Upd G w w' ∧ ∀ b, G' b → G b ∨ w.heap.size ≤ b) := by
  have h00 := h
  obtain ⟨sv, hD, g1, g2, g3⟩ := h
  obtain ⟨a, c, rfl⟩ := hD.own.slice
  have hb := hD.blk
  have rd := hD.own.rd
  have hcap := hr.1
  have hbl := hb.lt
  refine ⟨GoFn.h, calls_of_swp 98 Try.func31 Try.ntmps31 rfl (Nat.le_of_ble_eq_true rfl) ?_⟩
  (repeat (first | refine swp_seq ?_ | refine swp_block ?_)); refine swp_region (by kernel_rfl) ?_
  refine w_boxA (by rfl) (by rfl) (by rfl) ?_; intro b3 w1 e1 u1 h1
  repeat (first | refine x_move (by rfl) ?_ | refine x_as (by rfl) (by rfl) ?_ | refine x_skip (by rfl) ?_ | refine x_fld (by rfl) (by rfl) FldO.h ?_ | refine x_nilck (by rfl) (by rfl) ?_ | refine x_len (by rfl) (by rfl) ElOf.some ?_ | refine x_ext (by rfl) (by rfl) (by rfl) ?_ | refine x_pickT (by rfl) (by rfl) (by rfl) ?_ | refine x_pickF (by rfl) (by rfl) (by rfl) ?_ | refine x_add (by rfl) (by rfl) (by rfl) (by omega) ?_ | refine x_sub (by rfl) (by rfl) (by rfl) (by omega) ?_ | refine x_not (by rfl) (by rfl) ?_)
  refine x_nilw ?_
  replace h1 : Blk w1 b3 40 x.cells := h1
  (repeat (first | refine swp_seq ?_ | refine swp_block ?_)); refine swp_region (by kernel_rfl) ?_
  repeat (first | refine x_move (by rfl) ?_ | refine x_as (by rfl) (by rfl) ?_ | refine x_skip (by rfl) ?_ | refine x_fld (by rfl) (by rfl) FldO.h ?_ | refine x_nilck (by rfl) (by rfl) ?_ | refine x_len (by rfl) (by rfl) ElOf.some ?_ | refine x_ext (by rfl) (by rfl) (by rfl) ?_ | refine x_pickT (by rfl) (by rfl) (by rfl) ?_ | refine x_pickF (by rfl) (by rfl) (by rfl) ?_ | refine x_add (by rfl) (by rfl) (by rfl) (by omega) ?_ | refine x_sub (by rfl) (by rfl) (by rfl) (by omega) ?_ | refine x_not (by rfl) (by rfl) ?_)
  refine x_nilw ?_
  refine swp_fit [(0, .pointer (some ⟨bm, 0, none⟩)), (3, .pointer (some ⟨b3, 0, none⟩)), (5, .int .i64 ((0 : Nat) : Int))] ⟨rfl, rfl, rfl, trivial⟩ fun ρ => ?_
  refine swp_seq ?_
  refine PEv.swp_cutQ (fun σ w2 => ∃ p, At σ [(0, .pointer (some ⟨bm, 0, none⟩)), (3, .pointer (some ⟨b3, 0, none⟩)), (5, .int .i64 (p : Nat))] ∧ p ≤ S.length ∧ (∀ j y, j < p → S[j]? = some y → wlt y x = true) ∧ (∀ y, S[p]? = some y → wlt y x = false) ∧ Ext w1 w2) ?_ ?_
  · (repeat (first | refine swp_seq ?_ | refine swp_block ?_))
    refine swp_loop (fun (p : Nat) σ w2 => At σ [(0, .pointer (some ⟨bm, 0, none⟩)), (3, .pointer (some ⟨b3, 0, none⟩)), (5, .int .i64 (p : Nat))] ∧ p ≤ S.length ∧ (∀ j y, j < p → S[j]? = some y → wlt y x = true) ∧ Ext w1 w2) (fun p => S.length - p) 0 ⟨at_ ⟨rfl, rfl, rfl, trivial⟩, by omega, fun j _ hj => by omega, Upd.refl _ _⟩ ?_
    rintro p σ w2 ⟨⟨ρ, rfl⟩, hp, hlt, u2⟩
    have u02 := u1.trans u2
    have hb2 := hb.at u02
    have rd2 := rd.at u02
    have h12 := h1.at u2
    rcases Nat.lt_or_ge p S.length with hpn | hpn
    · obtain ⟨y, hy⟩ := nthE hpn
      have yR := ((hD.each y (List.mem_of_getElem? hy)).at u02).m
      have xR := (hx.at u02).m
      obtain ⟨ba, oa, da, hea, -, -⟩ := rd.pos (by omega)
      simp only [Value.slice.injEq] at hea
      obtain ⟨rfl, _, rfl⟩ := hea
      (repeat (first | refine swp_seq ?_ | refine swp_block ?_)); refine swp_draw (Ext w2) [] Mixed.h (by kernel_rfl) (by kernel_rfl) (ext_drew w2) ?_
      repeat (first | refine x_move (by rfl) ?_ | refine x_as (by rfl) (by rfl) ?_ | refine x_skip (by rfl) ?_ | refine x_fld (by rfl) (by rfl) FldO.h ?_ | refine x_nilck (by rfl) (by rfl) ?_ | refine x_len (by rfl) (by rfl) ElOf.some ?_ | refine x_ext (by rfl) (by rfl) (by rfl) ?_ | refine x_pickT (by rfl) (by rfl) (by rfl) ?_ | refine x_pickF (by rfl) (by rfl) (by rfl) ?_ | refine x_add (by rfl) (by rfl) (by rfl) (by omega) ?_ | refine x_sub (by rfl) (by rfl) (by rfl) (by omega) ?_ | refine x_not (by rfl) (by rfl) ?_)
      refine q_load (by rfl) (by rfl) (by rfl) (fun w' hw' => load_one (v := .slice (some ⟨ba, oa, none⟩) S.length c) OneT.h (hb2.at hw') (by rfl)) ?_
      repeat (first | refine x_move (by rfl) ?_ | refine x_as (by rfl) (by rfl) ?_ | refine x_skip (by rfl) ?_ | refine x_fld (by rfl) (by rfl) FldO.h ?_ | refine x_nilck (by rfl) (by rfl) ?_ | refine x_len (by rfl) (by rfl) ElOf.some ?_ | refine x_ext (by rfl) (by rfl) (by rfl) ?_ | refine x_pickT (by rfl) (by rfl) (by rfl) ?_ | refine x_pickF (by rfl) (by rfl) (by rfl) ?_ | refine x_add (by rfl) (by rfl) (by rfl) (by omega) ?_ | refine x_sub (by rfl) (by rfl) (by rfl) (by omega) ?_ | refine x_not (by rfl) (by rfl) ?_)
      refine x_lssT (by rfl) (by rfl) (by rfl) (by omega) ?_
      repeat (first | refine x_move (by rfl) ?_ | refine x_as (by rfl) (by rfl) ?_ | refine x_skip (by rfl) ?_ | refine x_fld (by rfl) (by rfl) FldO.h ?_ | refine x_nilck (by rfl) (by rfl) ?_ | refine x_len (by rfl) (by rfl) ElOf.some ?_ | refine x_ext (by rfl) (by rfl) (by rfl) ?_ | refine x_pickT (by rfl) (by rfl) (by rfl) ?_ | refine x_pickF (by rfl) (by rfl) (by rfl) ?_ | refine x_add (by rfl) (by rfl) (by rfl) (by omega) ?_ | refine x_sub (by rfl) (by rfl) (by rfl) (by omega) ?_ | refine x_not (by rfl) (by rfl) ?_)
      refine q_load (by rfl) (by rfl) (by rfl) (fun w' hw' => load_one (v := .slice (some ⟨ba, oa, none⟩) S.length c) OneT.h (hb2.at hw') (by rfl)) ?_
      repeat (first | refine x_move (by rfl) ?_ | refine x_as (by rfl) (by rfl) ?_ | refine x_skip (by rfl) ?_ | refine x_fld (by rfl) (by rfl) FldO.h ?_ | refine x_nilck (by rfl) (by rfl) ?_ | refine x_len (by rfl) (by rfl) ElOf.some ?_ | refine x_ext (by rfl) (by rfl) (by rfl) ?_ | refine x_pickT (by rfl) (by rfl) (by rfl) ?_ | refine x_pickF (by rfl) (by rfl) (by rfl) ?_ | refine x_add (by rfl) (by rfl) (by rfl) (by omega) ?_ | refine x_sub (by rfl) (by rfl) (by rfl) (by omega) ?_ | refine x_not (by rfl) (by rfl) ?_)
      refine x_idx p (by rfl) (by rfl) (by rfl) ElSz.h rfl hpn ?_
      repeat (first | refine x_move (by rfl) ?_ | refine x_as (by rfl) (by rfl) ?_ | refine x_skip (by rfl) ?_ | refine x_fld (by rfl) (by rfl) FldO.h ?_ | refine x_nilck (by rfl) (by rfl) ?_ | refine x_len (by rfl) (by rfl) ElOf.some ?_ | refine x_ext (by rfl) (by rfl) (by rfl) ?_ | refine x_pickT (by rfl) (by rfl) (by rfl) ?_ | refine x_pickF (by rfl) (by rfl) (by rfl) ?_ | refine x_add (by rfl) (by rfl) (by rfl) (by omega) ?_ | refine x_sub (by rfl) (by rfl) (by rfl) (by omega) ?_ | refine x_not (by rfl) (by rfl) ?_)
      refine q_load (by rfl) (by rfl) (by rfl) (fun w' hw' => load_m (rd2.at hw') hy rfl rfl) ?_
      repeat (first | refine x_move (by rfl) ?_ | refine x_as (by rfl) (by rfl) ?_ | refine x_skip (by rfl) ?_ | refine x_fld (by rfl) (by rfl) FldO.h ?_ | refine x_nilck (by rfl) (by rfl) ?_ | refine x_len (by rfl) (by rfl) ElOf.some ?_ | refine x_ext (by rfl) (by rfl) (by rfl) ?_ | refine x_pickT (by rfl) (by rfl) (by rfl) ?_ | refine x_pickF (by rfl) (by rfl) (by rfl) ?_ | refine x_add (by rfl) (by rfl) (by rfl) (by omega) ?_ | refine x_sub (by rfl) (by rfl) (by rfl) (by omega) ?_ | refine x_not (by rfl) (by rfl) ?_)
      refine q_load (by rfl) (by rfl) (by rfl) (fun w' hw' => load_agg (xs := x.m.cells) AggT.h (h12.at hw') (by rfl) (by rfl)) ?_
      refine q_call (v := .bool (wlt y x)) (by rfl) (by rfl) (by rfl) (fun w' hw' => (ref_match y.m x.m w' (yR.at hw') (xR.at hw')).mono fun v w'' h => ⟨h.1, hw'.trans h.2⟩) ?_
      repeat (first | refine x_move (by rfl) ?_ | refine x_as (by rfl) (by rfl) ?_ | refine x_skip (by rfl) ?_ | refine x_fld (by rfl) (by rfl) FldO.h ?_ | refine x_nilck (by rfl) (by rfl) ?_ | refine x_len (by rfl) (by rfl) ElOf.some ?_ | refine x_ext (by rfl) (by rfl) (by rfl) ?_ | refine x_pickT (by rfl) (by rfl) (by rfl) ?_ | refine x_pickF (by rfl) (by rfl) (by rfl) ?_ | refine x_add (by rfl) (by rfl) (by rfl) (by omega) ?_ | refine x_sub (by rfl) (by rfl) (by rfl) (by omega) ?_ | refine x_not (by rfl) (by rfl) ?_)
      refine x_nil fun w3 u3 => ?_
      cases cc : wlt y x with
      | true =>
        (repeat (first | refine swp_seq ?_ | refine swp_block ?_))
        refine swp_true (by rfl) (swp_skip ?_)
        (repeat (first | with_reducible refine n_then ?_ | with_reducible refine n_block ?_ | with_reducible refine n_jump ?_))
        (repeat (first | refine swp_seq ?_ | refine swp_block ?_)); refine swp_region (by kernel_rfl) ?_
        repeat (first | refine x_move (by rfl) ?_ | refine x_as (by rfl) (by rfl) ?_ | refine x_skip (by rfl) ?_ | refine x_fld (by rfl) (by rfl) FldO.h ?_ | refine w_load (by rfl) (by rfl) (load_one OneT.h (by assumption) (by rfl)) ?_ | refine x_nilck (by rfl) (by rfl) ?_ | refine x_len (by rfl) (by rfl) ElOf.some ?_ | refine x_iface (by rfl) (by rfl) NIf.h ?_ | refine x_ext (by rfl) (by rfl) (by rfl) ?_ | refine x_pickT (by rfl) (by rfl) (by rfl) ?_ | refine x_pickF (by rfl) (by rfl) (by rfl) ?_ | refine x_add (by rfl) (by rfl) (by rfl) (by omega) ?_ | refine x_sub (by rfl) (by rfl) (by rfl) (by omega) ?_ | refine x_lss (by rfl) (by rfl) (by rfl) ?_ | refine x_geq (by rfl) (by rfl) (by rfl) ?_ | refine x_leq (by rfl) (by rfl) (by rfl) ?_ | refine x_gtr (by rfl) (by rfl) (by rfl) ?_ | refine x_eql (by rfl) (by rfl) (by rfl) ?_ | refine x_neq (by rfl) (by rfl) (by rfl) ?_ | refine x_not (by rfl) (by rfl) ?_)
        refine x_nilw ?_
        refine ⟨p + 1, ⟨at_ ⟨rfl, rfl, rfl, trivial⟩, hpn, fun j z hj hz => ?_, u2.trans u3⟩, by omega⟩
        rcases Nat.lt_or_ge j p with h | h
        · exact hlt j z h hz
        · obtain rfl : j = p := by omega
          rw [hy] at hz
          cases hz
          exact cc
      | false =>
        (repeat (first | refine swp_seq ?_ | refine swp_block ?_))
        refine swp_false (by rfl) ?_
        refine swp_exit ?_; (repeat (first | with_reducible refine e_then ?_ | with_reducible refine e_jump ?_)); refine e_block ?_; (repeat (first | with_reducible refine n_then ?_ | with_reducible refine n_block ?_ | with_reducible refine n_jump ?_))
        refine ⟨rfl, p, at_ ⟨rfl, rfl, rfl, trivial⟩, hp, hlt, fun z hz => ?_, u2.trans u3⟩
        rw [hy] at hz
        cases hz
        exact cc
    · (repeat (first | refine swp_seq ?_ | refine swp_block ?_)); refine swp_draw (Ext w2) [] Mixed.h (by kernel_rfl) (by kernel_rfl) (ext_drew w2) ?_
      repeat (first | refine x_move (by rfl) ?_ | refine x_as (by rfl) (by rfl) ?_ | refine x_skip (by rfl) ?_ | refine x_fld (by rfl) (by rfl) FldO.h ?_ | refine x_nilck (by rfl) (by rfl) ?_ | refine x_len (by rfl) (by rfl) ElOf.some ?_ | refine x_ext (by rfl) (by rfl) (by rfl) ?_ | refine x_pickT (by rfl) (by rfl) (by rfl) ?_ | refine x_pickF (by rfl) (by rfl) (by rfl) ?_ | refine x_add (by rfl) (by rfl) (by rfl) (by omega) ?_ | refine x_sub (by rfl) (by rfl) (by rfl) (by omega) ?_ | refine x_not (by rfl) (by rfl) ?_)
      refine q_load (by rfl) (by rfl) (by rfl) (fun w' hw' => load_one (v := .slice a S.length c) OneT.h (hb2.at hw') (by rfl)) ?_
      repeat (first | refine x_move (by rfl) ?_ | refine x_as (by rfl) (by rfl) ?_ | refine x_skip (by rfl) ?_ | refine x_fld (by rfl) (by rfl) FldO.h ?_ | refine x_nilck (by rfl) (by rfl) ?_ | refine x_len (by rfl) (by rfl) ElOf.some ?_ | refine x_ext (by rfl) (by rfl) (by rfl) ?_ | refine x_pickT (by rfl) (by rfl) (by rfl) ?_ | refine x_pickF (by rfl) (by rfl) (by rfl) ?_ | refine x_add (by rfl) (by rfl) (by rfl) (by omega) ?_ | refine x_sub (by rfl) (by rfl) (by rfl) (by omega) ?_ | refine x_not (by rfl) (by rfl) ?_)
      refine x_lssF (by rfl) (by rfl) (by rfl) (by omega) ?_
      repeat (first | refine x_move (by rfl) ?_ | refine x_as (by rfl) (by rfl) ?_ | refine x_skip (by rfl) ?_ | refine x_fld (by rfl) (by rfl) FldO.h ?_ | refine x_nilck (by rfl) (by rfl) ?_ | refine x_len (by rfl) (by rfl) ElOf.some ?_ | refine x_ext (by rfl) (by rfl) (by rfl) ?_ | refine x_pickT (by rfl) (by rfl) (by rfl) ?_ | refine x_pickF (by rfl) (by rfl) (by rfl) ?_ | refine x_add (by rfl) (by rfl) (by rfl) (by omega) ?_ | refine x_sub (by rfl) (by rfl) (by rfl) (by omega) ?_ | refine x_not (by rfl) (by rfl) ?_)
      refine x_nil fun w3 u3 => ?_
      (repeat (first | refine swp_seq ?_ | refine swp_block ?_))
      refine swp_false (by rfl) ?_
      refine swp_exit ?_; (repeat (first | with_reducible refine e_then ?_ | with_reducible refine e_jump ?_)); refine e_block ?_; (repeat (first | with_reducible refine n_then ?_ | with_reducible refine n_block ?_ | with_reducible refine n_jump ?_))
      refine ⟨rfl, p, at_ ⟨rfl, rfl, rfl, trivial⟩, hp, hlt, fun z hz => ?_, u2.trans u3⟩
      have := (List.getElem?_eq_some_iff.1 hz).1
      omega
  rintro σ w2 ⟨p, ⟨ρ, rfl⟩, hp, hlt, hge, u2⟩
  have u02 := u1.trans u2
  have hb2 := hb.at u02
  have rd2 := rd.at u02
  have h12 := h1.at u2
  have xR := (hx.at u02).m
  refine n_then ?_
  (repeat (first | refine swp_seq ?_ | refine swp_block ?_))
  refine PEv.swp_cutQ (fun σ w3 => ∃ q : Bool, At σ [(0, .pointer (some ⟨bm, 0, none⟩)), (3, .pointer (some ⟨b3, 0, none⟩)), (5, .int .i64 (p : Nat)), (52, .bool q)] ∧ (q = true → ∃ y ∈ S, y.m.key = x.m.key) ∧ (q = false → ∀ y, S[p]? = some y → wlt x y = true) ∧ Ext w2 w3) ?_ ?_
  · rcases Nat.lt_or_ge p S.length with hpn | hpn
    · obtain ⟨y, hy⟩ := nthE hpn
      have yR := ((hD.each y (List.mem_of_getElem? hy)).at u02).m
      obtain ⟨ba, oa, da, hea, -, -⟩ := rd.pos (by omega)
      simp only [Value.slice.injEq] at hea
      obtain ⟨rfl, _, rfl⟩ := hea
      (repeat (first | refine swp_seq ?_ | refine swp_block ?_)); refine swp_draw (Ext w2) [] Mixed.h (by kernel_rfl) (by kernel_rfl) (ext_drew w2) ?_
      repeat (first | refine x_move (by rfl) ?_ | refine x_as (by rfl) (by rfl) ?_ | refine x_skip (by rfl) ?_ | refine x_fld (by rfl) (by rfl) FldO.h ?_ | refine x_nilck (by rfl) (by rfl) ?_ | refine x_len (by rfl) (by rfl) ElOf.some ?_ | refine x_ext (by rfl) (by rfl) (by rfl) ?_ | refine x_pickT (by rfl) (by rfl) (by rfl) ?_ | refine x_pickF (by rfl) (by rfl) (by rfl) ?_ | refine x_add (by rfl) (by rfl) (by rfl) (by omega) ?_ | refine x_sub (by rfl) (by rfl) (by rfl) (by omega) ?_ | refine x_not (by rfl) (by rfl) ?_)
      refine q_load (by rfl) (by rfl) (by rfl) (fun w' hw' => load_one (v := .slice (some ⟨ba, oa, none⟩) S.length c) OneT.h (hb2.at hw') (by rfl)) ?_
      repeat (first | refine x_move (by rfl) ?_ | refine x_as (by rfl) (by rfl) ?_ | refine x_skip (by rfl) ?_ | refine x_fld (by rfl) (by rfl) FldO.h ?_ | refine x_nilck (by rfl) (by rfl) ?_ | refine x_len (by rfl) (by rfl) ElOf.some ?_ | refine x_ext (by rfl) (by rfl) (by rfl) ?_ | refine x_pickT (by rfl) (by rfl) (by rfl) ?_ | refine x_pickF (by rfl) (by rfl) (by rfl) ?_ | refine x_add (by rfl) (by rfl) (by rfl) (by omega) ?_ | refine x_sub (by rfl) (by rfl) (by rfl) (by omega) ?_ | refine x_not (by rfl) (by rfl) ?_)
      refine x_lssT (by rfl) (by rfl) (by rfl) (by omega) ?_
      repeat (first | refine x_move (by rfl) ?_ | refine x_as (by rfl) (by rfl) ?_ | refine x_skip (by rfl) ?_ | refine x_fld (by rfl) (by rfl) FldO.h ?_ | refine x_nilck (by rfl) (by rfl) ?_ | refine x_len (by rfl) (by rfl) ElOf.some ?_ | refine x_ext (by rfl) (by rfl) (by rfl) ?_ | refine x_pickT (by rfl) (by rfl) (by rfl) ?_ | refine x_pickF (by rfl) (by rfl) (by rfl) ?_ | refine x_add (by rfl) (by rfl) (by rfl) (by omega) ?_ | refine x_sub (by rfl) (by rfl) (by rfl) (by omega) ?_ | refine x_not (by rfl) (by rfl) ?_)
      refine q_load (by rfl) (by rfl) (by rfl) (fun w' hw' => load_agg (xs := x.m.cells) AggT.h (h12.at hw') (by rfl) (by rfl)) ?_
      repeat (first | refine x_move (by rfl) ?_ | refine x_as (by rfl) (by rfl) ?_ | refine x_skip (by rfl) ?_ | refine x_fld (by rfl) (by rfl) FldO.h ?_ | refine x_nilck (by rfl) (by rfl) ?_ | refine x_len (by rfl) (by rfl) ElOf.some ?_ | refine x_ext (by rfl) (by rfl) (by rfl) ?_ | refine x_pickT (by rfl) (by rfl) (by rfl) ?_ | refine x_pickF (by rfl) (by rfl) (by rfl) ?_ | refine x_add (by rfl) (by rfl) (by rfl) (by omega) ?_ | refine x_sub (by rfl) (by rfl) (by rfl) (by omega) ?_ | refine x_not (by rfl) (by rfl) ?_)
      refine q_load (by rfl) (by rfl) (by rfl) (fun w' hw' => load_one (v := .slice (some ⟨ba, oa, none⟩) S.length c) OneT.h (hb2.at hw') (by rfl)) ?_
      repeat (first | refine x_move (by rfl) ?_ | refine x_as (by rfl) (by rfl) ?_ | refine x_skip (by rfl) ?_ | refine x_fld (by rfl) (by rfl) FldO.h ?_ | refine x_nilck (by rfl) (by rfl) ?_ | refine x_len (by rfl) (by rfl) ElOf.some ?_ | refine x_ext (by rfl) (by rfl) (by rfl) ?_ | refine x_pickT (by rfl) (by rfl) (by rfl) ?_ | refine x_pickF (by rfl) (by rfl) (by rfl) ?_ | refine x_add (by rfl) (by rfl) (by rfl) (by omega) ?_ | refine x_sub (by rfl) (by rfl) (by rfl) (by omega) ?_ | refine x_not (by rfl) (by rfl) ?_)
      refine x_idx p (by rfl) (by rfl) (by rfl) ElSz.h rfl hpn ?_
      repeat (first | refine x_move (by rfl) ?_ | refine x_as (by rfl) (by rfl) ?_ | refine x_skip (by rfl) ?_ | refine x_fld (by rfl) (by rfl) FldO.h ?_ | refine x_nilck (by rfl) (by rfl) ?_ | refine x_len (by rfl) (by rfl) ElOf.some ?_ | refine x_ext (by rfl) (by rfl) (by rfl) ?_ | refine x_pickT (by rfl) (by rfl) (by rfl) ?_ | refine x_pickF (by rfl) (by rfl) (by rfl) ?_ | refine x_add (by rfl) (by rfl) (by rfl) (by omega) ?_ | refine x_sub (by rfl) (by rfl) (by rfl) (by omega) ?_ | refine x_not (by rfl) (by rfl) ?_)
      refine q_load (by rfl) (by rfl) (by rfl) (fun w' hw' => load_m (rd2.at hw') hy rfl rfl) ?_
      refine q_call (v := .bool (wlt x y)) (by rfl) (by rfl) (by rfl) (fun w' hw' => (ref_match x.m y.m w' (xR.at hw') (yR.at hw')).mono fun v w'' h => ⟨h.1, hw'.trans h.2⟩) ?_
      repeat (first | refine x_move (by rfl) ?_ | refine x_as (by rfl) (by rfl) ?_ | refine x_skip (by rfl) ?_ | refine x_fld (by rfl) (by rfl) FldO.h ?_ | refine x_nilck (by rfl) (by rfl) ?_ | refine x_len (by rfl) (by rfl) ElOf.some ?_ | refine x_ext (by rfl) (by rfl) (by rfl) ?_ | refine x_pickT (by rfl) (by rfl) (by rfl) ?_ | refine x_pickF (by rfl) (by rfl) (by rfl) ?_ | refine x_add (by rfl) (by rfl) (by rfl) (by omega) ?_ | refine x_sub (by rfl) (by rfl) (by rfl) (by omega) ?_ | refine x_not (by rfl) (by rfl) ?_)
      refine x_nil fun w3 u3 => ?_
      refine ⟨rfl, !wlt x y, at_ ⟨rfl, rfl, rfl, rfl, trivial⟩, fun hq => ⟨y, List.mem_of_getElem? hy, ?_⟩, fun hq z hz => ?_, u3⟩
      · have hxy : wlt x y = false := by simpa using hq
        have hyx := hge y hy
        exact Classical.byContradiction fun hn => by
          rcases klt_tot.tri _ _ hn with h | h
          · rw [wlt, mlt, h] at hyx; cases hyx
          · rw [wlt, mlt, h] at hxy; cases hxy
      · rw [hy] at hz
        cases hz
        simpa using hq
    · (repeat (first | refine swp_seq ?_ | refine swp_block ?_)); refine swp_draw (Ext w2) [] Mixed.h (by kernel_rfl) (by kernel_rfl) (ext_drew w2) ?_
      repeat (first | refine x_move (by rfl) ?_ | refine x_as (by rfl) (by rfl) ?_ | refine x_skip (by rfl) ?_ | refine x_fld (by rfl) (by rfl) FldO.h ?_ | refine x_nilck (by rfl) (by rfl) ?_ | refine x_len (by rfl) (by rfl) ElOf.some ?_ | refine x_ext (by rfl) (by rfl) (by rfl) ?_ | refine x_pickT (by rfl) (by rfl) (by rfl) ?_ | refine x_pickF (by rfl) (by rfl) (by rfl) ?_ | refine x_add (by rfl) (by rfl) (by rfl) (by omega) ?_ | refine x_sub (by rfl) (by rfl) (by rfl) (by omega) ?_ | refine x_not (by rfl) (by rfl) ?_)
      refine q_load (by rfl) (by rfl) (by rfl) (fun w' hw' => load_one (v := .slice a S.length c) OneT.h (hb2.at hw') (by rfl)) ?_
      repeat (first | refine x_move (by rfl) ?_ | refine x_as (by rfl) (by rfl) ?_ | refine x_skip (by rfl) ?_ | refine x_fld (by rfl) (by rfl) FldO.h ?_ | refine x_nilck (by rfl) (by rfl) ?_ | refine x_len (by rfl) (by rfl) ElOf.some ?_ | refine x_ext (by rfl) (by rfl) (by rfl) ?_ | refine x_pickT (by rfl) (by rfl) (by rfl) ?_ | refine x_pickF (by rfl) (by rfl) (by rfl) ?_ | refine x_add (by rfl) (by rfl) (by rfl) (by omega) ?_ | refine x_sub (by rfl) (by rfl) (by rfl) (by omega) ?_ | refine x_not (by rfl) (by rfl) ?_)
      refine x_lssF (by rfl) (by rfl) (by rfl) (by omega) ?_
      repeat (first | refine x_move (by rfl) ?_ | refine x_as (by rfl) (by rfl) ?_ | refine x_skip (by rfl) ?_ | refine x_fld (by rfl) (by rfl) FldO.h ?_ | refine x_nilck (by rfl) (by rfl) ?_ | refine x_len (by rfl) (by rfl) ElOf.some ?_ | refine x_ext (by rfl) (by rfl) (by rfl) ?_ | refine x_pickT (by rfl) (by rfl) (by rfl) ?_ | refine x_pickF (by rfl) (by rfl) (by rfl) ?_ | refine x_add (by rfl) (by rfl) (by rfl) (by omega) ?_ | refine x_sub (by rfl) (by rfl) (by rfl) (by omega) ?_ | refine x_not (by rfl) (by rfl) ?_)
      refine x_nil fun w3 u3 => ?_
      refine ⟨rfl, false, at_ ⟨rfl, rfl, rfl, rfl, trivial⟩, by simp, fun _ z hz => ?_, u3⟩
      have := (List.getElem?_eq_some_iff.1 hz).1
      omega
  rintro σ w3 ⟨q, ⟨ρ, rfl⟩, hq1, hq2, u3⟩
  have u03 := u02.trans u3
  refine n_then ?_
  (repeat (first | refine swp_seq ?_ | refine swp_block ?_))
  cases q with
  | true =>
    refine swp_true (by rfl) ?_
    (repeat (first | refine swp_seq ?_ | refine swp_block ?_)); refine swp_region (by kernel_rfl) ?_
    repeat (first | refine x_move (by rfl) ?_ | refine x_as (by rfl) (by rfl) ?_ | refine x_skip (by rfl) ?_ | refine x_fld (by rfl) (by rfl) FldO.h ?_ | refine x_nilck (by rfl) (by rfl) ?_ | refine x_len (by rfl) (by rfl) ElOf.some ?_ | refine x_ext (by rfl) (by rfl) (by rfl) ?_ | refine x_pickT (by rfl) (by rfl) (by rfl) ?_ | refine x_pickF (by rfl) (by rfl) (by rfl) ?_ | refine x_add (by rfl) (by rfl) (by rfl) (by omega) ?_ | refine x_sub (by rfl) (by rfl) (by rfl) (by omega) ?_ | refine x_not (by rfl) (by rfl) ?_)
    refine x_nilw ?_
    refine swp_ret ?_; (repeat (first | with_reducible refine r_then ?_ | with_reducible refine r_block ?_ | with_reducible refine r_jump ?_))
    exact post1 rfl rfl ⟨_, rfl, .inl ⟨rfl, hq1 rfl, h00.at u03, u03⟩⟩
  | false =>
    refine swp_false (by rfl) (swp_skip ?_)
    have hgt := hq2 rfl
    have hnone := no_alike hD.rise hlt hgt
    clear hq1 hq2 hge
    have h13 := h12.at u3
    (repeat (first | refine swp_seq ?_ | refine swp_block ?_)); refine swp_region (by kernel_rfl) ?_
    repeat (first | refine x_move (by rfl) ?_ | refine x_as (by rfl) (by rfl) ?_ | refine x_skip (by rfl) ?_ | refine x_fld (by rfl) (by rfl) FldO.h ?_ | refine x_nilck (by rfl) (by rfl) ?_ | refine x_len (by rfl) (by rfl) ElOf.some ?_ | refine x_ext (by rfl) (by rfl) (by rfl) ?_ | refine x_pickT (by rfl) (by rfl) (by rfl) ?_ | refine x_pickF (by rfl) (by rfl) (by rfl) ?_ | refine x_add (by rfl) (by rfl) (by rfl) (by omega) ?_ | refine x_sub (by rfl) (by rfl) (by rfl) (by omega) ?_ | refine x_not (by rfl) (by rfl) ?_)
    refine x_nilw ?_
    (repeat (first | refine swp_seq ?_ | refine swp_block ?_)); refine swp_region (by kernel_rfl) ?_
    repeat (first | refine x_move (by rfl) ?_ | refine x_as (by rfl) (by rfl) ?_ | refine x_skip (by rfl) ?_ | refine x_fld (by rfl) (by rfl) FldO.h ?_ | refine x_nilck (by rfl) (by rfl) ?_ | refine x_len (by rfl) (by rfl) ElOf.some ?_ | refine x_ext (by rfl) (by rfl) (by rfl) ?_ | refine x_pickT (by rfl) (by rfl) (by rfl) ?_ | refine x_pickF (by rfl) (by rfl) (by rfl) ?_ | refine x_add (by rfl) (by rfl) (by rfl) (by omega) ?_ | refine x_sub (by rfl) (by rfl) (by rfl) (by omega) ?_ | refine x_not (by rfl) (by rfl) ?_)
    refine x_nilw ?_
    refine swp_fit [(0, .pointer (some ⟨bm, 0, none⟩)), (3, .pointer (some ⟨b3, 0, none⟩)), (5, .int .i64 (p : Nat)), (6, .slice none 0 0), (7, .int .i64 ((0 : Nat) : Int))] ⟨rfl, rfl, rfl, rfl, rfl, trivial⟩ fun ρ => ?_
    (repeat (first | refine swp_seq ?_ | refine swp_block ?_))
    refine swp_loop (fun (j : Nat) σ w4 => ∃ so, At σ [(0, .pointer (some ⟨bm, 0, none⟩)), (3, .pointer (some ⟨b3, 0, none⟩)), (5, .int .i64 (p : Nat)), (6, so), (7, .int .i64 (j : Nat))] ∧ j ≤ p ∧ Own w4 40 5 so j (fl Wt.cells (S.take j)) ∧ (∀ b, isIn so b → w3.heap.size ≤ b) ∧ Ext w3 w4) (fun j => p - j) 0 ⟨.slice none 0 0, at_ ⟨rfl, rfl, rfl, rfl, rfl, trivial⟩, by omega, Own.nil _ _ _, fun b h => h.elim, Upd.refl _ _⟩ ?_
    rintro j σ w4 ⟨so, ⟨ρ, rfl⟩, hj, hO, hn, u4⟩
    have u04 := u03.trans u4
    have hb4 := hb.at u04
    have rd4 := rd.at u04
    (repeat (first | refine swp_seq ?_ | refine swp_block ?_)); refine swp_region (by kernel_rfl) ?_
    repeat (first | refine x_move (by rfl) ?_ | refine x_as (by rfl) (by rfl) ?_ | refine x_skip (by rfl) ?_ | refine x_fld (by rfl) (by rfl) FldO.h ?_ | refine w_load (by rfl) (by rfl) (load_one OneT.h (by assumption) (by rfl)) ?_ | refine x_nilck (by rfl) (by rfl) ?_ | refine x_len (by rfl) (by rfl) ElOf.some ?_ | refine x_iface (by rfl) (by rfl) NIf.h ?_ | refine x_ext (by rfl) (by rfl) (by rfl) ?_ | refine x_pickT (by rfl) (by rfl) (by rfl) ?_ | refine x_pickF (by rfl) (by rfl) (by rfl) ?_ | refine x_add (by rfl) (by rfl) (by rfl) (by omega) ?_ | refine x_sub (by rfl) (by rfl) (by rfl) (by omega) ?_ | refine x_lss (by rfl) (by rfl) (by rfl) ?_ | refine x_geq (by rfl) (by rfl) (by rfl) ?_ | refine x_leq (by rfl) (by rfl) (by rfl) ?_ | refine x_gtr (by rfl) (by rfl) (by rfl) ?_ | refine x_eql (by rfl) (by rfl) (by rfl) ?_ | refine x_neq (by rfl) (by rfl) (by rfl) ?_ | refine x_not (by rfl) (by rfl) ?_)
    refine x_nilw ?_
    (repeat (first | refine swp_seq ?_ | refine swp_block ?_))
    refine swp_if (by rfl) (fun h0 => swp_skip ?_) (fun h0 => ?_)
    · have hj' : j < p := by omega
      obtain ⟨y, hy⟩ := nthE (L := S) (i := j) (by omega)
      obtain ⟨ba, oa, da, hea, -, -⟩ := rd.pos (by omega)
      simp only [Value.slice.injEq] at hea
      obtain ⟨rfl, _, rfl⟩ := hea
      (repeat (first | with_reducible refine n_then ?_ | with_reducible refine n_block ?_ | with_reducible refine n_jump ?_))
      (repeat (first | refine swp_seq ?_ | refine swp_block ?_)); refine swp_region (by kernel_rfl) ?_
      repeat (first | refine x_move (by rfl) ?_ | refine x_as (by rfl) (by rfl) ?_ | refine x_skip (by rfl) ?_ | refine x_fld (by rfl) (by rfl) FldO.h ?_ | refine x_nilck (by rfl) (by rfl) ?_ | refine x_len (by rfl) (by rfl) ElOf.some ?_ | refine x_ext (by rfl) (by rfl) (by rfl) ?_ | refine x_pickT (by rfl) (by rfl) (by rfl) ?_ | refine x_pickF (by rfl) (by rfl) (by rfl) ?_ | refine x_add (by rfl) (by rfl) (by rfl) (by omega) ?_ | refine x_sub (by rfl) (by rfl) (by rfl) (by omega) ?_ | refine x_not (by rfl) (by rfl) ?_)
      refine w_load (by rfl) (by rfl) (load_one (v := .slice (some ⟨ba, oa, none⟩) S.length c) OneT.h hb4 (by rfl)) ?_
      repeat (first | refine x_move (by rfl) ?_ | refine x_as (by rfl) (by rfl) ?_ | refine x_skip (by rfl) ?_ | refine x_fld (by rfl) (by rfl) FldO.h ?_ | refine x_nilck (by rfl) (by rfl) ?_ | refine x_len (by rfl) (by rfl) ElOf.some ?_ | refine x_ext (by rfl) (by rfl) (by rfl) ?_ | refine x_pickT (by rfl) (by rfl) (by rfl) ?_ | refine x_pickF (by rfl) (by rfl) (by rfl) ?_ | refine x_add (by rfl) (by rfl) (by rfl) (by omega) ?_ | refine x_sub (by rfl) (by rfl) (by rfl) (by omega) ?_ | refine x_not (by rfl) (by rfl) ?_)
      refine x_idx j (by rfl) (by rfl) (by rfl) ElSz.h rfl (by omega) ?_
      refine w_load (by rfl) (by rfl) (rd_load wt_len AggT.h rd4 hy rfl rfl) ?_
      refine w_bslice (e := 40) (cs := y.cells) (by rfl) (by rfl) (by rfl) (by kernel_rfl) ?_
      intro b6 w6 e6 u6 h6
      refine w_append (more := []) (news := y.cells) (by rfl) (by rfl) (by rfl) (by rfl) SlC.h (hO.at u6) (by rw [List.append_nil]; exact h6) (wt_len _) (wt_one _) (by omega) (hr.le (by omega)) ?_
      intro so' w7 hown7 u7 hin7
      repeat (first | refine x_move (by rfl) ?_ | refine x_as (by rfl) (by rfl) ?_ | refine x_skip (by rfl) ?_ | refine x_fld (by rfl) (by rfl) FldO.h ?_ | refine x_nilck (by rfl) (by rfl) ?_ | refine x_len (by rfl) (by rfl) ElOf.some ?_ | refine x_ext (by rfl) (by rfl) (by rfl) ?_ | refine x_pickT (by rfl) (by rfl) (by rfl) ?_ | refine x_pickF (by rfl) (by rfl) (by rfl) ?_ | refine x_add (by rfl) (by rfl) (by rfl) (by omega) ?_ | refine x_sub (by rfl) (by rfl) (by rfl) (by omega) ?_ | refine x_not (by rfl) (by rfl) ?_)
      refine x_nilw ?_
      (repeat (first | with_reducible refine n_then ?_ | with_reducible refine n_block ?_ | with_reducible refine n_jump ?_))
      (repeat (first | refine swp_seq ?_ | refine swp_block ?_)); refine swp_region (by kernel_rfl) ?_
      repeat (first | refine x_move (by rfl) ?_ | refine x_as (by rfl) (by rfl) ?_ | refine x_skip (by rfl) ?_ | refine x_fld (by rfl) (by rfl) FldO.h ?_ | refine w_load (by rfl) (by rfl) (load_one OneT.h (by assumption) (by rfl)) ?_ | refine x_nilck (by rfl) (by rfl) ?_ | refine x_len (by rfl) (by rfl) ElOf.some ?_ | refine x_iface (by rfl) (by rfl) NIf.h ?_ | refine x_ext (by rfl) (by rfl) (by rfl) ?_ | refine x_pickT (by rfl) (by rfl) (by rfl) ?_ | refine x_pickF (by rfl) (by rfl) (by rfl) ?_ | refine x_add (by rfl) (by rfl) (by rfl) (by omega) ?_ | refine x_sub (by rfl) (by rfl) (by rfl) (by omega) ?_ | refine x_lss (by rfl) (by rfl) (by rfl) ?_ | refine x_geq (by rfl) (by rfl) (by rfl) ?_ | refine x_leq (by rfl) (by rfl) (by rfl) ?_ | refine x_gtr (by rfl) (by rfl) (by rfl) ?_ | refine x_eql (by rfl) (by rfl) (by rfl) ?_ | refine x_neq (by rfl) (by rfl) (by rfl) ?_ | refine x_not (by rfl) (by rfl) ?_)
      refine x_nilw ?_
      have s4 := u4.size; have s6 := u6.size
      refine ⟨j + 1, ⟨so', at_ ⟨rfl, rfl, rfl, rfl, rfl, trivial⟩, hj', ?_, fun b hb => (hin7 b hb).elim (fun h => hn b h) fun h => by omega, (u4.trans u6).trans' u7 fun b hb h => by have := hn b h; omega⟩, by omega⟩
      rw [take_succ' hy, fl_append, fl_one]
      exact hown7
    have hjp : j = p := by omega
    subst hjp
    refine swp_exit ?_; (repeat (first | with_reducible refine e_then ?_ | with_reducible refine e_jump ?_)); refine e_block ?_; (repeat (first | with_reducible refine n_then ?_ | with_reducible refine n_block ?_ | with_reducible refine n_jump ?_))
    have h14 := h13.at u4
    refine swp_fit [(0, .pointer (some ⟨bm, 0, none⟩)), (3, .pointer (some ⟨b3, 0, none⟩)), (5, .int .i64 (j : Nat)), (6, so)] ⟨rfl, rfl, rfl, rfl, trivial⟩ fun ρ => ?_
    (repeat (first | refine swp_seq ?_ | refine swp_block ?_)); refine swp_region (by kernel_rfl) ?_
    refine w_load (by rfl) (by rfl) (load_agg (xs := x.cells) AggT.h h14 (by rfl) (by rfl)) ?_
    refine w_call (by rfl) (by rfl) (by rfl) (twin_waiting x w4 (hx.at u04)) ?_
    rintro _ w5 ⟨y, rfl, hc⟩
    refine w_alloc (by rfl) (by rfl) ZeroT.h ?_; intro b8 w6 e6 u6 h6
    refine w_store (xs := y.cells) (by rfl) (by rfl) (by rfl) (by rfl) SzT.h (by rfl) (by rfl) h6 (by simp) ?_
    intro w7 u7 h7 _
    refine x_nilw ?_
    replace h7 : Blk w7 b8 40 y.cells := h7
    have u57 : Ext w5 w7 := u6.trans' u7 fun b hb e => by have e' : b = b8 := e; omega
    have hc7 := hc.at u57
    have s3 := u03.size; have s4 := u4.size; have s5 := hc.ext.size; have s7 := u57.size
    have yn : ∀ b, y.In b → w4.heap.size ≤ b := hc.new
    refine swp_fit [(0, .pointer (some ⟨bm, 0, none⟩)), (5, .int .i64 (j : Nat)), (6, so), (8, .pointer (some ⟨b8, 0, none⟩))] ⟨rfl, rfl, rfl, rfl, trivial⟩ fun ρ => ?_
    (repeat (first | refine swp_seq ?_ | refine swp_block ?_)); refine swp_region (by kernel_rfl) ?_
    repeat (first | refine x_move (by rfl) ?_ | refine x_as (by rfl) (by rfl) ?_ | refine x_skip (by rfl) ?_ | refine x_fld (by rfl) (by rfl) FldO.h ?_ | refine x_nilck (by rfl) (by rfl) ?_ | refine x_len (by rfl) (by rfl) ElOf.some ?_ | refine x_ext (by rfl) (by rfl) (by rfl) ?_ | refine x_pickT (by rfl) (by rfl) (by rfl) ?_ | refine x_pickF (by rfl) (by rfl) (by rfl) ?_ | refine x_add (by rfl) (by rfl) (by rfl) (by omega) ?_ | refine x_sub (by rfl) (by rfl) (by rfl) (by omega) ?_ | refine x_not (by rfl) (by rfl) ?_)
    refine w_load (by rfl) (by rfl) (load_agg (xs := y.cells) AggT.h h7 (by rfl) (by rfl)) ?_
    refine w_bslice (e := 40) (cs := y.cells) (by rfl) (by rfl) (by rfl) (by kernel_rfl) ?_
    intro b9 w9 e9 u9 h9
    have hc9 := hc7.at u9
    have s9 := u9.size
    refine w_append (more := []) (news := y.cells) (by rfl) (by rfl) (by rfl) (by rfl) SlC.h (hO.at hc9.ext) (by rw [List.append_nil]; exact h9) (wt_len _) (wt_one _) (by omega) (hr.le (by omega)) ?_
    intro so1 w10 hown10 u10 hin10
    repeat (first | refine x_move (by rfl) ?_ | refine x_as (by rfl) (by rfl) ?_ | refine x_skip (by rfl) ?_ | refine x_fld (by rfl) (by rfl) FldO.h ?_ | refine x_nilck (by rfl) (by rfl) ?_ | refine x_len (by rfl) (by rfl) ElOf.some ?_ | refine x_ext (by rfl) (by rfl) (by rfl) ?_ | refine x_pickT (by rfl) (by rfl) (by rfl) ?_ | refine x_pickF (by rfl) (by rfl) (by rfl) ?_ | refine x_add (by rfl) (by rfl) (by rfl) (by omega) ?_ | refine x_sub (by rfl) (by rfl) (by rfl) (by omega) ?_ | refine x_not (by rfl) (by rfl) ?_)
    refine x_nilw ?_
    have hnp : j ≤ S.length := hp
    rw [show fl Wt.cells (S.take j) ++ y.cells = fl Wt.cells ((ins S j y).take (j + 1)) by rw [ins_take hnp, fl_append, fl_one]] at hown10
    have hy10 : y.Rdy w10 := hc9.rdy.get u10 fun b hb h => by have := hO.lt h; have := yn b hb; omega
    have hya : ∀ b, y.In b → ¬isIn so1 b := fun b hb h => by
      rcases hin10 b h with h | h
      · have := hO.lt h; have := yn b hb; omega
      · have := hc9.rdy.lt hb; omega
    have u10' : Ext w w10 := (u04.trans hc9.ext).trans' u10 fun b hb h => by have := hn b h; omega
    have hn10 : ∀ b, isIn so1 b → w.heap.size ≤ b := fun b hb => (hin10 b hb).elim (fun h => by have := hn b h; omega) fun h => by omega
    have hys := hc.says
    have hyn : ∀ b, y.In b → w.heap.size ≤ b := fun b hb => by have := yn b hb; omega
    clear hc hc7 hc9 hO hin10 hn u9 h9 u6 h6 u7 h7
    (repeat (first | refine swp_seq ?_ | refine swp_block ?_)); refine swp_region (by kernel_rfl) ?_
    repeat (first | refine x_move (by rfl) ?_ | refine x_as (by rfl) (by rfl) ?_ | refine x_skip (by rfl) ?_ | refine x_fld (by rfl) (by rfl) FldO.h ?_ | refine x_nilck (by rfl) (by rfl) ?_ | refine x_len (by rfl) (by rfl) ElOf.some ?_ | refine x_ext (by rfl) (by rfl) (by rfl) ?_ | refine x_pickT (by rfl) (by rfl) (by rfl) ?_ | refine x_pickF (by rfl) (by rfl) (by rfl) ?_ | refine x_add (by rfl) (by rfl) (by rfl) (by omega) ?_ | refine x_sub (by rfl) (by rfl) (by rfl) (by omega) ?_ | refine x_not (by rfl) (by rfl) ?_)
    refine x_nilw ?_
    refine swp_fit [(0, .pointer (some ⟨bm, 0, none⟩)), (6, so1), (9, .int .i64 (j : Nat))] ⟨rfl, rfl, rfl, trivial⟩ fun ρ => ?_
    (repeat (first | refine swp_seq ?_ | refine swp_block ?_))
    refine swp_loop (fun (k : Nat) σ w11 => ∃ so, At σ [(0, .pointer (some ⟨bm, 0, none⟩)), (6, so), (9, .int .i64 (k : Nat))] ∧ j ≤ k ∧ k ≤ S.length ∧ Own w11 40 5 so (k + 1) (fl Wt.cells ((ins S j y).take (k + 1))) ∧ (∀ b, isIn so b → w.heap.size ≤ b) ∧ y.Rdy w11 ∧ (∀ b, y.In b → ¬isIn so b) ∧ Ext w w11) (fun k => S.length - k) j ⟨so1, at_ ⟨rfl, rfl, rfl, trivial⟩, Nat.le_refl _, hp, hown10, hn10, hy10, hya, u10'⟩ ?_
    clear hown10 hn10 hy10 hya u10' u10
    rintro k σ w11 ⟨so2, ⟨ρ, rfl⟩, hjk, hk, hO, hn, yR, hya, u11⟩
    have hb11 := hb.at u11
    have rd11 := rd.at u11
    (repeat (first | refine swp_seq ?_ | refine swp_block ?_)); refine swp_region (by kernel_rfl) ?_
    repeat (first | refine x_move (by rfl) ?_ | refine x_as (by rfl) (by rfl) ?_ | refine x_skip (by rfl) ?_ | refine x_fld (by rfl) (by rfl) FldO.h ?_ | refine x_nilck (by rfl) (by rfl) ?_ | refine x_len (by rfl) (by rfl) ElOf.some ?_ | refine x_ext (by rfl) (by rfl) (by rfl) ?_ | refine x_pickT (by rfl) (by rfl) (by rfl) ?_ | refine x_pickF (by rfl) (by rfl) (by rfl) ?_ | refine x_add (by rfl) (by rfl) (by rfl) (by omega) ?_ | refine x_sub (by rfl) (by rfl) (by rfl) (by omega) ?_ | refine x_not (by rfl) (by rfl) ?_)
    refine w_load (by rfl) (by rfl) (load_one (v := .slice a S.length c) OneT.h hb11 (by rfl)) ?_
    repeat (first | refine x_move (by rfl) ?_ | refine x_as (by rfl) (by rfl) ?_ | refine x_skip (by rfl) ?_ | refine x_fld (by rfl) (by rfl) FldO.h ?_ | refine w_load (by rfl) (by rfl) (load_one OneT.h (by assumption) (by rfl)) ?_ | refine x_nilck (by rfl) (by rfl) ?_ | refine x_len (by rfl) (by rfl) ElOf.some ?_ | refine x_iface (by rfl) (by rfl) NIf.h ?_ | refine x_ext (by rfl) (by rfl) (by rfl) ?_ | refine x_pickT (by rfl) (by rfl) (by rfl) ?_ | refine x_pickF (by rfl) (by rfl) (by rfl) ?_ | refine x_add (by rfl) (by rfl) (by rfl) (by omega) ?_ | refine x_sub (by rfl) (by rfl) (by rfl) (by omega) ?_ | refine x_lss (by rfl) (by rfl) (by rfl) ?_ | refine x_geq (by rfl) (by rfl) (by rfl) ?_ | refine x_leq (by rfl) (by rfl) (by rfl) ?_ | refine x_gtr (by rfl) (by rfl) (by rfl) ?_ | refine x_eql (by rfl) (by rfl) (by rfl) ?_ | refine x_neq (by rfl) (by rfl) (by rfl) ?_ | refine x_not (by rfl) (by rfl) ?_)
    refine x_nilw ?_
    (repeat (first | refine swp_seq ?_ | refine swp_block ?_))
    refine swp_if (by rfl) (fun h0 => swp_skip ?_) (fun h0 => ?_)
    · have hk' : k < S.length := by omega
      obtain ⟨z, hz⟩ := nthE (L := S) (i := k) (by omega)
      obtain ⟨ba, oa, da, hea, -, -⟩ := rd.pos (by omega)
      simp only [Value.slice.injEq] at hea
      obtain ⟨rfl, _, rfl⟩ := hea
      (repeat (first | with_reducible refine n_then ?_ | with_reducible refine n_block ?_ | with_reducible refine n_jump ?_))
      (repeat (first | refine swp_seq ?_ | refine swp_block ?_)); refine swp_region (by kernel_rfl) ?_
      repeat (first | refine x_move (by rfl) ?_ | refine x_as (by rfl) (by rfl) ?_ | refine x_skip (by rfl) ?_ | refine x_fld (by rfl) (by rfl) FldO.h ?_ | refine x_nilck (by rfl) (by rfl) ?_ | refine x_len (by rfl) (by rfl) ElOf.some ?_ | refine x_ext (by rfl) (by rfl) (by rfl) ?_ | refine x_pickT (by rfl) (by rfl) (by rfl) ?_ | refine x_pickF (by rfl) (by rfl) (by rfl) ?_ | refine x_add (by rfl) (by rfl) (by rfl) (by omega) ?_ | refine x_sub (by rfl) (by rfl) (by rfl) (by omega) ?_ | refine x_not (by rfl) (by rfl) ?_)
      refine w_load (by rfl) (by rfl) (load_one (v := .slice (some ⟨ba, oa, none⟩) S.length c) OneT.h hb11 (by rfl)) ?_
      repeat (first | refine x_move (by rfl) ?_ | refine x_as (by rfl) (by rfl) ?_ | refine x_skip (by rfl) ?_ | refine x_fld (by rfl) (by rfl) FldO.h ?_ | refine x_nilck (by rfl) (by rfl) ?_ | refine x_len (by rfl) (by rfl) ElOf.some ?_ | refine x_ext (by rfl) (by rfl) (by rfl) ?_ | refine x_pickT (by rfl) (by rfl) (by rfl) ?_ | refine x_pickF (by rfl) (by rfl) (by rfl) ?_ | refine x_add (by rfl) (by rfl) (by rfl) (by omega) ?_ | refine x_sub (by rfl) (by rfl) (by rfl) (by omega) ?_ | refine x_not (by rfl) (by rfl) ?_)
      refine x_idx k (by rfl) (by rfl) (by rfl) ElSz.h rfl (by omega) ?_
      refine w_load (by rfl) (by rfl) (rd_load wt_len AggT.h rd11 hz rfl rfl) ?_
      refine w_bslice (e := 40) (cs := z.cells) (by rfl) (by rfl) (by rfl) (by kernel_rfl) ?_
      intro b6 w12 e6 u12 h12
      refine w_append (more := []) (news := z.cells) (by rfl) (by rfl) (by rfl) (by rfl) SlC.h (hO.at u12) (by rw [List.append_nil]; exact h12) (wt_len _) (wt_one _) (by omega) (hr.le (by omega)) ?_
      intro so' w13 hown13 u13 hin13
      repeat (first | refine x_move (by rfl) ?_ | refine x_as (by rfl) (by rfl) ?_ | refine x_skip (by rfl) ?_ | refine x_fld (by rfl) (by rfl) FldO.h ?_ | refine x_nilck (by rfl) (by rfl) ?_ | refine x_len (by rfl) (by rfl) ElOf.some ?_ | refine x_ext (by rfl) (by rfl) (by rfl) ?_ | refine x_pickT (by rfl) (by rfl) (by rfl) ?_ | refine x_pickF (by rfl) (by rfl) (by rfl) ?_ | refine x_add (by rfl) (by rfl) (by rfl) (by omega) ?_ | refine x_sub (by rfl) (by rfl) (by rfl) (by omega) ?_ | refine x_not (by rfl) (by rfl) ?_)
      refine x_nilw ?_
      (repeat (first | with_reducible refine n_then ?_ | with_reducible refine n_block ?_ | with_reducible refine n_jump ?_))
      (repeat (first | refine swp_seq ?_ | refine swp_block ?_)); refine swp_region (by kernel_rfl) ?_
      repeat (first | refine x_move (by rfl) ?_ | refine x_as (by rfl) (by rfl) ?_ | refine x_skip (by rfl) ?_ | refine x_fld (by rfl) (by rfl) FldO.h ?_ | refine w_load (by rfl) (by rfl) (load_one OneT.h (by assumption) (by rfl)) ?_ | refine x_nilck (by rfl) (by rfl) ?_ | refine x_len (by rfl) (by rfl) ElOf.some ?_ | refine x_iface (by rfl) (by rfl) NIf.h ?_ | refine x_ext (by rfl) (by rfl) (by rfl) ?_ | refine x_pickT (by rfl) (by rfl) (by rfl) ?_ | refine x_pickF (by rfl) (by rfl) (by rfl) ?_ | refine x_add (by rfl) (by rfl) (by rfl) (by omega) ?_ | refine x_sub (by rfl) (by rfl) (by rfl) (by omega) ?_ | refine x_lss (by rfl) (by rfl) (by rfl) ?_ | refine x_geq (by rfl) (by rfl) (by rfl) ?_ | refine x_leq (by rfl) (by rfl) (by rfl) ?_ | refine x_gtr (by rfl) (by rfl) (by rfl) ?_ | refine x_eql (by rfl) (by rfl) (by rfl) ?_ | refine x_neq (by rfl) (by rfl) (by rfl) ?_ | refine x_not (by rfl) (by rfl) ?_)
      refine x_nilw ?_
      have s11 := u11.size; have s12 := u12.size
      refine ⟨k + 1, ⟨so', at_ ⟨rfl, rfl, rfl, trivial⟩, by omega, hk', ?_, fun b hb => (hin13 b hb).elim (fun h => hn b h) fun h => by omega, (yR.at u12).get u13 hya, fun b hb h => ?_, (u11.trans u12).trans' u13 fun b hb h => by have := hn b h; omega⟩, by omega⟩
      · rw [ins_up hjk hz, fl_append, fl_one]
        exact hown13
      · rcases hin13 b h with h | h
        · exact hya b hb h
        · have := (yR.at u12).lt hb; omega
    have hkn : k = S.length := by omega
    subst hkn
    refine swp_exit ?_; (repeat (first | with_reducible refine e_then ?_ | with_reducible refine e_jump ?_)); refine e_block ?_; (repeat (first | with_reducible refine n_then ?_ | with_reducible refine n_block ?_ | with_reducible refine n_jump ?_))
    have hfull : (ins S j y).take (S.length + 1) = ins S j y := List.take_of_length_le (by rw [ins_len]; omega)
    rw [hfull] at hO
    obtain ⟨a2, c2, rfl⟩ := hO.slice
    refine swp_fit [(0, .pointer (some ⟨bm, 0, none⟩)), (6, .slice a2 (S.length + 1) c2)] ⟨rfl, rfl, trivial⟩ fun ρ => ?_
    (repeat (first | refine swp_seq ?_ | refine swp_block ?_)); refine swp_region (by kernel_rfl) ?_
    repeat (first | refine x_move (by rfl) ?_ | refine x_as (by rfl) (by rfl) ?_ | refine x_skip (by rfl) ?_ | refine x_fld (by rfl) (by rfl) FldO.h ?_ | refine x_nilck (by rfl) (by rfl) ?_ | refine x_len (by rfl) (by rfl) ElOf.some ?_ | refine x_ext (by rfl) (by rfl) (by rfl) ?_ | refine x_pickT (by rfl) (by rfl) (by rfl) ?_ | refine x_pickF (by rfl) (by rfl) (by rfl) ?_ | refine x_add (by rfl) (by rfl) (by rfl) (by omega) ?_ | refine x_sub (by rfl) (by rfl) (by rfl) (by omega) ?_ | refine x_not (by rfl) (by rfl) ?_)
    refine w_store (xs := [.slice a2 (S.length + 1) c2]) (by rfl) (by rfl) (by rfl) (by rfl) SzT.h (by rfl) (by rfl) hb11 (by simp) ?_
    intro w14 u14 h14' _
    refine x_nilw ?_
    replace h14' : Blk w14 bm 103 [.slice a2 (S.length + 1) c2] := h14'
    (repeat (first | refine swp_seq ?_ | refine swp_block ?_)); refine swp_region (by kernel_rfl) ?_
    repeat (first | refine x_move (by rfl) ?_ | refine x_as (by rfl) (by rfl) ?_ | refine x_skip (by rfl) ?_ | refine x_fld (by rfl) (by rfl) FldO.h ?_ | refine x_nilck (by rfl) (by rfl) ?_ | refine x_len (by rfl) (by rfl) ElOf.some ?_ | refine x_ext (by rfl) (by rfl) (by rfl) ?_ | refine x_pickT (by rfl) (by rfl) (by rfl) ?_ | refine x_pickF (by rfl) (by rfl) (by rfl) ?_ | refine x_add (by rfl) (by rfl) (by rfl) (by omega) ?_ | refine x_sub (by rfl) (by rfl) (by rfl) (by omega) ?_ | refine x_not (by rfl) (by rfl) ?_)
    refine x_nilw ?_
    refine swp_ret ?_; (repeat (first | with_reducible refine r_then ?_ | with_reducible refine r_block ?_ | with_reducible refine r_jump ?_))
    have hput : put wlt S y = ins S j y := put_there hys hlt hgt
    have s11 := u11.size
    have hS : ∀ z ∈ S, z.Rdy w14 := fun z hz => ((hD.each z hz).at u11).get u14 fun b hb e => (hD.ap z hz b hb).1 e
    refine post1 rfl rfl ⟨_, rfl, .inr ⟨rfl, hnone, y, fun b => G b ∨ w.heap.size ≤ b, hys, hyn, ⟨.slice a2 (S.length + 1) c2, ⟨h14', ?_, fun z hz => ?_, fun z hz b hb => ?_, ?_⟩, .inl g1, fun b hb => .inr (hn b hb), fun z hz b hb => ?_⟩, (u11.of _).trans' u14 fun b _ e => by have e' : b = bm := e; rw [e']; exact g1, fun b hb => hb⟩⟩
    · rw [hput, ins_len]
      exact hO.get u14 fun b hb e => by have e' : b = bm := e; have := hn b hb; omega
    · rcases mem_putW.1 hz with rfl | hz
      · exact yR.get u14 fun b hb e => by have e' : b = bm := e; have := hyn b hb; omega
      · exact hS z hz
    · rcases mem_putW.1 hz with rfl | hz
      · exact ⟨by have := hyn b hb; omega, hya b hb⟩
      · exact ⟨(hD.ap z hz b hb).1, fun h => by have := hn b h; have := (hD.each z hz).lt hb; omega⟩
    · exact rise_put hD.rise fun z hz hk' => hnone ⟨z, hz, by rw [hk', says_key hys]⟩
    · rcases mem_putW.1 hz with rfl | hz
      · exact .inr (hyn b hb)
      · exact .inl (g3 z hz b hb)
end Go.Proofs.Ytpnigekkbmanlaa
