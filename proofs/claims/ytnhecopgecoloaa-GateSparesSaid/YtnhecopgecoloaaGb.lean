/- A gate: Push. Conditions: fewer than 2^62 pushes. -/
import Derived.Test.YtnhecopgecoloaaGa
namespace Go.Proofs.Ytnhecopgecoloaa
open Hp Sx

theorem nm_apart {x y : Ev} (h : x.nm ≠ y.nm) : elt x y = true ∨ elt y x = true := by
  have h1 : x.ts ≠ y.ts ∨ x.id ≠ y.id := by
    rcases Decidable.em (x.ts = y.ts) with e | e
    · rcases Decidable.em (x.id = y.id) with e' | e'
      · exact absurd (by simp [Ev.nm, e, e']) h
      · exact .inr e'
    · exact .inl e
  simp only [elt, nlt, Ev.nm]
  rcases Int.lt_trichotomy x.ts y.ts with a | a | a
  · left; simp [a]
  · rcases Int.lt_trichotomy x.id y.id with b | b | b
    · left; simp [a, b]
    · exact (h1.elim (fun h => h a) fun h => h b).elim
    · right; simp [a, b]
  · right; simp [a]
theorem look_none {k : Nm} : ∀ {L : List (Nm × Value × Nat)} {i : Nat}, k ∉ L.map (·.1) → lookAt k L i = none
  | [], _, _ => rfl
  | x :: L, i, h => by
    simp only [List.map_cons, List.mem_cons, not_or] at h
    simp only [lookAt, if_neg h.1]
    exact look_none h.2
theorem look_some {k : Nm} : ∀ {L : List (Nm × Value × Nat)} {i : Nat}, k ∈ L.map (·.1) → ∃ j x, lookAt k L i = some (i + j, x.2.1) ∧ L[j]? = some x ∧ x.1 = k
  | [], _, h => by simp at h
  | x :: L, i, h => by
    by_cases e : k = x.1
    · exact ⟨0, x, by simp [lookAt, e], rfl, e.symm⟩
    · obtain ⟨j, y, h1, h2, h3⟩ := look_some (L := L) (i := i + 1) (by simp only [List.map_cons, List.mem_cons] at h; exact h.resolve_left e)
      exact ⟨j + 1, y, by simp only [lookAt, if_neg e, h1]; congr 2; omega, h2, h3⟩
theorem look_last {k : Nm} {v : Value} {c : Nat} : ∀ {L : List (Nm × Value × Nat)} {i : Nat}, lookAt k L i = none → lookAt k (L ++ [(k, v, c)]) i = some (i + L.length, v)
  | [], i, _ => by simp [lookAt]
  | x :: L, i, h => by
    by_cases e : k = x.1
    · simp [lookAt, e] at h
    · simp only [lookAt, if_neg e] at h
      simp only [List.cons_append, lookAt, if_neg e, look_last h, List.length_cons]
      congr 2
      omega
theorem Nms.no {L : List (Nm × Value × Nat)} {clock : Nat} {S : List Ev} (h : Nms L clock S) {k : Nm} (hk : k ∉ S.map Ev.nm) : lookAt k L 0 = none := look_none fun hm => hk (h.keys.mem_iff.1 hm)
theorem Nms.yes {L : List (Nm × Value × Nat)} {clock : Nat} {S : List Ev} (h : Nms L clock S) {k : Nm} (hk : k ∈ S.map Ev.nm) : ∃ j x, lookAt k L 0 = some (j, .int .i64 1) ∧ L[j]? = some x ∧ x.1 = k := by
  obtain ⟨j, x, h1, h2, h3⟩ := look_some (i := 0) (h.keys.mem_iff.2 hk)
  refine ⟨j, x, ?_, h2, h3⟩
  rw [h1, (h.vals x (List.mem_of_getElem? h2)).1, Nat.zero_add]
theorem Nms.add {L : List (Nm × Value × Nat)} {clock : Nat} {S : List Ev} (h : Nms L clock S) (e : Ev) : Nms (L ++ [(e.nm, .int .i64 1, clock)]) (clock + 1) (put elt S e) := by
  refine ⟨?_, fun x hx => ?_⟩
  · rw [List.map_append]
    refine (h.keys.append_right _).trans ?_
    refine List.Perm.trans ?_ ((put_perm S e).map Ev.nm).symm
    exact List.perm_append_comm
  · rcases List.mem_append.1 hx with hx | hx
    · have := h.vals x hx
      exact ⟨this.1, by omega⟩
    · obtain rfl := List.mem_singleton.1 hx
      exact ⟨rfl, by simp⟩
theorem GS.pcode_ok {g : GS} {e : Ev} (h : g.pcode e = 0) : g.shut = false ∧ rng e.ts = true ∧ g.mark < e.ts ∧ e.nm ∉ g.S.map Ev.nm ∧ (g.S.length : Int) ≠ g.cap := by
  unfold GS.pcode at h
  split at h
  · omega
  · next h1 =>
    split at h
    · omega
    · next h2 =>
      split at h
      · omega
      · next h3 =>
        split at h
        · omega
        · next h4 =>
          split at h
          · omega
          · next h5 => exact ⟨by simpa using h1, by simpa using h2, by omega, h4, h5⟩
theorem GS.push_ok {g : GS} (h : g.Ok) (e : Ev) : (g.push e).Ok := by
  unfold GS.push
  split
  · next hc =>
    obtain ⟨h1, h2, h3, h4, h5⟩ := GS.pcode_ok hc
    refine ⟨put_rising elt_ord h.ris fun a ha => nm_apart fun hn => h4 (hn ▸ List.mem_map_of_mem ha), ?_, h.cap, h.cap1, fun x hx => ?_, h.mark⟩
    · show ((put elt g.S e).length : Int) ≤ g.cap
      rw [put_length]
      have := h.len
      omega
    · rcases mem_put.1 hx with rfl | hx
      · unfold rng at h2
        simp only [Bool.and_eq_true, decide_eq_true_eq] at h2
        exact ⟨h3, h2.2⟩
      · exact h.ts x hx
  · exact h

set_option maxHeartbeats 1000000 in
set_option maxRecDepth 100000 in
theorem g_push {w : World} {bg r bp : Nat} {sp : Value} {g : GS} {N : Nat} (e : Ev) (h : Gt w bg r bp sp g N) (ok : g.Ok) (hN : N ≤ 4611686018427387903) : Gets Try.prog 12 [.pointer (some ⟨bg, 0, none⟩), e.v] w fun v w' =>
    v = .int .i64 (g.pcode e) ∧ ∃ sp' N', Gt w' bg r bp sp' (g.push e) N' ∧ N' ≤ N + 1 ∧ Upd (gfoot bg r bp sp) w w' ∧ ∀ b, gfoot bg r bp sp' b → gfoot bg r bp sp b ∨ w.heap.size ≤ b := by
  have hl := ok.len'
  have same : ∀ (c : Int) (w' : World), g.pcode e = c → c ≠ 0 → Ext w w' → Value.int .i64 c = .int .i64 (g.pcode e) ∧ ∃ sp' N', Gt w' bg r bp sp' (g.push e) N' ∧ N' ≤ N + 1 ∧ Upd (gfoot bg r bp sp) w w' ∧ ∀ b, gfoot bg r bp sp' b → gfoot bg r bp sp b ∨ w.heap.size ≤ b :=
    fun c w' hc h0 u => ⟨by rw [hc], sp, N, by unfold GS.push; rw [if_neg (by omega)]; exact h.at u, by omega, u.of _, fun b hb => .inl hb⟩
  refine ⟨GoFn.h, calls_of_swp 56 Try.func12 Try.ntmps12 rfl (Nat.le_of_ble_eq_true rfl) ?_⟩
  (repeat (first | refine swp_seq ?_ | refine swp_block ?_)); refine swp_region (by kernel_rfl) ?_
  refine w_boxA (by rfl) (by rfl) (by rfl) ?_; intro b0 w0 e0 u0 h0
  repeat (first | refine x_move (by rfl) ?_ | refine x_as (by rfl) (by rfl) ?_ | refine x_skip (by rfl) ?_ | refine x_fld (by rfl) (by rfl) FldO.h ?_ | refine x_nilck (by rfl) (by rfl) ?_ | refine x_len (by rfl) (by rfl) ElOf.some ?_ | refine x_ext (by rfl) (by rfl) (by rfl) ?_ | refine x_pickT (by rfl) (by rfl) (by rfl) ?_ | refine x_pickF (by rfl) (by rfl) (by rfl) ?_ | refine x_add (by rfl) (by rfl) (by rfl) (by omega) ?_ | refine x_sub (by rfl) (by rfl) (by rfl) (by omega) ?_ | refine x_not (by rfl) (by rfl) ?_)
  refine x_nilw ?_
  replace h0 : Blk w0 b0 30 e.cells := h0
  have g0 := h.at u0
  (repeat (first | refine swp_seq ?_ | refine swp_block ?_)); refine swp_region (by kernel_rfl) ?_
  repeat (first | refine x_move (by rfl) ?_ | refine x_as (by rfl) (by rfl) ?_ | refine x_skip (by rfl) ?_ | refine x_fld (by rfl) (by rfl) FldO.h ?_ | refine x_nilck (by rfl) (by rfl) ?_ | refine x_len (by rfl) (by rfl) ElOf.some ?_ | refine x_ext (by rfl) (by rfl) (by rfl) ?_ | refine x_pickT (by rfl) (by rfl) (by rfl) ?_ | refine x_pickF (by rfl) (by rfl) (by rfl) ?_ | refine x_add (by rfl) (by rfl) (by rfl) (by omega) ?_ | refine x_sub (by rfl) (by rfl) (by rfl) (by omega) ?_ | refine x_not (by rfl) (by rfl) ?_)
  refine w_load (by rfl) (by rfl) (load_one OneT.h g0.blk (by rfl)) ?_
  repeat (first | refine x_move (by rfl) ?_ | refine x_as (by rfl) (by rfl) ?_ | refine x_skip (by rfl) ?_ | refine x_fld (by rfl) (by rfl) FldO.h ?_ | refine x_nilck (by rfl) (by rfl) ?_ | refine x_len (by rfl) (by rfl) ElOf.some ?_ | refine x_ext (by rfl) (by rfl) (by rfl) ?_ | refine x_pickT (by rfl) (by rfl) (by rfl) ?_ | refine x_pickF (by rfl) (by rfl) (by rfl) ?_ | refine x_add (by rfl) (by rfl) (by rfl) (by omega) ?_ | refine x_sub (by rfl) (by rfl) (by rfl) (by omega) ?_ | refine x_not (by rfl) (by rfl) ?_)
  refine x_nilw ?_
  (repeat (first | refine swp_seq ?_ | refine swp_block ?_))
  refine swp_ifb (by rfl) (fun c1 => ?_) (fun c1 => ?_)
  · (repeat (first | refine swp_seq ?_ | refine swp_block ?_)); refine swp_region (by kernel_rfl) ?_
    repeat (first | refine x_move (by rfl) ?_ | refine x_as (by rfl) (by rfl) ?_ | refine x_skip (by rfl) ?_ | refine x_fld (by rfl) (by rfl) FldO.h ?_ | refine x_nilck (by rfl) (by rfl) ?_ | refine x_len (by rfl) (by rfl) ElOf.some ?_ | refine x_ext (by rfl) (by rfl) (by rfl) ?_ | refine x_pickT (by rfl) (by rfl) (by rfl) ?_ | refine x_pickF (by rfl) (by rfl) (by rfl) ?_ | refine x_add (by rfl) (by rfl) (by rfl) (by omega) ?_ | refine x_sub (by rfl) (by rfl) (by rfl) (by omega) ?_ | refine x_not (by rfl) (by rfl) ?_)
    refine x_nilw ?_
    refine swp_ret ?_; (repeat (first | with_reducible refine r_then ?_ | with_reducible refine r_block ?_ | with_reducible refine r_jump ?_))
    exact post1 rfl rfl ⟨_, rfl, same 101 w0 (by unfold GS.pcode; rw [c1, if_pos rfl]) (by omega) u0⟩
  (repeat (first | refine swp_seq ?_ | refine swp_block ?_)); refine swp_region (by kernel_rfl) ?_
  repeat (first | refine x_move (by rfl) ?_ | refine x_as (by rfl) (by rfl) ?_ | refine x_skip (by rfl) ?_ | refine x_fld (by rfl) (by rfl) FldO.h ?_ | refine x_nilck (by rfl) (by rfl) ?_ | refine x_len (by rfl) (by rfl) ElOf.some ?_ | refine x_ext (by rfl) (by rfl) (by rfl) ?_ | refine x_pickT (by rfl) (by rfl) (by rfl) ?_ | refine x_pickF (by rfl) (by rfl) (by rfl) ?_ | refine x_add (by rfl) (by rfl) (by rfl) (by omega) ?_ | refine x_sub (by rfl) (by rfl) (by rfl) (by omega) ?_ | refine x_not (by rfl) (by rfl) ?_)
  refine w_load (v := .int .i64 e.ts) (by rfl) (by rfl) (load_one OneT.h h0 (by rfl)) ?_
  refine w_call (by rfl) (by rfl) (by rfl) (in_range e.ts w0) ?_
  rintro _ _ ⟨rfl, rfl⟩
  repeat (first | refine x_move (by rfl) ?_ | refine x_as (by rfl) (by rfl) ?_ | refine x_skip (by rfl) ?_ | refine x_fld (by rfl) (by rfl) FldO.h ?_ | refine x_nilck (by rfl) (by rfl) ?_ | refine x_len (by rfl) (by rfl) ElOf.some ?_ | refine x_ext (by rfl) (by rfl) (by rfl) ?_ | refine x_pickT (by rfl) (by rfl) (by rfl) ?_ | refine x_pickF (by rfl) (by rfl) (by rfl) ?_ | refine x_add (by rfl) (by rfl) (by rfl) (by omega) ?_ | refine x_sub (by rfl) (by rfl) (by rfl) (by omega) ?_ | refine x_not (by rfl) (by rfl) ?_)
  refine x_nilw ?_
  (repeat (first | refine swp_seq ?_ | refine swp_block ?_))
  refine swp_ifb (by rfl) (fun c2 => ?_) (fun c2 => ?_)
  · (repeat (first | refine swp_seq ?_ | refine swp_block ?_)); refine swp_region (by kernel_rfl) ?_
    repeat (first | refine x_move (by rfl) ?_ | refine x_as (by rfl) (by rfl) ?_ | refine x_skip (by rfl) ?_ | refine x_fld (by rfl) (by rfl) FldO.h ?_ | refine x_nilck (by rfl) (by rfl) ?_ | refine x_len (by rfl) (by rfl) ElOf.some ?_ | refine x_ext (by rfl) (by rfl) (by rfl) ?_ | refine x_pickT (by rfl) (by rfl) (by rfl) ?_ | refine x_pickF (by rfl) (by rfl) (by rfl) ?_ | refine x_add (by rfl) (by rfl) (by rfl) (by omega) ?_ | refine x_sub (by rfl) (by rfl) (by rfl) (by omega) ?_ | refine x_not (by rfl) (by rfl) ?_)
    refine x_nilw ?_
    refine swp_ret ?_; (repeat (first | with_reducible refine r_then ?_ | with_reducible refine r_block ?_ | with_reducible refine r_jump ?_))
    exact post1 rfl rfl ⟨_, rfl, same 29 w0 (by unfold GS.pcode; rw [c1, if_neg (by decide), if_pos (by simpa using c2)]) (by omega) u0⟩
  replace c2 : rng e.ts = true := by simpa using c2
  (repeat (first | refine swp_seq ?_ | refine swp_block ?_)); refine swp_draw (Ext w0) [] Mixed.h (by kernel_rfl) (by kernel_rfl) (ext_drew w0) ?_
  repeat (first | refine x_move (by rfl) ?_ | refine x_as (by rfl) (by rfl) ?_ | refine x_skip (by rfl) ?_ | refine x_fld (by rfl) (by rfl) FldO.h ?_ | refine x_nilck (by rfl) (by rfl) ?_ | refine x_len (by rfl) (by rfl) ElOf.some ?_ | refine x_ext (by rfl) (by rfl) (by rfl) ?_ | refine x_pickT (by rfl) (by rfl) (by rfl) ?_ | refine x_pickF (by rfl) (by rfl) (by rfl) ?_ | refine x_add (by rfl) (by rfl) (by rfl) (by omega) ?_ | refine x_sub (by rfl) (by rfl) (by rfl) (by omega) ?_ | refine x_not (by rfl) (by rfl) ?_)
  refine q_load (v := .int .i64 e.ts) (by rfl) (by rfl) (by rfl) (fun w' hw' => load_one OneT.h (h0.at hw') (by rfl)) ?_
  repeat (first | refine x_move (by rfl) ?_ | refine x_as (by rfl) (by rfl) ?_ | refine x_skip (by rfl) ?_ | refine x_fld (by rfl) (by rfl) FldO.h ?_ | refine x_nilck (by rfl) (by rfl) ?_ | refine x_len (by rfl) (by rfl) ElOf.some ?_ | refine x_ext (by rfl) (by rfl) (by rfl) ?_ | refine x_pickT (by rfl) (by rfl) (by rfl) ?_ | refine x_pickF (by rfl) (by rfl) (by rfl) ?_ | refine x_add (by rfl) (by rfl) (by rfl) (by omega) ?_ | refine x_sub (by rfl) (by rfl) (by rfl) (by omega) ?_ | refine x_not (by rfl) (by rfl) ?_)
  refine q_load (v := .int .i64 g.mark) (by rfl) (by rfl) (by rfl) (fun w' hw' => load_one OneT.h (g0.blk.at hw') (by rfl)) ?_
  refine x_leq (by rfl) (by rfl) (by rfl) ?_
  repeat (first | refine x_move (by rfl) ?_ | refine x_as (by rfl) (by rfl) ?_ | refine x_skip (by rfl) ?_ | refine x_fld (by rfl) (by rfl) FldO.h ?_ | refine x_nilck (by rfl) (by rfl) ?_ | refine x_len (by rfl) (by rfl) ElOf.some ?_ | refine x_ext (by rfl) (by rfl) (by rfl) ?_ | refine x_pickT (by rfl) (by rfl) (by rfl) ?_ | refine x_pickF (by rfl) (by rfl) (by rfl) ?_ | refine x_add (by rfl) (by rfl) (by rfl) (by omega) ?_ | refine x_sub (by rfl) (by rfl) (by rfl) (by omega) ?_ | refine x_not (by rfl) (by rfl) ?_)
  refine x_nil fun w1 u1 => ?_
  (repeat (first | refine swp_seq ?_ | refine swp_block ?_))
  refine swp_if (by rfl) (fun c3 => ?_) (fun c3 => ?_)
  · (repeat (first | refine swp_seq ?_ | refine swp_block ?_)); refine swp_region (by kernel_rfl) ?_
    repeat (first | refine x_move (by rfl) ?_ | refine x_as (by rfl) (by rfl) ?_ | refine x_skip (by rfl) ?_ | refine x_fld (by rfl) (by rfl) FldO.h ?_ | refine x_nilck (by rfl) (by rfl) ?_ | refine x_len (by rfl) (by rfl) ElOf.some ?_ | refine x_ext (by rfl) (by rfl) (by rfl) ?_ | refine x_pickT (by rfl) (by rfl) (by rfl) ?_ | refine x_pickF (by rfl) (by rfl) (by rfl) ?_ | refine x_add (by rfl) (by rfl) (by rfl) (by omega) ?_ | refine x_sub (by rfl) (by rfl) (by rfl) (by omega) ?_ | refine x_not (by rfl) (by rfl) ?_)
    refine x_nilw ?_
    refine swp_ret ?_; (repeat (first | with_reducible refine r_then ?_ | with_reducible refine r_block ?_ | with_reducible refine r_jump ?_))
    exact post1 rfl rfl ⟨_, rfl, same 102 w1 (by unfold GS.pcode; rw [c1, if_neg (by decide), if_neg (by simp [c2]), if_pos c3]) (by omega) (u0.trans u1)⟩
  have g1 := g0.at u1
  have h1 := h0.at u1
  obtain ⟨L, clock, hm, hn⟩ := g1.map
  refine swp_fit [(0, .pointer (some ⟨bg, 0, none⟩)), (3, .pointer (some ⟨b0, 0, none⟩))] ⟨rfl, rfl, trivial⟩ fun ρ => ?_
  (repeat (first | refine swp_seq ?_ | refine swp_block ?_)); refine swp_draw (Ext w1) [] Mixed.h (by kernel_rfl) (by kernel_rfl) (ext_drew w1) ?_
  repeat (first | refine x_move (by rfl) ?_ | refine x_as (by rfl) (by rfl) ?_ | refine x_skip (by rfl) ?_ | refine x_fld (by rfl) (by rfl) FldO.h ?_ | refine x_nilck (by rfl) (by rfl) ?_ | refine x_len (by rfl) (by rfl) ElOf.some ?_ | refine x_ext (by rfl) (by rfl) (by rfl) ?_ | refine x_pickT (by rfl) (by rfl) (by rfl) ?_ | refine x_pickF (by rfl) (by rfl) (by rfl) ?_ | refine x_add (by rfl) (by rfl) (by rfl) (by omega) ?_ | refine x_sub (by rfl) (by rfl) (by rfl) (by omega) ?_ | refine x_not (by rfl) (by rfl) ?_)
  refine q_load (v := .map (some r)) (by rfl) (by rfl) (by rfl) (fun w' hw' => load_one OneT.h (g1.blk.at hw') (by rfl)) ?_
  refine q_load (by rfl) (by rfl) (by rfl) (fun w' hw' => load_agg (xs := e.cells) AggT.h (h1.at hw') (by rfl) (by rfl)) ?_
  refine q_call (v := e.nm.v) (by rfl) (by rfl) (by rfl) (fun w' hw' => (event_name e w').mono fun v w'' h => ⟨h.1, hw'.trans h.2⟩) ?_
  refine q_look (.int .i64 0) (by rfl) (by rfl) Try.underlying81 key_nm zero_int (by rfl) (by rfl) (fun w' hw' => hm.at hw') ?_
  by_cases c4 : e.nm ∈ g.S.map Ev.nm
  · obtain ⟨j, x, hj, _, _⟩ := hn.yes c4
    rw [hj]
    refine x_gtrT (by rfl) (by rfl) (by rfl) (by omega) ?_
    repeat (first | refine x_move (by rfl) ?_ | refine x_as (by rfl) (by rfl) ?_ | refine x_skip (by rfl) ?_ | refine x_fld (by rfl) (by rfl) FldO.h ?_ | refine x_nilck (by rfl) (by rfl) ?_ | refine x_len (by rfl) (by rfl) ElOf.some ?_ | refine x_ext (by rfl) (by rfl) (by rfl) ?_ | refine x_pickT (by rfl) (by rfl) (by rfl) ?_ | refine x_pickF (by rfl) (by rfl) (by rfl) ?_ | refine x_add (by rfl) (by rfl) (by rfl) (by omega) ?_ | refine x_sub (by rfl) (by rfl) (by rfl) (by omega) ?_ | refine x_not (by rfl) (by rfl) ?_)
    refine x_nil fun w2 u2 => ?_
    (repeat (first | refine swp_seq ?_ | refine swp_block ?_))
    refine swp_true (by rfl) ?_
    (repeat (first | refine swp_seq ?_ | refine swp_block ?_)); refine swp_region (by kernel_rfl) ?_
    repeat (first | refine x_move (by rfl) ?_ | refine x_as (by rfl) (by rfl) ?_ | refine x_skip (by rfl) ?_ | refine x_fld (by rfl) (by rfl) FldO.h ?_ | refine x_nilck (by rfl) (by rfl) ?_ | refine x_len (by rfl) (by rfl) ElOf.some ?_ | refine x_ext (by rfl) (by rfl) (by rfl) ?_ | refine x_pickT (by rfl) (by rfl) (by rfl) ?_ | refine x_pickF (by rfl) (by rfl) (by rfl) ?_ | refine x_add (by rfl) (by rfl) (by rfl) (by omega) ?_ | refine x_sub (by rfl) (by rfl) (by rfl) (by omega) ?_ | refine x_not (by rfl) (by rfl) ?_)
    refine x_nilw ?_
    refine swp_ret ?_; (repeat (first | with_reducible refine r_then ?_ | with_reducible refine r_block ?_ | with_reducible refine r_jump ?_))
    exact post1 rfl rfl ⟨_, rfl, same 103 w2 (by unfold GS.pcode; rw [c1, if_neg (by decide), if_neg (by simp [c2]), if_neg c3, if_pos c4]) (by omega) ((u0.trans u1).trans u2)⟩
  have hno := hn.no c4
  rw [hno]
  refine x_gtrF (by rfl) (by rfl) (by rfl) (by omega) ?_
  repeat (first | refine x_move (by rfl) ?_ | refine x_as (by rfl) (by rfl) ?_ | refine x_skip (by rfl) ?_ | refine x_fld (by rfl) (by rfl) FldO.h ?_ | refine x_nilck (by rfl) (by rfl) ?_ | refine x_len (by rfl) (by rfl) ElOf.some ?_ | refine x_ext (by rfl) (by rfl) (by rfl) ?_ | refine x_pickT (by rfl) (by rfl) (by rfl) ?_ | refine x_pickF (by rfl) (by rfl) (by rfl) ?_ | refine x_add (by rfl) (by rfl) (by rfl) (by omega) ?_ | refine x_sub (by rfl) (by rfl) (by rfl) (by omega) ?_ | refine x_not (by rfl) (by rfl) ?_)
  refine x_nil fun w2 u2 => ?_
  (repeat (first | refine swp_seq ?_ | refine swp_block ?_))
  refine swp_false (by rfl) ?_
  refine swp_fit [(0, .pointer (some ⟨bg, 0, none⟩)), (3, .pointer (some ⟨b0, 0, none⟩))] ⟨rfl, rfl, trivial⟩ fun ρ => ?_
  have g2 := g1.at u2
  (repeat (first | refine swp_seq ?_ | refine swp_block ?_)); refine swp_draw (Ext w2) [] Mixed.h (by kernel_rfl) (by kernel_rfl) (ext_drew w2) ?_
  repeat (first | refine x_move (by rfl) ?_ | refine x_as (by rfl) (by rfl) ?_ | refine x_skip (by rfl) ?_ | refine x_fld (by rfl) (by rfl) FldO.h ?_ | refine x_nilck (by rfl) (by rfl) ?_ | refine x_len (by rfl) (by rfl) ElOf.some ?_ | refine x_ext (by rfl) (by rfl) (by rfl) ?_ | refine x_pickT (by rfl) (by rfl) (by rfl) ?_ | refine x_pickF (by rfl) (by rfl) (by rfl) ?_ | refine x_add (by rfl) (by rfl) (by rfl) (by omega) ?_ | refine x_sub (by rfl) (by rfl) (by rfl) (by omega) ?_ | refine x_not (by rfl) (by rfl) ?_)
  refine q_call (v := .int .i64 (g.S.length : Nat)) (by rfl) (by rfl) (by rfl) (fun w' hw' => (g_len (g2.at hw')).mono fun v w'' h => ⟨h.1, h.2 ▸ hw'⟩) ?_
  repeat (first | refine x_move (by rfl) ?_ | refine x_as (by rfl) (by rfl) ?_ | refine x_skip (by rfl) ?_ | refine x_fld (by rfl) (by rfl) FldO.h ?_ | refine x_nilck (by rfl) (by rfl) ?_ | refine x_len (by rfl) (by rfl) ElOf.some ?_ | refine x_ext (by rfl) (by rfl) (by rfl) ?_ | refine x_pickT (by rfl) (by rfl) (by rfl) ?_ | refine x_pickF (by rfl) (by rfl) (by rfl) ?_ | refine x_add (by rfl) (by rfl) (by rfl) (by omega) ?_ | refine x_sub (by rfl) (by rfl) (by rfl) (by omega) ?_ | refine x_not (by rfl) (by rfl) ?_)
  refine q_load (v := .int .i64 g.cap) (by rfl) (by rfl) (by rfl) (fun w' hw' => load_one OneT.h (g2.blk.at hw') (by rfl)) ?_
  refine x_eql (by rfl) (by rfl) (by rfl) ?_
  repeat (first | refine x_move (by rfl) ?_ | refine x_as (by rfl) (by rfl) ?_ | refine x_skip (by rfl) ?_ | refine x_fld (by rfl) (by rfl) FldO.h ?_ | refine x_nilck (by rfl) (by rfl) ?_ | refine x_len (by rfl) (by rfl) ElOf.some ?_ | refine x_ext (by rfl) (by rfl) (by rfl) ?_ | refine x_pickT (by rfl) (by rfl) (by rfl) ?_ | refine x_pickF (by rfl) (by rfl) (by rfl) ?_ | refine x_add (by rfl) (by rfl) (by rfl) (by omega) ?_ | refine x_sub (by rfl) (by rfl) (by rfl) (by omega) ?_ | refine x_not (by rfl) (by rfl) ?_)
  refine x_nil fun w3 u3 => ?_
  (repeat (first | refine swp_seq ?_ | refine swp_block ?_))
  refine swp_if (by rfl) (fun c5 => ?_) (fun c5 => swp_skip ?_)
  · (repeat (first | refine swp_seq ?_ | refine swp_block ?_)); refine swp_region (by kernel_rfl) ?_
    repeat (first | refine x_move (by rfl) ?_ | refine x_as (by rfl) (by rfl) ?_ | refine x_skip (by rfl) ?_ | refine x_fld (by rfl) (by rfl) FldO.h ?_ | refine x_nilck (by rfl) (by rfl) ?_ | refine x_len (by rfl) (by rfl) ElOf.some ?_ | refine x_ext (by rfl) (by rfl) (by rfl) ?_ | refine x_pickT (by rfl) (by rfl) (by rfl) ?_ | refine x_pickF (by rfl) (by rfl) (by rfl) ?_ | refine x_add (by rfl) (by rfl) (by rfl) (by omega) ?_ | refine x_sub (by rfl) (by rfl) (by rfl) (by omega) ?_ | refine x_not (by rfl) (by rfl) ?_)
    refine x_nilw ?_
    refine swp_ret ?_; (repeat (first | with_reducible refine r_then ?_ | with_reducible refine r_block ?_ | with_reducible refine r_jump ?_))
    exact post1 rfl rfl ⟨_, rfl, same 104 w3 (by unfold GS.pcode; rw [c1, if_neg (by decide), if_neg (by simp [c2]), if_neg c3, if_neg c4, if_pos c5]) (by omega) (((u0.trans u1).trans u2).trans u3)⟩
  have hp0 : g.pcode e = 0 := by unfold GS.pcode; rw [c1, if_neg (by decide), if_neg (by simp [c2]), if_neg c3, if_neg c4, if_neg c5]
  have u13 := u2.trans u3
  have g3 := g1.at u13
  have h3 := h1.at u13
  have hm3 := hm.at u13
  (repeat (first | with_reducible refine n_then ?_ | with_reducible refine n_block ?_ | with_reducible refine n_jump ?_))
  refine swp_fit [(0, .pointer (some ⟨bg, 0, none⟩)), (3, .pointer (some ⟨b0, 0, none⟩))] ⟨rfl, rfl, trivial⟩ fun ρ => ?_
  refine swp_seq ?_
  refine PEv.swp_cutQ (fun σ w6 => At σ [(0, .pointer (some ⟨bg, 0, none⟩)), (3, .pointer (some ⟨b0, 0, none⟩))] ∧ ∃ w4, Ext w3 w4 ∧ Upd (fun b => b = r) w4 w6 ∧ Mp w6 r Nm.cells (L ++ [(e.nm, .int .i64 1, clock)]) (clock + 1)) ?_ ?_
  · refine swp_fork 6 8 [0, 1, 2, 3, 4, 5, 6, 7, 8, 9, 10] [0, 1, 2, 3, 4, 5, 8, 6, 7, 9, 10] (Ext w3) [] [] Mixed.h (by omega) (by simp) (by simp) (by kernel_rfl) (by kernel_rfl) (by kernel_rfl) (by kernel_rfl) (ext_drew w3) ?_ ?_
    · repeat (first | refine x_move (by rfl) ?_ | refine x_as (by rfl) (by rfl) ?_ | refine x_skip (by rfl) ?_ | refine x_fld (by rfl) (by rfl) FldO.h ?_ | refine x_nilck (by rfl) (by rfl) ?_ | refine x_len (by rfl) (by rfl) ElOf.some ?_ | refine x_ext (by rfl) (by rfl) (by rfl) ?_ | refine x_pickT (by rfl) (by rfl) (by rfl) ?_ | refine x_pickF (by rfl) (by rfl) (by rfl) ?_ | refine x_add (by rfl) (by rfl) (by rfl) (by omega) ?_ | refine x_sub (by rfl) (by rfl) (by rfl) (by omega) ?_ | refine x_not (by rfl) (by rfl) ?_)
      refine q_load (v := .map (some r)) (by rfl) (by rfl) (by rfl) (fun w' hw' => load_one OneT.h (g3.blk.at hw') (by rfl)) ?_
      refine q_load (by rfl) (by rfl) (by rfl) (fun w' hw' => load_agg (xs := e.cells) AggT.h (h3.at hw') (by rfl) (by rfl)) ?_
      refine q_call (v := e.nm.v) (by rfl) (by rfl) (by rfl) (fun w' hw' => (event_name e w').mono fun v w'' h => ⟨h.1, hw'.trans h.2⟩) ?_
      refine q_look (.int .i64 0) (by rfl) (by rfl) Try.underlying81 key_nm zero_int (by rfl) (by rfl) (fun w' hw' => hm3.at hw') ?_
      rw [hno]
      refine x_add (by rfl) (m := 0) (n := 1) (by rfl) (by rfl) (by omega) ?_
      refine x_fix (by rfl) (by rfl) (by rfl) fun w4 u4 => ?_
      refine w_entryN (.int .i64 0) (by rfl) (by rfl) Try.underlying81 key_nm zero_int (by rfl) (by rfl) (hm3.at u4) hno ?_
      intro w5 u5 hm5
      repeat (first | refine x_move (by rfl) ?_ | refine x_as (by rfl) (by rfl) ?_ | refine x_skip (by rfl) ?_ | refine x_fld (by rfl) (by rfl) FldO.h ?_ | refine x_nilck (by rfl) (by rfl) ?_ | refine x_len (by rfl) (by rfl) ElOf.some ?_ | refine x_ext (by rfl) (by rfl) (by rfl) ?_ | refine x_pickT (by rfl) (by rfl) (by rfl) ?_ | refine x_pickF (by rfl) (by rfl) (by rfl) ?_ | refine x_add (by rfl) (by rfl) (by rfl) (by omega) ?_ | refine x_sub (by rfl) (by rfl) (by rfl) (by omega) ?_ | refine x_not (by rfl) (by rfl) ?_)
      refine w_stored (by rfl) (by rfl) (by rfl) (by rfl) (by rfl) hm5 (fun a ha => Nat.ne_of_lt (hn.vals a ha).2) ?_
      intro w6 u6 hm6
      refine x_nilw ?_
      exact ⟨rfl, at_ ⟨rfl, rfl, trivial⟩, w4, u4, u5.trans u6, hm6⟩
    · repeat (first | refine x_move (by rfl) ?_ | refine x_as (by rfl) (by rfl) ?_ | refine x_skip (by rfl) ?_ | refine x_fld (by rfl) (by rfl) FldO.h ?_ | refine x_nilck (by rfl) (by rfl) ?_ | refine x_len (by rfl) (by rfl) ElOf.some ?_ | refine x_ext (by rfl) (by rfl) (by rfl) ?_ | refine x_pickT (by rfl) (by rfl) (by rfl) ?_ | refine x_pickF (by rfl) (by rfl) (by rfl) ?_ | refine x_add (by rfl) (by rfl) (by rfl) (by omega) ?_ | refine x_sub (by rfl) (by rfl) (by rfl) (by omega) ?_ | refine x_not (by rfl) (by rfl) ?_)
      refine q_load (v := .map (some r)) (by rfl) (by rfl) (by rfl) (fun w' hw' => load_one OneT.h (g3.blk.at hw') (by rfl)) ?_
      refine q_load (by rfl) (by rfl) (by rfl) (fun w' hw' => load_agg (xs := e.cells) AggT.h (h3.at hw') (by rfl) (by rfl)) ?_
      refine q_call (v := e.nm.v) (by rfl) (by rfl) (by rfl) (fun w' hw' => (event_name e w').mono fun v w'' h => ⟨h.1, hw'.trans h.2⟩) ?_
      refine x_fix (by rfl) (by rfl) (by rfl) fun w4 u4 => ?_
      refine w_entryN (.int .i64 0) (by rfl) (by rfl) Try.underlying81 key_nm zero_int (by rfl) (by rfl) (hm3.at u4) hno ?_
      intro w5 u5 hm5
      refine q_look (.int .i64 0) (by rfl) (by rfl) Try.underlying81 key_nm zero_int (by rfl) (by rfl) (fun w' hw' => hw' ▸ hm5) ?_
      rw [look_last hno]
      refine x_add (by rfl) (m := 0) (n := 1) (by rfl) (by rfl) (by omega) ?_
      repeat (first | refine x_move (by rfl) ?_ | refine x_as (by rfl) (by rfl) ?_ | refine x_skip (by rfl) ?_ | refine x_fld (by rfl) (by rfl) FldO.h ?_ | refine x_nilck (by rfl) (by rfl) ?_ | refine x_len (by rfl) (by rfl) ElOf.some ?_ | refine x_ext (by rfl) (by rfl) (by rfl) ?_ | refine x_pickT (by rfl) (by rfl) (by rfl) ?_ | refine x_pickF (by rfl) (by rfl) (by rfl) ?_ | refine x_add (by rfl) (by rfl) (by rfl) (by omega) ?_ | refine x_sub (by rfl) (by rfl) (by rfl) (by omega) ?_ | refine x_not (by rfl) (by rfl) ?_)
      refine w_stored (by rfl) (by rfl) (by rfl) (by rfl) (by rfl) hm5 (fun a ha => Nat.ne_of_lt (hn.vals a ha).2) ?_
      intro w6 u6 hm6
      refine x_nilw ?_
      exact ⟨rfl, at_ ⟨rfl, rfl, trivial⟩, w4, u4, u5.trans u6, hm6⟩
  rintro σ w6 ⟨⟨ρ, rfl⟩, w4, u4, u46, hm6⟩
  refine n_then ?_
  have hfr : ∀ b, PEv.foot bp sp b → b ≠ r := fun b hb => (h.d2 b hb).2
  have hp6 := (g3.pile.at u4).get u46 fun b hb e => hfr b hb e
  have hb6 := (g3.blk.at u4).get u46 h.d1
  have hb0 : b0 ≠ r := by have := h.lt (.inr (.inl rfl)); omega
  have h6 := (h3.at u4).get u46 hb0
  refine swp_fit [(0, .pointer (some ⟨bg, 0, none⟩)), (3, .pointer (some ⟨b0, 0, none⟩))] ⟨rfl, rfl, trivial⟩ fun ρ => ?_
  (repeat (first | refine swp_seq ?_ | refine swp_block ?_)); refine swp_draw (Ext w6) [5] Mixed.h (by kernel_rfl) (by kernel_rfl) (ext_drew w6) ?_
  repeat (first | refine x_move (by rfl) ?_ | refine x_as (by rfl) (by rfl) ?_ | refine x_skip (by rfl) ?_ | refine x_fld (by rfl) (by rfl) FldO.h ?_ | refine x_nilck (by rfl) (by rfl) ?_ | refine x_len (by rfl) (by rfl) ElOf.some ?_ | refine x_ext (by rfl) (by rfl) (by rfl) ?_ | refine x_pickT (by rfl) (by rfl) (by rfl) ?_ | refine x_pickF (by rfl) (by rfl) (by rfl) ?_ | refine x_add (by rfl) (by rfl) (by rfl) (by omega) ?_ | refine x_sub (by rfl) (by rfl) (by rfl) (by omega) ?_ | refine x_not (by rfl) (by rfl) ?_)
  refine q_load (v := .pointer (some ⟨bp, 0, none⟩)) (by rfl) (by rfl) (by rfl) (fun w' hw' => load_one OneT.h (hb6.at hw') (by rfl)) ?_
  refine q_load (by rfl) (by rfl) (by rfl) (fun w' hw' => load_agg (xs := e.cells) AggT.h (h6.at hw') (by rfl) (by rfl)) ?_
  refine x_fix (by rfl) (by rfl) (by rfl) fun w7 u7 => ?_
  refine w_call (by rfl) (by rfl) (by rfl) (PEv.push elt_ord e (hp6.at u7) hN (room96 (by omega))) ?_
  rintro _ w8 ⟨rfl, sp8, hp8, u8, hin8⟩
  refine x_nilw ?_
  (repeat (first | refine swp_seq ?_ | refine swp_block ?_)); refine swp_region (by kernel_rfl) ?_
  repeat (first | refine x_move (by rfl) ?_ | refine x_as (by rfl) (by rfl) ?_ | refine x_skip (by rfl) ?_ | refine x_fld (by rfl) (by rfl) FldO.h ?_ | refine x_nilck (by rfl) (by rfl) ?_ | refine x_len (by rfl) (by rfl) ElOf.some ?_ | refine x_ext (by rfl) (by rfl) (by rfl) ?_ | refine x_pickT (by rfl) (by rfl) (by rfl) ?_ | refine x_pickF (by rfl) (by rfl) (by rfl) ?_ | refine x_add (by rfl) (by rfl) (by rfl) (by omega) ?_ | refine x_sub (by rfl) (by rfl) (by rfl) (by omega) ?_ | refine x_not (by rfl) (by rfl) ?_)
  refine x_nilw ?_
  refine swp_ret ?_; (repeat (first | with_reducible refine r_then ?_ | with_reducible refine r_block ?_ | with_reducible refine r_jump ?_))
  have hgl : ∀ b, gfoot bg r bp sp b → b < w.heap.size := fun b hb => h.lt hb
  have s7 : w.heap.size ≤ w7.heap.size := by have := u0.size; have := u1.size; have := u13.size; have := u4.size; have := u46.size; have := u7.size; omega
  have hin : ∀ b, isIn sp8 b → isIn sp b ∨ w.heap.size ≤ b := fun b hb => (hin8 b hb).imp id fun h => by omega
  have hd : ∀ b, PEv.foot bp sp8 b → b ≠ bg ∧ b ≠ r := fun b hb => by
    rcases hb with rfl | hb
    · exact h.d2 _ (.inl rfl)
    · rcases hin b hb with hb | hb
      · exact h.d2 b (.inr hb)
      · have := hgl bg (.inl rfl); have := hgl r (.inr (.inl rfl)); omega
  refine post1 rfl rfl ⟨_, rfl, by rw [hp0]; rfl, sp8, N + 1, ?_, by omega, ?_, fun b hb => ?_⟩
  · unfold GS.push
    rw [if_pos hp0]
    exact ⟨(hb6.at u7).get u8 fun hf => (h.d2 _ hf).1 rfl, hp8, ⟨_, _, (hm6.at u7).get u8 fun hf => (h.d2 _ hf).2 rfl, hn.add e⟩, h.d1, hd⟩
  · exact ((((((u0.trans u1).trans u13).trans u4).of _).trans' u46 fun b _ e => .inr (.inl e)).ext u7).trans' u8 fun b _ hf => .inr (.inr hf)
  · rcases hb with rfl | rfl | rfl | hb
    · exact .inl (.inl rfl)
    · exact .inl (.inr (.inl rfl))
    · exact .inl (.inr (.inr (.inl rfl)))
    · exact (hin b hb).imp (fun h => .inr (.inr (.inr h))) id
end Go.Proofs.Ytnhecopgecoloaa
