/- A pile of Mt: Sorted, Sort, Peek. Conditions: fewer than 2^60 things; room for what grows. -/
import Derived.Test.YtfcbiclmejeihaaPMtd
namespace Go.Proofs.Ytfcbiclmejeihaa.PMt
open Sx Hp

/-- what Sorted and Sort answer -/
def Fresh (w w' : World) (v : Value) (S : List Mt) : Prop := Own w' 47 4 v S.length (fl Mt.cells S) ∧ (∀ b, isIn v b → w.heap.size ≤ b) ∧ Ext w w'

theorem ext_of {F : Nat → Prop} {w w' : World} (u : Upd F w w') (h : ∀ b, F b → w.heap.size ≤ b) : Ext w w' := (Upd.refl _ w).trans' u (fun b hb hf => by have := h b hf; omega)

theorem foldl_put_length' (lt : Mt → Mt → Bool) : ∀ (l acc : List Mt), (l.foldl (put lt) acc).length = acc.length + l.length
  | [], acc => rfl
  | x :: l, acc => by rw [List.foldl_cons, foldl_put_length' lt l, put_length, List.length_cons]; omega
theorem foldl_put_length (l : List Mt) : (l.foldl (put mlt) []).length = l.length := by rw [foldl_put_length']; simp

theorem mem_put' {lt : Mt → Mt → Bool} {x y : Mt} : ∀ {l : List Mt}, y ∈ put lt l x → y = x ∨ y ∈ l
  | [], h => by simp [put] at h; exact .inl h
  | z :: l, h => by
    unfold put at h
    split at h
    · simpa using h
    · rcases List.mem_cons.1 h with h | h
      · exact .inr (by simp [h])
      · rcases mem_put' h with h | h
        · exact .inl h
        · exact .inr (by simp [h])
theorem mem_foldl_put' {lt : Mt → Mt → Bool} {y : Mt} : ∀ (l acc : List Mt), y ∈ l.foldl (put lt) acc → y ∈ l ∨ y ∈ acc
  | [], acc, h => .inr h
  | x :: l, acc, h => by
    rcases mem_foldl_put' l (put lt acc x) h with h | h
    · exact .inl (by simp [h])
    · rcases mem_put' h with h | h
      · exact .inl (by simp [h])
      · exact .inr h
theorem mem_foldl_put {l : List Mt} {y : Mt} (h : y ∈ l.foldl (put mlt) []) : y ∈ l := by simpa using mem_foldl_put' l [] h

set_option maxHeartbeats 1000000 in
set_option maxRecDepth 100000 in
theorem sort (ho : Ord mlt) {w : World} {sv : Value} {xs : List Mt} (hrd : Rd w 4 sv xs.length (fl Mt.cells xs)) (hrE : Room xs.length 88) (hrT : Room xs.length 80) (hl : xs.length ≤ 2305843009213693951) (hV : ∀ y ∈ xs, y.Rdy w) :
    Gets Try.prog 24 [sv] w fun v w' => Fresh w w' v (xs.foldl (put mlt) []) := by
  obtain ⟨sa, sc, rfl⟩ := hrd.slice
  have new2 : ∀ y ∈ xs, ∀ {F : Nat → Prop} (w2 : World), Ext w w2 → (∀ b, F b → w.heap.size ≤ b) → Apt F w2 y := fun y hy F w2 u2 hF => ⟨(hV y hy).at u2, fun b hb hf => by have := (hV y hy).lt hb; have := hF b hf; omega⟩
  refine ⟨GoFn.h, calls_of_swp 19 Try.func24 Try.ntmps24 rfl (Nat.le_of_ble_eq_true rfl) ?_⟩
  (repeat (first | refine swp_seq ?_ | refine swp_block ?_)); refine swp_region (by kernel_rfl) ?_
  repeat (first | refine x_move (by rfl) ?_ | refine x_as (by rfl) (by rfl) ?_ | refine x_skip (by rfl) ?_ | refine x_fld (by rfl) (by rfl) FldO.h ?_ | refine w_load (by rfl) (by rfl) (load_one OneT.h (by assumption) (by rfl)) ?_ | refine x_nilck (by rfl) (by rfl) ?_ | refine x_len (by rfl) (by rfl) ElOf.some ?_ | refine x_iface (by rfl) (by rfl) NIf.h ?_ | refine x_ext (by rfl) (by rfl) (by rfl) ?_ | refine x_pickT (by rfl) (by rfl) (by rfl) ?_ | refine x_pickF (by rfl) (by rfl) (by rfl) ?_ | refine x_add (by rfl) (by rfl) (by rfl) (by omega) ?_ | refine x_sub (by rfl) (by rfl) (by rfl) (by omega) ?_ | refine x_lss (by rfl) (by rfl) (by rfl) ?_ | refine x_geq (by rfl) (by rfl) (by rfl) ?_ | refine x_leq (by rfl) (by rfl) (by rfl) ?_ | refine x_gtr (by rfl) (by rfl) (by rfl) ?_ | refine x_eql (by rfl) (by rfl) (by rfl) ?_ | refine x_neq (by rfl) (by rfl) (by rfl) ?_ | refine x_not (by rfl) (by rfl) ?_)
  refine x_nilw ?_
  (repeat (first | refine swp_seq ?_ | refine swp_block ?_)); refine swp_region (by kernel_rfl) ?_
  refine w_call (by rfl) (by rfl) (by rfl) (new w) ?_
  rintro _ w1 ⟨bp, rfl, hbp, u1, hp1⟩
  repeat (first | refine x_move (by rfl) ?_ | refine x_as (by rfl) (by rfl) ?_ | refine x_skip (by rfl) ?_ | refine x_fld (by rfl) (by rfl) FldO.h ?_ | refine w_load (by rfl) (by rfl) (load_one OneT.h (by assumption) (by rfl)) ?_ | refine x_nilck (by rfl) (by rfl) ?_ | refine x_len (by rfl) (by rfl) ElOf.some ?_ | refine x_iface (by rfl) (by rfl) NIf.h ?_ | refine x_ext (by rfl) (by rfl) (by rfl) ?_ | refine x_pickT (by rfl) (by rfl) (by rfl) ?_ | refine x_pickF (by rfl) (by rfl) (by rfl) ?_ | refine x_add (by rfl) (by rfl) (by rfl) (by omega) ?_ | refine x_sub (by rfl) (by rfl) (by rfl) (by omega) ?_ | refine x_lss (by rfl) (by rfl) (by rfl) ?_ | refine x_geq (by rfl) (by rfl) (by rfl) ?_ | refine x_leq (by rfl) (by rfl) (by rfl) ?_ | refine x_gtr (by rfl) (by rfl) (by rfl) ?_ | refine x_eql (by rfl) (by rfl) (by rfl) ?_ | refine x_neq (by rfl) (by rfl) (by rfl) ?_ | refine x_not (by rfl) (by rfl) ?_)
  refine x_nilw ?_
  (repeat (first | refine swp_seq ?_ | refine swp_block ?_)); refine swp_region (by kernel_rfl) ?_
  repeat (first | refine x_move (by rfl) ?_ | refine x_as (by rfl) (by rfl) ?_ | refine x_skip (by rfl) ?_ | refine x_fld (by rfl) (by rfl) FldO.h ?_ | refine w_load (by rfl) (by rfl) (load_one OneT.h (by assumption) (by rfl)) ?_ | refine x_nilck (by rfl) (by rfl) ?_ | refine x_len (by rfl) (by rfl) ElOf.some ?_ | refine x_iface (by rfl) (by rfl) NIf.h ?_ | refine x_ext (by rfl) (by rfl) (by rfl) ?_ | refine x_pickT (by rfl) (by rfl) (by rfl) ?_ | refine x_pickF (by rfl) (by rfl) (by rfl) ?_ | refine x_add (by rfl) (by rfl) (by rfl) (by omega) ?_ | refine x_sub (by rfl) (by rfl) (by rfl) (by omega) ?_ | refine x_lss (by rfl) (by rfl) (by rfl) ?_ | refine x_geq (by rfl) (by rfl) (by rfl) ?_ | refine x_leq (by rfl) (by rfl) (by rfl) ?_ | refine x_gtr (by rfl) (by rfl) (by rfl) ?_ | refine x_eql (by rfl) (by rfl) (by rfl) ?_ | refine x_neq (by rfl) (by rfl) (by rfl) ?_ | refine x_not (by rfl) (by rfl) ?_)
  refine x_nilw ?_
  · (repeat (first | refine swp_seq ?_ | refine swp_block ?_))
    refine swp_loop (fun (i : List Mt × List Mt) σ w2 => ∃ sv2, At σ [(3, .pointer (some ⟨bp, 0, none⟩)), (7, .slice sa xs.length sc), (8, .int .i64 (xs.length : Nat)), (9, .int .i64 (i.1.length : Nat))] ∧ i.1 ++ i.2 = xs ∧ Pile w2 bp sv2 (i.1.foldl (put mlt) []) i.1.length ∧ (∀ b, foot bp sv2 b → w.heap.size ≤ b) ∧ Ext w w2) (fun i => i.2.length) ([], xs) ⟨.slice none 0 0, at_ ⟨rfl, rfl, rfl, rfl, trivial⟩, rfl, hp1, ?_, u1⟩ ?_
    · rintro b (h | h)
      · omega
      · exact absurd h (fun h => h)
    · rintro ⟨done, todo⟩ σ w2 ⟨sv2, ⟨ρ, rfl⟩, hS, hp2, hf2, u2⟩
      simp only at hS hp2 hf2
      dsimp only
      have hlS : xs.length = done.length + todo.length := by rw [← hS, List.length_append]
      cases todo with
      | nil =>
        (repeat (first | refine swp_seq ?_ | refine swp_block ?_)); refine swp_region (by kernel_rfl) ?_
        refine x_lssF (by rfl) (by rfl) (by rfl) (by simp at hlS; omega) ?_
        refine x_nilw ?_
        (repeat (first | refine swp_seq ?_ | refine swp_block ?_))
        refine swp_false (by rfl) ?_
        refine swp_exit ?_; (repeat (first | with_reducible refine e_then ?_ | with_reducible refine e_jump ?_)); refine e_block ?_; (repeat (first | with_reducible refine n_then ?_ | with_reducible refine n_block ?_ | with_reducible refine n_jump ?_))
        simp only [List.append_nil] at hS
        subst hS
        have hlp : (done.foldl (put mlt) []).length = done.length := foldl_put_length done
        (repeat (first | refine swp_seq ?_ | refine swp_block ?_)); refine swp_region (by kernel_rfl) ?_
        repeat (first | refine x_move (by rfl) ?_ | refine x_as (by rfl) (by rfl) ?_ | refine x_skip (by rfl) ?_ | refine x_fld (by rfl) (by rfl) FldO.h ?_ | refine w_load (by rfl) (by rfl) (load_one OneT.h (by assumption) (by rfl)) ?_ | refine x_nilck (by rfl) (by rfl) ?_ | refine x_len (by rfl) (by rfl) ElOf.some ?_ | refine x_iface (by rfl) (by rfl) NIf.h ?_ | refine x_ext (by rfl) (by rfl) (by rfl) ?_ | refine x_pickT (by rfl) (by rfl) (by rfl) ?_ | refine x_pickF (by rfl) (by rfl) (by rfl) ?_ | refine x_add (by rfl) (by rfl) (by rfl) (by omega) ?_ | refine x_sub (by rfl) (by rfl) (by rfl) (by omega) ?_ | refine x_lss (by rfl) (by rfl) (by rfl) ?_ | refine x_geq (by rfl) (by rfl) (by rfl) ?_ | refine x_leq (by rfl) (by rfl) (by rfl) ?_ | refine x_gtr (by rfl) (by rfl) (by rfl) ?_ | refine x_eql (by rfl) (by rfl) (by rfl) ?_ | refine x_neq (by rfl) (by rfl) (by rfl) ?_ | refine x_not (by rfl) (by rfl) ?_)
        refine w_call (by rfl) (by rfl) (by rfl) (drain ho hp2 (hrT.le (by omega)) (by omega) fun y hy => new2 y (mem_foldl_put hy) w2 u2 hf2) ?_
        rintro v w3 ⟨hown, hfr, sv3, hp3, u3, hin3⟩
        repeat (first | refine x_move (by rfl) ?_ | refine x_as (by rfl) (by rfl) ?_ | refine x_skip (by rfl) ?_ | refine x_fld (by rfl) (by rfl) FldO.h ?_ | refine w_load (by rfl) (by rfl) (load_one OneT.h (by assumption) (by rfl)) ?_ | refine x_nilck (by rfl) (by rfl) ?_ | refine x_len (by rfl) (by rfl) ElOf.some ?_ | refine x_iface (by rfl) (by rfl) NIf.h ?_ | refine x_ext (by rfl) (by rfl) (by rfl) ?_ | refine x_pickT (by rfl) (by rfl) (by rfl) ?_ | refine x_pickF (by rfl) (by rfl) (by rfl) ?_ | refine x_add (by rfl) (by rfl) (by rfl) (by omega) ?_ | refine x_sub (by rfl) (by rfl) (by rfl) (by omega) ?_ | refine x_lss (by rfl) (by rfl) (by rfl) ?_ | refine x_geq (by rfl) (by rfl) (by rfl) ?_ | refine x_leq (by rfl) (by rfl) (by rfl) ?_ | refine x_gtr (by rfl) (by rfl) (by rfl) ?_ | refine x_eql (by rfl) (by rfl) (by rfl) ?_ | refine x_neq (by rfl) (by rfl) (by rfl) ?_ | refine x_not (by rfl) (by rfl) ?_)
        refine x_nilw ?_
        refine swp_ret ?_; (repeat (first | with_reducible refine r_then ?_ | with_reducible refine r_block ?_ | with_reducible refine r_jump ?_))
        refine post1 rfl rfl ⟨_, rfl, hown, fun b hb => ?_, u2.trans' u3 (fun b hb h => by have := hf2 b h; omega)⟩
        have := hfr b hb
        have := u2.size
        omega
      | cons x todo =>
        have hx : xs[done.length]? = some x := by rw [← hS]; simp
        have hl0 : done.length < xs.length := by simp at hlS; omega
        obtain ⟨sb, so, sc', he, -, hcell⟩ := hrd.pos (by omega)
        simp only [Value.slice.injEq] at he
        obtain ⟨rfl, _, rfl⟩ := he
        have hrd2 := hrd.at u2
        (repeat (first | refine swp_seq ?_ | refine swp_block ?_)); refine swp_region (by kernel_rfl) ?_
        refine x_lssT (by rfl) (by rfl) (by rfl) (by omega) ?_
        refine x_nilw ?_
        (repeat (first | refine swp_seq ?_ | refine swp_block ?_))
        refine swp_true (by rfl) (swp_skip ?_)
        (repeat (first | with_reducible refine n_then ?_ | with_reducible refine n_block ?_ | with_reducible refine n_jump ?_))
        (repeat (first | refine swp_seq ?_ | refine swp_block ?_)); refine swp_region (by kernel_rfl) ?_
        refine x_idx done.length (by rfl) (by rfl) (by rfl) ElSz.h rfl hl0 ?_
        refine w_load (by rfl) (by rfl) (rd_load tc_len AggT.h hrd2 hx rfl rfl) ?_
        refine w_alloc (by rfl) (by rfl) ZeroT.h ?_; intro b3 w3 e3 u3 h3
        refine w_store (xs := x.cells) (by rfl) (by rfl) (by rfl) (by rfl) SzT.h (by rfl) (by rfl) h3 (by simp) ?_
        intro w4 u4 h4 _
        refine x_nilw ?_
        (repeat (first | with_reducible refine n_then ?_ | with_reducible refine n_block ?_ | with_reducible refine n_jump ?_))
        have hs2 := u2.size; have hs3 := u3.size
        have hp4 := (hp2.at u3).get u4 (fun b hb e => by have := hp2.lt hb; have e' : b = b3 := e; omega)
        have u24 : Ext w w4 := (u2.trans u3).trans' u4 (fun b hb e => by have e' : b = b3 := e; omega)
        have h4' : Blk w4 b3 47 x.cells := h4
        (repeat (first | refine swp_seq ?_ | refine swp_block ?_)); refine swp_region (by kernel_rfl) ?_
        repeat (first | refine x_move (by rfl) ?_ | refine x_as (by rfl) (by rfl) ?_ | refine x_skip (by rfl) ?_ | refine x_fld (by rfl) (by rfl) FldO.h ?_ | refine w_load (by rfl) (by rfl) (load_one OneT.h (by assumption) (by rfl)) ?_ | refine x_nilck (by rfl) (by rfl) ?_ | refine x_len (by rfl) (by rfl) ElOf.some ?_ | refine x_iface (by rfl) (by rfl) NIf.h ?_ | refine x_ext (by rfl) (by rfl) (by rfl) ?_ | refine x_pickT (by rfl) (by rfl) (by rfl) ?_ | refine x_pickF (by rfl) (by rfl) (by rfl) ?_ | refine x_add (by rfl) (by rfl) (by rfl) (by omega) ?_ | refine x_sub (by rfl) (by rfl) (by rfl) (by omega) ?_ | refine x_lss (by rfl) (by rfl) (by rfl) ?_ | refine x_geq (by rfl) (by rfl) (by rfl) ?_ | refine x_leq (by rfl) (by rfl) (by rfl) ?_ | refine x_gtr (by rfl) (by rfl) (by rfl) ?_ | refine x_eql (by rfl) (by rfl) (by rfl) ?_ | refine x_neq (by rfl) (by rfl) (by rfl) ?_ | refine x_not (by rfl) (by rfl) ?_)
        refine w_load (by rfl) (by rfl) (load_agg (xs := x.cells) AggT.h h4' (by rfl) (by rfl)) ?_
        have hlp : (done.foldl (put mlt) []).length = done.length := foldl_put_length done
        refine w_call (by rfl) (by rfl) (by rfl) (push ho x hp4 (by omega) (hrE.le (by omega)) (new2 x (by rw [← hS]; simp) w4 u24 hf2) fun y hy => new2 y (by rw [← hS]; exact List.mem_append_left _ (mem_foldl_put hy)) w4 u24 hf2) ?_
        rintro _ w5 ⟨rfl, sv5, hp5, u5, hin5⟩
        refine x_nilw ?_
        (repeat (first | with_reducible refine n_then ?_ | with_reducible refine n_block ?_ | with_reducible refine n_jump ?_))
        (repeat (first | refine swp_seq ?_ | refine swp_block ?_)); refine swp_region (by kernel_rfl) ?_
        repeat (first | refine x_move (by rfl) ?_ | refine x_as (by rfl) (by rfl) ?_ | refine x_skip (by rfl) ?_ | refine x_fld (by rfl) (by rfl) FldO.h ?_ | refine w_load (by rfl) (by rfl) (load_one OneT.h (by assumption) (by rfl)) ?_ | refine x_nilck (by rfl) (by rfl) ?_ | refine x_len (by rfl) (by rfl) ElOf.some ?_ | refine x_iface (by rfl) (by rfl) NIf.h ?_ | refine x_ext (by rfl) (by rfl) (by rfl) ?_ | refine x_pickT (by rfl) (by rfl) (by rfl) ?_ | refine x_pickF (by rfl) (by rfl) (by rfl) ?_ | refine x_add (by rfl) (by rfl) (by rfl) (by omega) ?_ | refine x_sub (by rfl) (by rfl) (by rfl) (by omega) ?_ | refine x_lss (by rfl) (by rfl) (by rfl) ?_ | refine x_geq (by rfl) (by rfl) (by rfl) ?_ | refine x_leq (by rfl) (by rfl) (by rfl) ?_ | refine x_gtr (by rfl) (by rfl) (by rfl) ?_ | refine x_eql (by rfl) (by rfl) (by rfl) ?_ | refine x_neq (by rfl) (by rfl) (by rfl) ?_ | refine x_not (by rfl) (by rfl) ?_)
        refine x_nilw ?_
        have u25 : Ext w w5 := u24.trans' u5 (fun b hb h => by have := hf2 b h; omega)
        refine ⟨(done ++ [x], todo), ⟨sv5, at_ ⟨rfl, rfl, rfl, ?_, trivial⟩, by simpa using hS, ?_, ?_, u25⟩, by simp⟩
        · show Value.int .i64 _ = _
          simp
        · simpa using hp5
        · rintro b (h | h)
          · exact hf2 b (.inl h)
          · rcases hin5 b h with h | h
            · exact hf2 b (.inr h)
            · have := u24.size; omega
end Go.Proofs.Ytfcbiclmejeihaa.PMt
