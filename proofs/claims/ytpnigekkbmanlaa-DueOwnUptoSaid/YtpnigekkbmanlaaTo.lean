/- List and Take: what waits, told as copies that are owned whole. Conditions: room. -/
import Derived.Test.YtpnigekkbmanlaaTa
import Derived.Test.YtpnigekkbmanlaaWo
namespace Go.Proofs.Ytpnigekkbmanlaa
open Sx Hp

set_option maxHeartbeats 1000000 in
set_option maxRecDepth 100000 in
theorem due_listO {w : World} {bd : Nat} {G : Nat → Prop} {S : List Wt} {N : Nat} (h : Dv w bd G S N) (hr : Room S.length 112) (hl : S.length ≤ 2305843009213693951) :
    Gets Try.prog 22 [.pointer (some ⟨bd, 0, none⟩)] w fun v w' => ∃ out, Lsp tWo 40 w w' v out ∧ out.map Wt.says = S.map Wt.says ∧ Ext w w' := by
  obtain ⟨bp, r, sv, clock, L, hD, -, -⟩ := h
  have hr8 : Room S.length 104 := hr.bytes (by omega)
  have hb := hD.blk
  refine ⟨GoFn.h, calls_of_swp 24 Try.func22 Try.ntmps22 rfl (Nat.le_of_ble_eq_true rfl) ?_⟩
  (repeat (first | refine swp_seq ?_ | refine swp_block ?_)); refine swp_region (by kernel_rfl) ?_
  repeat (first | refine x_move (by rfl) ?_ | refine x_as (by rfl) (by rfl) ?_ | refine x_skip (by rfl) ?_ | refine x_fld (by rfl) (by rfl) FldO.h ?_ | refine x_nilck (by rfl) (by rfl) ?_ | refine x_len (by rfl) (by rfl) ElOf.some ?_ | refine x_ext (by rfl) (by rfl) (by rfl) ?_ | refine x_pickT (by rfl) (by rfl) (by rfl) ?_ | refine x_pickF (by rfl) (by rfl) (by rfl) ?_ | refine x_add (by rfl) (by rfl) (by rfl) (by omega) ?_ | refine x_sub (by rfl) (by rfl) (by rfl) (by omega) ?_ | refine x_not (by rfl) (by rfl) ?_)
  refine x_nilw ?_
  (repeat (first | refine swp_seq ?_ | refine swp_block ?_)); refine swp_region (by kernel_rfl) ?_
  repeat (first | refine x_move (by rfl) ?_ | refine x_as (by rfl) (by rfl) ?_ | refine x_skip (by rfl) ?_ | refine x_fld (by rfl) (by rfl) FldO.h ?_ | refine x_nilck (by rfl) (by rfl) ?_ | refine x_len (by rfl) (by rfl) ElOf.some ?_ | refine x_ext (by rfl) (by rfl) (by rfl) ?_ | refine x_pickT (by rfl) (by rfl) (by rfl) ?_ | refine x_pickF (by rfl) (by rfl) (by rfl) ?_ | refine x_add (by rfl) (by rfl) (by rfl) (by omega) ?_ | refine x_sub (by rfl) (by rfl) (by rfl) (by omega) ?_ | refine x_not (by rfl) (by rfl) ?_)
  refine x_nilw ?_
  (repeat (first | refine swp_seq ?_ | refine swp_block ?_)); refine swp_region (by kernel_rfl) ?_
  repeat (first | refine x_move (by rfl) ?_ | refine x_as (by rfl) (by rfl) ?_ | refine x_skip (by rfl) ?_ | refine x_fld (by rfl) (by rfl) FldO.h ?_ | refine x_nilck (by rfl) (by rfl) ?_ | refine x_len (by rfl) (by rfl) ElOf.some ?_ | refine x_ext (by rfl) (by rfl) (by rfl) ?_ | refine x_pickT (by rfl) (by rfl) (by rfl) ?_ | refine x_pickF (by rfl) (by rfl) (by rfl) ?_ | refine x_add (by rfl) (by rfl) (by rfl) (by omega) ?_ | refine x_sub (by rfl) (by rfl) (by rfl) (by omega) ?_ | refine x_not (by rfl) (by rfl) ?_)
  refine w_load (by rfl) (by rfl) (load_one OneT.h hb (by rfl)) ?_
  refine w_call (by rfl) (by rfl) (by rfl) (PWt.sorted wlt_ord hD.pile hr hr8 hl hD.each) ?_
  rintro vs w1 ⟨own1, hfr1, u1⟩
  obtain ⟨a1, c1, rfl⟩ := own1.slice
  have rd1 := own1.rd
  repeat (first | refine x_move (by rfl) ?_ | refine x_as (by rfl) (by rfl) ?_ | refine x_skip (by rfl) ?_ | refine x_fld (by rfl) (by rfl) FldO.h ?_ | refine x_nilck (by rfl) (by rfl) ?_ | refine x_len (by rfl) (by rfl) ElOf.some ?_ | refine x_ext (by rfl) (by rfl) (by rfl) ?_ | refine x_pickT (by rfl) (by rfl) (by rfl) ?_ | refine x_pickF (by rfl) (by rfl) (by rfl) ?_ | refine x_add (by rfl) (by rfl) (by rfl) (by omega) ?_ | refine x_sub (by rfl) (by rfl) (by rfl) (by omega) ?_ | refine x_not (by rfl) (by rfl) ?_)
  refine x_nilw ?_
  refine swp_fit [(3, .slice none 0 0), (10, .slice a1 S.length c1), (11, .int .i64 (S.length : Nat)), (12, .int .i64 ((0 : Nat) : Int))] ⟨rfl, rfl, rfl, rfl, trivial⟩ fun ρ => ?_
  (repeat (first | refine swp_seq ?_ | refine swp_block ?_))
  refine swp_loop (fun (i : Nat) σ w2 => ∃ so out, At σ [(3, so), (10, .slice a1 S.length c1), (11, .int .i64 (S.length : Nat)), (12, .int .i64 (i : Nat))] ∧ i ≤ S.length ∧ Lsp tWo 40 w1 w2 so out ∧ out.map Wt.says = (S.take i).map Wt.says ∧ Ext w1 w2) (fun i => S.length - i) 0 ⟨.slice none 0 0, [], at_ ⟨rfl, rfl, rfl, rfl, trivial⟩, by omega, Lsp.nil _ _ _ _, rfl, Upd.refl _ _⟩ ?_
  rintro i σ w2 ⟨so, out, ⟨ρ, rfl⟩, hi, hL, hsay, u2⟩
  have hlo : out.length = i := by have := congrArg List.length hsay; simp at this; omega
  (repeat (first | refine swp_seq ?_ | refine swp_block ?_)); refine swp_region (by kernel_rfl) ?_
  repeat (first | refine x_move (by rfl) ?_ | refine x_as (by rfl) (by rfl) ?_ | refine x_len (by rfl) (by rfl) ElOf.some ?_ | refine x_add (by rfl) (by rfl) (by rfl) (by omega) ?_ | refine x_lss (by rfl) (by rfl) (by rfl) ?_)
  refine x_nilw ?_
  (repeat (first | refine swp_seq ?_ | refine swp_block ?_))
  refine swp_if (by rfl) (fun h0 => swp_skip ?_) (fun h0 => ?_)
  · have hi' : i < S.length := by omega
    obtain ⟨x, hx⟩ := nthE hi'
    obtain ⟨b1, o1, d1, he1, -, -⟩ := rd1.pos (by omega)
    simp only [Value.slice.injEq] at he1
    obtain ⟨rfl, _, rfl⟩ := he1
    have hxR := (hD.each x (List.mem_of_getElem? hx)).at (u1.trans u2)
    (repeat (first | with_reducible refine n_then ?_ | with_reducible refine n_block ?_ | with_reducible refine n_jump ?_))
    (repeat (first | refine swp_seq ?_ | refine swp_block ?_)); refine swp_region (by kernel_rfl) ?_
    repeat (first | refine x_move (by rfl) ?_ | refine x_as (by rfl) (by rfl) ?_ | refine x_skip (by rfl) ?_ | refine x_fld (by rfl) (by rfl) FldO.h ?_)
    refine x_idx i (by rfl) (by rfl) (by rfl) ElSz.h rfl hi' ?_
    refine w_load (by rfl) (by rfl) (rd_load wt_len AggT.h (rd1.at u2) hx rfl rfl) ?_
    refine w_alloc (by rfl) (by rfl) ZeroT.h ?_; intro b5 w3 e3 u3 h3
    refine w_store (xs := x.cells) (by rfl) (by rfl) (by rfl) (by rfl) SzT.h (by rfl) (by rfl) h3 (by simp) ?_
    intro w4 u4 h4 _
    refine x_nilw ?_
    replace h4 : Blk w4 b5 82 x.cells := h4
    have u24 : Ext w2 w4 := u3.trans' u4 fun b hb e => by have e' : b = b5 := e; omega
    refine swp_fit [(3, so), (10, .slice (some ⟨b1, o1, none⟩) S.length c1), (11, .int .i64 (S.length : Nat)), (12, .int .i64 (i : Nat)), (5, .pointer (some ⟨b5, 0, none⟩))] ⟨rfl, rfl, rfl, rfl, rfl, trivial⟩ fun ρ => ?_
    (repeat (first | refine swp_seq ?_ | refine swp_block ?_)); refine swp_region (by kernel_rfl) ?_
    repeat (first | refine x_move (by rfl) ?_ | refine x_as (by rfl) (by rfl) ?_ | refine x_skip (by rfl) ?_ | refine x_fld (by rfl) (by rfl) FldO.h ?_)
    refine w_load (by rfl) (by rfl) (load_agg (xs := x.cells) AggT.h h4 (by rfl) (by rfl)) ?_
    refine w_call (by rfl) (by rfl) (by rfl) (own_waitingO x w4 (hxR.at u24)) ?_
    rintro _ w5 ⟨y, rfl, hc⟩
    refine w_bslice (e := 40) (cs := y.cells) (by rfl) (by rfl) (by rfl) (by kernel_rfl) ?_
    intro b6 w6 e6 u6 h6
    have hc6 := hc.at u6
    have u26 := u24.trans hc6.ext
    refine w_append (more := []) (news := y.cells) (by rfl) (by rfl) (by rfl) (by rfl) SlC.h (hL.own.at u26) (by rw [List.append_nil]; exact h6) (wt_len _) (wt_one _) (by omega) (hr8.le (by omega)) ?_
    intro so' w7 hown7 u7 hin7
    repeat (first | refine x_move (by rfl) ?_ | refine x_as (by rfl) (by rfl) ?_ | refine x_skip (by rfl) ?_ | refine x_fld (by rfl) (by rfl) FldO.h ?_)
    refine x_nilw ?_
    have s24 := u24.size
    have hL7 := hL.push (T := tWo) u2.size hc6.rdy (fun b hb => by have := hc.new b hb; omega) u26 hown7 u7 hin7
    (repeat (first | with_reducible refine n_then ?_ | with_reducible refine n_block ?_ | with_reducible refine n_jump ?_))
    (repeat (first | refine swp_seq ?_ | refine swp_block ?_)); refine swp_region (by kernel_rfl) ?_
    repeat (first | refine x_move (by rfl) ?_ | refine x_as (by rfl) (by rfl) ?_ | refine x_len (by rfl) (by rfl) ElOf.some ?_ | refine x_add (by rfl) (by rfl) (by rfl) (by omega) ?_ | refine x_lss (by rfl) (by rfl) (by rfl) ?_)
    refine x_nilw ?_
    exact ⟨i + 1, ⟨so', out ++ [y], at_ ⟨rfl, rfl, rfl, rfl, trivial⟩, hi', hL7, by rw [List.map_append, hsay, take_succ' hx, List.map_append]; simp [hc.says], (u2.trans u26).trans' u7 fun b hb h => by have := hL.new b h; omega⟩, by omega⟩
  · have hin : i = S.length := by omega
    subst hin
    rw [List.take_length] at hsay
    refine swp_exit ?_; (repeat (first | with_reducible refine e_then ?_ | with_reducible refine e_jump ?_)); refine e_block ?_; (repeat (first | with_reducible refine n_then ?_ | with_reducible refine n_block ?_ | with_reducible refine n_jump ?_))
    (repeat (first | refine swp_seq ?_ | refine swp_block ?_)); refine swp_region (by kernel_rfl) ?_
    repeat (first | refine x_move (by rfl) ?_ | refine x_as (by rfl) (by rfl) ?_ | refine x_skip (by rfl) ?_ | refine x_fld (by rfl) (by rfl) FldO.h ?_ | refine x_nilck (by rfl) (by rfl) ?_ | refine x_len (by rfl) (by rfl) ElOf.some ?_ | refine x_ext (by rfl) (by rfl) (by rfl) ?_ | refine x_pickT (by rfl) (by rfl) (by rfl) ?_ | refine x_pickF (by rfl) (by rfl) (by rfl) ?_ | refine x_add (by rfl) (by rfl) (by rfl) (by omega) ?_ | refine x_sub (by rfl) (by rfl) (by rfl) (by omega) ?_ | refine x_not (by rfl) (by rfl) ?_)
    refine x_nilw ?_
    refine swp_ret ?_; (repeat (first | with_reducible refine r_then ?_ | with_reducible refine r_block ?_ | with_reducible refine r_jump ?_))
    exact post1 rfl rfl ⟨_, rfl, out, hL.old u1.size, hsay, u1.trans u2⟩

set_option maxHeartbeats 2000000 in
set_option maxRecDepth 100000 in
theorem due_takeO {w : World} {bd : Nat} {G : Nat → Prop} {S : List Wt} {N : Nat} (mark : Int) (h : Dv w bd G S N) (hr : Room S.length 112) (hl : S.length ≤ 2305843009213693951) :
    Gets Try.prog 27 [.pointer (some ⟨bd, 0, none⟩), .int .i64 mark] w fun v w' => ∃ out, Lsp tWo 40 w w' v out ∧ out.map Wt.says = (S.takeWhile (by_ mark)).map Wt.says ∧ Dv w' bd G (S.dropWhile (by_ mark)) N ∧ Upd G w w' ∧ ∀ y ∈ out, ∀ b, tWo.In y b → ¬G b ∨ w.heap.size ≤ b := by
  have hr8 : Room S.length 104 := hr.bytes (by omega)
  obtain ⟨bp, r, sv, clock, L, hD, hG1, hG2⟩ := h
  refine ⟨GoFn.h, calls_of_swp 43 Try.func27 Try.ntmps27 rfl (Nat.le_of_ble_eq_true rfl) ?_⟩
  (repeat (first | refine swp_seq ?_ | refine swp_block ?_)); refine swp_region (by kernel_rfl) ?_
  repeat (first | refine x_move (by rfl) ?_ | refine x_as (by rfl) (by rfl) ?_ | refine x_skip (by rfl) ?_ | refine x_fld (by rfl) (by rfl) FldO.h ?_ | refine x_nilck (by rfl) (by rfl) ?_ | refine x_len (by rfl) (by rfl) ElOf.some ?_ | refine x_ext (by rfl) (by rfl) (by rfl) ?_ | refine x_pickT (by rfl) (by rfl) (by rfl) ?_ | refine x_pickF (by rfl) (by rfl) (by rfl) ?_ | refine x_add (by rfl) (by rfl) (by rfl) (by omega) ?_ | refine x_sub (by rfl) (by rfl) (by rfl) (by omega) ?_ | refine x_not (by rfl) (by rfl) ?_)
  refine x_nilw ?_
  (repeat (first | refine swp_seq ?_ | refine swp_block ?_)); refine swp_region (by kernel_rfl) ?_
  repeat (first | refine x_move (by rfl) ?_ | refine x_as (by rfl) (by rfl) ?_ | refine x_skip (by rfl) ?_ | refine x_fld (by rfl) (by rfl) FldO.h ?_ | refine x_nilck (by rfl) (by rfl) ?_ | refine x_len (by rfl) (by rfl) ElOf.some ?_ | refine x_ext (by rfl) (by rfl) (by rfl) ?_ | refine x_pickT (by rfl) (by rfl) (by rfl) ?_ | refine x_pickF (by rfl) (by rfl) (by rfl) ?_ | refine x_add (by rfl) (by rfl) (by rfl) (by omega) ?_ | refine x_sub (by rfl) (by rfl) (by rfl) (by omega) ?_ | refine x_not (by rfl) (by rfl) ?_)
  refine x_nilw ?_
  refine swp_fit [(0, .pointer (some ⟨bd, 0, none⟩)), (1, .int .i64 mark), (5, .slice none 0 0)] ⟨rfl, rfl, rfl, trivial⟩ fun ρ => ?_
  (repeat (first | refine swp_seq ?_ | refine swp_block ?_))
  refine swp_loop (fun (t : List Wt × List Wt × List Wt) σ w1 => ∃ so sv L, At σ [(0, .pointer (some ⟨bd, 0, none⟩)), (1, .int .i64 mark), (5, so)] ∧ t.1 ++ t.2.1 = S ∧ (∀ x ∈ t.1, by_ mark x = true) ∧ Du w1 bd bp r sv t.2.1 N clock L ∧ (∀ b, dfoot bd bp r sv L b → G b ∧ b < w.heap.size) ∧ Lsp tWo 40 w w1 so t.2.2 ∧ t.2.2.map Wt.says = t.1.map Wt.says ∧ Upd G w w1) (fun t => t.2.1.length) ([], S, []) ⟨.slice none 0 0, sv, L, at_ ⟨rfl, rfl, rfl, trivial⟩, rfl, by simp, hD, fun b hb => ⟨hG1 b hb, hD.lt hb⟩, Lsp.nil _ _ _ _, rfl, Upd.refl _ _⟩ ?_
  have hDl : ∀ x ∈ S, ∀ b, x.In b → b < w.heap.size := fun x hx b hb => (hD.each x hx).lt hb
  clear hD hG1
  rintro ⟨done, todo, out⟩ σ w1 ⟨so, sv, L, ⟨ρ, rfl⟩, hdt, hby, hD, hG1, hL, hsay, u1⟩
  simp only at hdt hby hD hL hsay
  dsimp only
  have hb := hD.blk
  have s1 := u1.size
  have hlS : S.length = done.length + todo.length := by rw [← hdt, List.length_append]
  have hlo : out.length = done.length := by have := congrArg List.length hsay; simpa using this
  (repeat (first | refine swp_seq ?_ | refine swp_block ?_)); refine swp_region (by kernel_rfl) ?_
  repeat (first | refine x_move (by rfl) ?_ | refine x_as (by rfl) (by rfl) ?_ | refine x_skip (by rfl) ?_ | refine x_fld (by rfl) (by rfl) FldO.h ?_ | refine x_nilck (by rfl) (by rfl) ?_ | refine x_len (by rfl) (by rfl) ElOf.some ?_ | refine x_ext (by rfl) (by rfl) (by rfl) ?_ | refine x_pickT (by rfl) (by rfl) (by rfl) ?_ | refine x_pickF (by rfl) (by rfl) (by rfl) ?_ | refine x_add (by rfl) (by rfl) (by rfl) (by omega) ?_ | refine x_sub (by rfl) (by rfl) (by rfl) (by omega) ?_ | refine x_not (by rfl) (by rfl) ?_)
  refine w_load (by rfl) (by rfl) (load_one OneT.h hb (by rfl)) ?_
  refine w_call (by rfl) (by rfl) (by rfl) (PWt.peek wlt_ord hD.pile) ?_
  rintro _ w2 ⟨rfl, u2⟩
  have htup : ∃ x ok, PWt.popV todo = .tuple #[.agg (Wt.cells x).toArray, .bool ok] ∧ x = todo.head?.getD Wt.zero ∧ ok = !todo.isEmpty := by
    cases todo with
    | nil => exact ⟨_, _, rfl, rfl, rfl⟩
    | cons x S => exact ⟨_, _, rfl, rfl, rfl⟩
  obtain ⟨x, ok, hx, hx2, rfl⟩ := htup
  rw [hx]
  repeat (first | refine x_move (by rfl) ?_ | refine x_as (by rfl) (by rfl) ?_ | refine x_skip (by rfl) ?_ | refine x_fld (by rfl) (by rfl) FldO.h ?_ | refine x_nilck (by rfl) (by rfl) ?_ | refine x_len (by rfl) (by rfl) ElOf.some ?_ | refine x_ext (by rfl) (by rfl) (by rfl) ?_ | refine x_pickT (by rfl) (by rfl) (by rfl) ?_ | refine x_pickF (by rfl) (by rfl) (by rfl) ?_ | refine x_add (by rfl) (by rfl) (by rfl) (by omega) ?_ | refine x_sub (by rfl) (by rfl) (by rfl) (by omega) ?_ | refine x_not (by rfl) (by rfl) ?_)
  refine w_alloc (by rfl) (by rfl) ZeroT.h ?_; intro b6 w3 e3 u3 h3
  refine w_store (xs := x.cells) (by rfl) (by rfl) (by rfl) (by rfl) SzT.h (by rfl) (by rfl) h3 (by simp) ?_
  intro w4 u4 h4 _
  repeat (first | refine x_move (by rfl) ?_ | refine x_as (by rfl) (by rfl) ?_ | refine x_skip (by rfl) ?_ | refine x_fld (by rfl) (by rfl) FldO.h ?_ | refine x_nilck (by rfl) (by rfl) ?_ | refine x_len (by rfl) (by rfl) ElOf.some ?_ | refine x_ext (by rfl) (by rfl) (by rfl) ?_ | refine x_pickT (by rfl) (by rfl) (by rfl) ?_ | refine x_pickF (by rfl) (by rfl) (by rfl) ?_ | refine x_add (by rfl) (by rfl) (by rfl) (by omega) ?_ | refine x_sub (by rfl) (by rfl) (by rfl) (by omega) ?_ | refine x_not (by rfl) (by rfl) ?_)
  refine x_nilw ?_
  replace h4 : Blk w4 b6 82 x.cells := h4
  have s2 := u2.size; have s3 := u3.size; have s4 := u4.size
  have u14 : Ext w1 w4 := (u2.trans u3).trans' u4 fun b hb e => by have e' : b = b6 := e; omega
  have l4 := h4.lt
  have hD4 := hD.at u14
  have hL4 := hL.at u14
  have u04 := u1.ext u14
  have hb6 : w.heap.size ≤ b6 := by omega
  refine swp_fit [(0, .pointer (some ⟨bd, 0, none⟩)), (1, .int .i64 mark), (5, so), (6, .pointer (some ⟨b6, 0, none⟩)), (7, .bool !todo.isEmpty)] ⟨rfl, rfl, rfl, rfl, rfl, trivial⟩ fun ρ => ?_
  -- the end
  have fin : ∀ (σ : Fr), σ 5 = so → (todo = [] ∨ by_ mark x = false) → (todo ≠ [] → ∃ t, todo = x :: t) →
      ∃ out, Lsp tWo 40 w w4 (σ 5) out ∧ out.map Wt.says = (S.takeWhile (by_ mark)).map Wt.says ∧ Dv w4 bd G (S.dropWhile (by_ mark)) N ∧ Upd G w w4 ∧ ∀ y ∈ out, ∀ b, tWo.In y b → ¬G b ∨ w.heap.size ≤ b := fun σ hσ hor hcons => by
    have h1 : S.takeWhile (by_ mark) = done ∧ S.dropWhile (by_ mark) = todo := by
      rw [← hdt, List.takeWhile_append_of_pos hby, List.dropWhile_append_of_pos hby]
      rcases hor with rfl | h
      · simp
      · cases todo with
        | nil => simp
        | cons z t =>
          obtain ⟨t', ht'⟩ := hcons (by simp)
          injection ht' with hz _
          subst hz
          simp [h]
    rw [h1.1, h1.2, hσ]
    exact ⟨out, hL4, hsay, ⟨bp, r, sv, clock, L, hD4, fun b hb => (hG1 b hb).1, fun y hy => hG2 y (by rw [← hdt]; exact List.mem_append_right _ hy)⟩, u04, fun y hy b hb => .inr (hL4.newE y hy b hb)⟩
  cases todo with
  | nil =>
    (repeat (first | refine swp_seq ?_ | refine swp_block ?_)); refine swp_region (by kernel_rfl) ?_
    repeat (first | refine x_move (by rfl) ?_ | refine x_as (by rfl) (by rfl) ?_ | refine x_skip (by rfl) ?_ | refine x_fld (by rfl) (by rfl) FldO.h ?_ | refine x_nilck (by rfl) (by rfl) ?_ | refine x_len (by rfl) (by rfl) ElOf.some ?_ | refine x_ext (by rfl) (by rfl) (by rfl) ?_ | refine x_pickT (by rfl) (by rfl) (by rfl) ?_ | refine x_pickF (by rfl) (by rfl) (by rfl) ?_ | refine x_add (by rfl) (by rfl) (by rfl) (by omega) ?_ | refine x_sub (by rfl) (by rfl) (by rfl) (by omega) ?_ | refine x_not (by rfl) (by rfl) ?_)
    refine x_nilw ?_
    (repeat (first | refine swp_seq ?_ | refine swp_block ?_))
    refine swp_true (by rfl) ?_
    (repeat (first | refine swp_seq ?_ | refine swp_block ?_)); refine swp_region (by kernel_rfl) ?_
    repeat (first | refine x_move (by rfl) ?_ | refine x_as (by rfl) (by rfl) ?_ | refine x_skip (by rfl) ?_ | refine x_fld (by rfl) (by rfl) FldO.h ?_ | refine x_nilck (by rfl) (by rfl) ?_ | refine x_len (by rfl) (by rfl) ElOf.some ?_ | refine x_ext (by rfl) (by rfl) (by rfl) ?_ | refine x_pickT (by rfl) (by rfl) (by rfl) ?_ | refine x_pickF (by rfl) (by rfl) (by rfl) ?_ | refine x_add (by rfl) (by rfl) (by rfl) (by omega) ?_ | refine x_sub (by rfl) (by rfl) (by rfl) (by omega) ?_ | refine x_not (by rfl) (by rfl) ?_)
    refine x_nilw ?_
    refine swp_ret ?_; (repeat (first | with_reducible refine r_then ?_ | with_reducible refine r_block ?_ | with_reducible refine r_jump ?_))
    exact post1 rfl rfl ⟨_, rfl, fin (upds ρ [(5, so)]) rfl (.inl rfl) fun h => absurd rfl h⟩
  | cons x' todo =>
    have hxx : x = x' := hx2
    subst hxx
    by_cases hdec : mark < x.m.dec
    · (repeat (first | refine swp_seq ?_ | refine swp_block ?_)); refine swp_region (by kernel_rfl) ?_
      repeat (first | refine x_move (by rfl) ?_ | refine x_as (by rfl) (by rfl) ?_ | refine x_skip (by rfl) ?_ | refine x_fld (by rfl) (by rfl) FldO.h ?_ | refine x_nilck (by rfl) (by rfl) ?_ | refine x_len (by rfl) (by rfl) ElOf.some ?_ | refine x_ext (by rfl) (by rfl) (by rfl) ?_ | refine x_pickT (by rfl) (by rfl) (by rfl) ?_ | refine x_pickF (by rfl) (by rfl) (by rfl) ?_ | refine x_add (by rfl) (by rfl) (by rfl) (by omega) ?_ | refine x_sub (by rfl) (by rfl) (by rfl) (by omega) ?_ | refine x_not (by rfl) (by rfl) ?_)
      refine w_load (by rfl) (by rfl) (load_one (v := .int .i64 x.m.dec) OneT.h h4 (by rfl)) ?_
      repeat (first | refine x_move (by rfl) ?_ | refine x_as (by rfl) (by rfl) ?_ | refine x_skip (by rfl) ?_ | refine x_fld (by rfl) (by rfl) FldO.h ?_ | refine x_nilck (by rfl) (by rfl) ?_ | refine x_len (by rfl) (by rfl) ElOf.some ?_ | refine x_ext (by rfl) (by rfl) (by rfl) ?_ | refine x_pickT (by rfl) (by rfl) (by rfl) ?_ | refine x_pickF (by rfl) (by rfl) (by rfl) ?_ | refine x_add (by rfl) (by rfl) (by rfl) (by omega) ?_ | refine x_sub (by rfl) (by rfl) (by rfl) (by omega) ?_ | refine x_not (by rfl) (by rfl) ?_)
      refine x_gtrT (by rfl) (by rfl) (by rfl) hdec ?_
      repeat (first | refine x_move (by rfl) ?_ | refine x_as (by rfl) (by rfl) ?_ | refine x_skip (by rfl) ?_ | refine x_fld (by rfl) (by rfl) FldO.h ?_ | refine x_nilck (by rfl) (by rfl) ?_ | refine x_len (by rfl) (by rfl) ElOf.some ?_ | refine x_ext (by rfl) (by rfl) (by rfl) ?_ | refine x_pickT (by rfl) (by rfl) (by rfl) ?_ | refine x_pickF (by rfl) (by rfl) (by rfl) ?_ | refine x_add (by rfl) (by rfl) (by rfl) (by omega) ?_ | refine x_sub (by rfl) (by rfl) (by rfl) (by omega) ?_ | refine x_not (by rfl) (by rfl) ?_)
      refine x_nilw ?_
      (repeat (first | refine swp_seq ?_ | refine swp_block ?_))
      refine swp_true (by rfl) ?_
      (repeat (first | refine swp_seq ?_ | refine swp_block ?_)); refine swp_region (by kernel_rfl) ?_
      repeat (first | refine x_move (by rfl) ?_ | refine x_as (by rfl) (by rfl) ?_ | refine x_skip (by rfl) ?_ | refine x_fld (by rfl) (by rfl) FldO.h ?_ | refine x_nilck (by rfl) (by rfl) ?_ | refine x_len (by rfl) (by rfl) ElOf.some ?_ | refine x_ext (by rfl) (by rfl) (by rfl) ?_ | refine x_pickT (by rfl) (by rfl) (by rfl) ?_ | refine x_pickF (by rfl) (by rfl) (by rfl) ?_ | refine x_add (by rfl) (by rfl) (by rfl) (by omega) ?_ | refine x_sub (by rfl) (by rfl) (by rfl) (by omega) ?_ | refine x_not (by rfl) (by rfl) ?_)
      refine x_nilw ?_
      refine swp_ret ?_; (repeat (first | with_reducible refine r_then ?_ | with_reducible refine r_block ?_ | with_reducible refine r_jump ?_))
      exact post1 rfl rfl ⟨_, rfl, fin (upds ρ [(5, so)]) rfl (.inr (by simp [by_]; omega)) fun _ => ⟨todo, rfl⟩⟩
    · (repeat (first | refine swp_seq ?_ | refine swp_block ?_)); refine swp_region (by kernel_rfl) ?_
      repeat (first | refine x_move (by rfl) ?_ | refine x_as (by rfl) (by rfl) ?_ | refine x_skip (by rfl) ?_ | refine x_fld (by rfl) (by rfl) FldO.h ?_ | refine x_nilck (by rfl) (by rfl) ?_ | refine x_len (by rfl) (by rfl) ElOf.some ?_ | refine x_ext (by rfl) (by rfl) (by rfl) ?_ | refine x_pickT (by rfl) (by rfl) (by rfl) ?_ | refine x_pickF (by rfl) (by rfl) (by rfl) ?_ | refine x_add (by rfl) (by rfl) (by rfl) (by omega) ?_ | refine x_sub (by rfl) (by rfl) (by rfl) (by omega) ?_ | refine x_not (by rfl) (by rfl) ?_)
      refine w_load (by rfl) (by rfl) (load_one (v := .int .i64 x.m.dec) OneT.h h4 (by rfl)) ?_
      repeat (first | refine x_move (by rfl) ?_ | refine x_as (by rfl) (by rfl) ?_ | refine x_skip (by rfl) ?_ | refine x_fld (by rfl) (by rfl) FldO.h ?_ | refine x_nilck (by rfl) (by rfl) ?_ | refine x_len (by rfl) (by rfl) ElOf.some ?_ | refine x_ext (by rfl) (by rfl) (by rfl) ?_ | refine x_pickT (by rfl) (by rfl) (by rfl) ?_ | refine x_pickF (by rfl) (by rfl) (by rfl) ?_ | refine x_add (by rfl) (by rfl) (by rfl) (by omega) ?_ | refine x_sub (by rfl) (by rfl) (by rfl) (by omega) ?_ | refine x_not (by rfl) (by rfl) ?_)
      refine x_gtrF (by rfl) (by rfl) (by rfl) hdec ?_
      repeat (first | refine x_move (by rfl) ?_ | refine x_as (by rfl) (by rfl) ?_ | refine x_skip (by rfl) ?_ | refine x_fld (by rfl) (by rfl) FldO.h ?_ | refine x_nilck (by rfl) (by rfl) ?_ | refine x_len (by rfl) (by rfl) ElOf.some ?_ | refine x_ext (by rfl) (by rfl) (by rfl) ?_ | refine x_pickT (by rfl) (by rfl) (by rfl) ?_ | refine x_pickF (by rfl) (by rfl) (by rfl) ?_ | refine x_add (by rfl) (by rfl) (by rfl) (by omega) ?_ | refine x_sub (by rfl) (by rfl) (by rfl) (by omega) ?_ | refine x_not (by rfl) (by rfl) ?_)
      refine x_nilw ?_
      (repeat (first | refine swp_seq ?_ | refine swp_block ?_))
      refine swp_false (by rfl) (swp_skip ?_)
      clear fin
      refine swp_fit [(0, .pointer (some ⟨bd, 0, none⟩)), (1, .int .i64 mark), (5, so), (6, .pointer (some ⟨b6, 0, none⟩))] ⟨rfl, rfl, rfl, rfl, trivial⟩ fun ρ => ?_
      have hxR := hD4.each x (by simp)
      have hxS : x ∈ S := by rw [← hdt]; simp
      have hlS2 : S.length = done.length + (todo.length + 1) := hlS
      have hlt : todo.length < S.length := by omega
      (repeat (first | refine swp_seq ?_ | refine swp_block ?_)); refine swp_region (by kernel_rfl) ?_
      repeat (first | refine x_move (by rfl) ?_ | refine x_as (by rfl) (by rfl) ?_ | refine x_skip (by rfl) ?_ | refine x_fld (by rfl) (by rfl) FldO.h ?_ | refine x_nilck (by rfl) (by rfl) ?_ | refine x_len (by rfl) (by rfl) ElOf.some ?_ | refine x_ext (by rfl) (by rfl) (by rfl) ?_ | refine x_pickT (by rfl) (by rfl) (by rfl) ?_ | refine x_pickF (by rfl) (by rfl) (by rfl) ?_ | refine x_add (by rfl) (by rfl) (by rfl) (by omega) ?_ | refine x_sub (by rfl) (by rfl) (by rfl) (by omega) ?_ | refine x_not (by rfl) (by rfl) ?_)
      refine w_load (by rfl) (by rfl) (load_one OneT.h hD4.blk (by rfl)) ?_
      refine w_call (by rfl) (by rfl) (by rfl) (PWt.pop wlt_ord hD4.pile (by simp; omega) fun y hy => ⟨hD4.each y hy, fun b hb hf => hD4.ap y hy b hb (.inr (.inl hf))⟩) ?_
      rintro _ w5 ⟨_, sv5, hp5, u5, hin5⟩
      refine x_nilw ?_
      have hbdp := fun b hb => hD4.bdp (b := b) hb
      obtain ⟨hbr, hbk, hrk⟩ := hD4.bdr
      have hfw : ∀ b, dfoot bd bp r sv L b → b < w.heap.size := fun b hb => (hG1 b hb).2
      have h5 := h4.get u5 fun hf => by have := hfw b6 (.inr (.inl hf)); omega
      have hbd5 := hD4.blk.get u5 fun hf => (hbdp bd hf).1 rfl
      have hkn5 := hD4.kn.get u5 (fun hf => (hbdp r hf).2.1 rfl) fun b hb hf => (hbdp b hf).2.2 hb
      have hea5 : ∀ z ∈ x :: todo, z.Rdy w5 := fun z hz => (hD4.each z hz).get u5 fun b hb hf => hD4.ap z hz b hb (.inr (.inl hf))
      have hL5 := hL4.get u5 fun b hb _ hf => by have := hfw b (.inr (.inl hf)); omega
      refine swp_fit [(0, .pointer (some ⟨bd, 0, none⟩)), (1, .int .i64 mark), (5, so), (6, .pointer (some ⟨b6, 0, none⟩))] ⟨rfl, rfl, rfl, rfl, trivial⟩ fun ρ => ?_
      (repeat (first | refine swp_seq ?_ | refine swp_block ?_)); refine swp_region (by kernel_rfl) ?_
      repeat (first | refine x_move (by rfl) ?_ | refine x_as (by rfl) (by rfl) ?_ | refine x_skip (by rfl) ?_ | refine x_fld (by rfl) (by rfl) FldO.h ?_)
      refine w_load (by rfl) (by rfl) (load_agg (xs := x.m.cells) AggT.h h5 (by rfl) (by rfl)) ?_
      refine w_call (by rfl) (by rfl) (by rfl) (forget hbd5 hkn5 hea5 hD4.rise (fun b hb hf => hD4.ap x (by simp) b hb (.inr (.inr (.inr hf)))) (by omega)) ?_
      rintro _ w6 ⟨rfl, L6, hkn6, u6, hk6⟩
      refine x_nilw ?_
      have s5 := u5.size; have s6 := u6.size
      have hrkf : ∀ b, (b = r ∨ kfoot L b) → b < w.heap.size := fun b hb => hb.elim (fun e => hfw b (.inr (.inr (.inl e)))) fun e => hfw b (.inr (.inr (.inr e)))
      have h6 := h5.get u6 fun hf => by have := hrkf b6 hf; omega
      have hea6 : ∀ z ∈ x :: todo, z.Rdy w6 := fun z hz => (hea5 z hz).get u6 fun b hb hf => hD4.ap z hz b hb (hf.elim (fun e => .inr (.inr (.inl e))) fun e => .inr (.inr (.inr e)))
      have hpf : ∀ b, PWt.foot bp sv5 b → PWt.foot bp sv b := fun b hb => hb.imp id (hin5 b)
      have hD6 : Du w6 bd bp r sv5 todo N clock L6 := ⟨hbd5.get u6 fun h => h.elim hbr hbk, (show PWt.Pile w5 bp sv5 todo N from hp5).get u6 fun b hb hf => hf.elim (hbdp b (hpf b hb)).2.1 (hbdp b (hpf b hb)).2.2, hkn6, fun z hz => hea6 z (by simp [hz]), fun z hz b hb hf => hD4.ap z (by simp [hz]) b hb (by
        rcases hf with h | h | h | h
        · exact .inl h
        · exact .inr (.inl (hpf b h))
        · exact .inr (.inr (.inl h))
        · exact .inr (.inr (.inr (hk6 b h)))), (List.pairwise_cons.1 hD4.rise).2⟩
      have hG6 : ∀ b, dfoot bd bp r sv5 L6 b → G b ∧ b < w.heap.size := fun b hf => hG1 b (by
        rcases hf with h | h | h | h
        · exact .inl h
        · exact .inr (.inl (hpf b h))
        · exact .inr (.inr (.inl h))
        · exact .inr (.inr (.inr (hk6 b h))))
      have hL6 := hL5.get u6 fun b hb _ hf => by have := hrkf b hf; omega
      have u06 : Upd G w w6 := (u04.trans' u5 fun b _ hf => (hG1 b (.inr (.inl hf))).1).trans' u6 fun b _ hf => hf.elim (fun e => (hG1 b (.inr (.inr (.inl e)))).1) fun e => (hG1 b (.inr (.inr (.inr e)))).1
      have s06 := u06.size
      refine swp_fit [(0, .pointer (some ⟨bd, 0, none⟩)), (1, .int .i64 mark), (5, so), (6, .pointer (some ⟨b6, 0, none⟩))] ⟨rfl, rfl, rfl, rfl, trivial⟩ fun ρ => ?_
      (repeat (first | refine swp_seq ?_ | refine swp_block ?_)); refine swp_region (by kernel_rfl) ?_
      repeat (first | refine x_move (by rfl) ?_ | refine x_as (by rfl) (by rfl) ?_ | refine x_skip (by rfl) ?_ | refine x_fld (by rfl) (by rfl) FldO.h ?_)
      refine w_load (by rfl) (by rfl) (load_agg (xs := x.cells) AggT.h h6 (by rfl) (by rfl)) ?_
      refine w_call (by rfl) (by rfl) (by rfl) (own_waitingO x w6 (hea6 x (by simp))) ?_
      rintro _ w7 ⟨y, rfl, hc⟩
      refine w_bslice (e := 40) (cs := y.cells) (by rfl) (by rfl) (by rfl) (by kernel_rfl) ?_
      intro b8 w8 e8 u8 h8
      have hc8 := hc.at u8
      refine w_append (more := []) (news := y.cells) (by rfl) (by rfl) (by rfl) (by rfl) SlC.h (hL6.own.at hc8.ext) (by rw [List.append_nil]; exact h8) (wt_len _) (wt_one _) (by omega) (hr8.le (by omega)) ?_
      intro so' w9 hown9 u9 hin9
      repeat (first | refine x_move (by rfl) ?_ | refine x_as (by rfl) (by rfl) ?_ | refine x_skip (by rfl) ?_ | refine x_fld (by rfl) (by rfl) FldO.h ?_)
      refine x_nilw ?_
      have hL9 := hL6.push (T := tWo) s06 hc8.rdy hc.new hc8.ext hown9 u9 hin9
      have u69 : Ext w6 w8 := hc8.ext
      (repeat (first | with_reducible refine n_then ?_ | with_reducible refine n_block ?_ | with_reducible refine n_jump ?_))
      have hD9 := (hD6.at u69).get u9 (fun b hb hf => by have := (hG6 b hb).2; have := hL6.new b hf; omega) fun z hz b hb hf => by have := hDl z (by rw [← hdt]; simp [hz]) b hb; have := hL6.new b hf; omega
      refine ⟨(done ++ [x], todo, out ++ [y]), ⟨so', sv5, L6, at_ ⟨rfl, rfl, rfl, trivial⟩, by simpa using hdt, fun z hz => ?_, hD9, hG6, hL9, by rw [List.map_append, List.map_append, hsay]; simp [hc.says], (u06.ext u69).trans' u9 fun b hb hf => by have := hL6.new b hf; omega⟩, by simp⟩
      rcases List.mem_append.1 hz with hz | hz
      · exact hby z hz
      · rw [List.mem_singleton.1 hz]
        simp [by_]
        omega
end Go.Proofs.Ytpnigekkbmanlaa
