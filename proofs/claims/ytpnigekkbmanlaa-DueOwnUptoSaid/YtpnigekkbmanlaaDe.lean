/- Delete of one match from a list of its own, in place; forget. Conditions: what is read. -/
import Derived.Test.YtpnigekkbmanlaaAd
namespace Go.Proofs.Ytpnigekkbmanlaa
open Sx Hp

set_option maxRecDepth 100000 in
theorem delete_one {w : World} {g n c i : Nat} {ms : List Mt} {rest : List Value} (hb : Blk w g 29 (fl Mt.cells ms ++ rest)) (hn : n = ms.length) (hi : i < ms.length) (hc : n ≤ c) (hc2 : c ≤ maxLen) (hlen : (fl Mt.cells ms ++ rest).length = c * 4) :
    Gets Try.prog 65 [.slice (some ⟨g, 0, none⟩) n c, .int .i64 (i : Nat), .int .i64 ((i : Nat) + 1 : Int)] w fun v w' => v = .slice (some ⟨g, 0, none⟩) (n - 1) c ∧ Own w' 29 4 (.slice (some ⟨g, 0, none⟩) (n - 1) c) (n - 1) (fl Mt.cells (ms.eraseIdx i)) ∧ Upd (fun b => b = g) w w' := by
  have hmx : maxLen = 9223372036854775807 := rfl
  have hown : Own w 29 4 (.slice (some ⟨g, 0, none⟩) n c) n (fl Mt.cells ms) := Own.of (by rw [fl_length mt_len, hn]) hb hc hc2 hlen
  have hrd := hown.rd
  refine ⟨GoFn.h, calls_of_swp 33 Try.func65 Try.ntmps65 rfl (Nat.le_of_ble_eq_true rfl) ?_⟩
  (repeat (first | refine swp_seq ?_ | refine swp_block ?_)); refine swp_region (by kernel_rfl) ?_
  repeat (first | refine x_move (by rfl) ?_ | refine x_as (by rfl) (by rfl) ?_ | refine x_skip (by rfl) ?_ | refine x_fld (by rfl) (by rfl) FldO.h ?_ | refine x_nilck (by rfl) (by rfl) ?_ | refine x_len (by rfl) (by rfl) ElOf.some ?_ | refine x_ext (by rfl) (by rfl) (by rfl) ?_ | refine x_pickT (by rfl) (by rfl) (by rfl) ?_ | refine x_pickF (by rfl) (by rfl) (by rfl) ?_ | refine x_add (by rfl) (by rfl) (by rfl) (by omega) ?_ | refine x_sub (by rfl) (by rfl) (by rfl) (by omega) ?_ | refine x_not (by rfl) (by rfl) ?_)
  refine x_nilw ?_
  (repeat (first | refine swp_seq ?_ | refine swp_block ?_)); refine swp_region (by kernel_rfl) ?_
  repeat (first | refine x_move (by rfl) ?_ | refine x_as (by rfl) (by rfl) ?_ | refine x_skip (by rfl) ?_ | refine x_fld (by rfl) (by rfl) FldO.h ?_ | refine x_nilck (by rfl) (by rfl) ?_ | refine x_len (by rfl) (by rfl) ElOf.some ?_ | refine x_ext (by rfl) (by rfl) (by rfl) ?_ | refine x_pickT (by rfl) (by rfl) (by rfl) ?_ | refine x_pickF (by rfl) (by rfl) (by rfl) ?_ | refine x_add (by rfl) (by rfl) (by rfl) (by omega) ?_ | refine x_sub (by rfl) (by rfl) (by rfl) (by omega) ?_ | refine x_not (by rfl) (by rfl) ?_)
  refine x_slice3 i (i + 1) n (by rfl) (by rfl) (by rfl) (by rfl) (by rfl) (by kernel_rfl) rfl (by omega) rfl (by omega) (by omega) hc ?_
  intro v0
  refine x_nilw ?_
  (repeat (first | refine swp_seq ?_ | refine swp_block ?_)); refine swp_region (by kernel_rfl) ?_
  repeat (first | refine x_move (by rfl) ?_ | refine x_as (by rfl) (by rfl) ?_ | refine x_skip (by rfl) ?_ | refine x_fld (by rfl) (by rfl) FldO.h ?_ | refine x_nilck (by rfl) (by rfl) ?_ | refine x_len (by rfl) (by rfl) ElOf.some ?_ | refine x_ext (by rfl) (by rfl) (by rfl) ?_ | refine x_pickT (by rfl) (by rfl) (by rfl) ?_ | refine x_pickF (by rfl) (by rfl) (by rfl) ?_ | refine x_add (by rfl) (by rfl) (by rfl) (by omega) ?_ | refine x_sub (by rfl) (by rfl) (by rfl) (by omega) ?_ | refine x_not (by rfl) (by rfl) ?_)
  refine x_eqlF (by rfl) (by rfl) (by rfl) (by omega) ?_
  refine x_nilw ?_
  (repeat (first | refine swp_seq ?_ | refine swp_block ?_))
  refine swp_false (by rfl) (swp_skip ?_)
  (repeat (first | refine swp_seq ?_ | refine swp_block ?_)); refine swp_region (by kernel_rfl) ?_
  repeat (first | refine x_move (by rfl) ?_ | refine x_as (by rfl) (by rfl) ?_ | refine x_skip (by rfl) ?_ | refine x_fld (by rfl) (by rfl) FldO.h ?_ | refine x_nilck (by rfl) (by rfl) ?_ | refine x_len (by rfl) (by rfl) ElOf.some ?_ | refine x_ext (by rfl) (by rfl) (by rfl) ?_ | refine x_pickT (by rfl) (by rfl) (by rfl) ?_ | refine x_pickF (by rfl) (by rfl) (by rfl) ?_ | refine x_add (by rfl) (by rfl) (by rfl) (by omega) ?_ | refine x_sub (by rfl) (by rfl) (by rfl) (by omega) ?_ | refine x_not (by rfl) (by rfl) ?_)
  refine x_nilw ?_
  refine swp_fit [(0, .slice (some ⟨g, 0, none⟩) n c), (1, .int .i64 (i : Nat)), (2, .int .i64 ((i : Nat) + 1 : Int)), (7, .int .i64 (n : Nat))] ⟨rfl, rfl, rfl, rfl, trivial⟩ fun ρ => ?_
  have hr2 := hrd.cutFrom (j := i + 1) (by omega) hc
  have hfl2 : (fl Mt.cells ms).drop ((i + 1) * 4) = fl Mt.cells (ms.drop (i + 1)) := fl_drop mt_len ms (i + 1)
  have hfl1 : (fl Mt.cells ms).take (i * 4) = fl Mt.cells (ms.take i) := fl_take mt_len ms i
  rw [hfl2] at hr2
  (repeat (first | refine swp_seq ?_ | refine swp_block ?_)); refine swp_draw (Ext w) [6] Mixed.h (by kernel_rfl) (by kernel_rfl) (ext_drew w) ?_
  repeat (first | refine x_move (by rfl) ?_ | refine x_as (by rfl) (by rfl) ?_ | refine x_skip (by rfl) ?_ | refine x_fld (by rfl) (by rfl) FldO.h ?_ | refine x_nilck (by rfl) (by rfl) ?_ | refine x_len (by rfl) (by rfl) ElOf.some ?_ | refine x_ext (by rfl) (by rfl) (by rfl) ?_ | refine x_pickT (by rfl) (by rfl) (by rfl) ?_ | refine x_pickF (by rfl) (by rfl) (by rfl) ?_ | refine x_add (by rfl) (by rfl) (by rfl) (by omega) ?_ | refine x_sub (by rfl) (by rfl) (by rfl) (by omega) ?_ | refine x_not (by rfl) (by rfl) ?_)
  refine x_cutTo i (by rfl) (by rfl) (by rfl) (by kernel_rfl) rfl (by omega) ?_
  repeat (first | refine x_move (by rfl) ?_ | refine x_as (by rfl) (by rfl) ?_ | refine x_skip (by rfl) ?_ | refine x_fld (by rfl) (by rfl) FldO.h ?_ | refine x_nilck (by rfl) (by rfl) ?_ | refine x_len (by rfl) (by rfl) ElOf.some ?_ | refine x_ext (by rfl) (by rfl) (by rfl) ?_ | refine x_pickT (by rfl) (by rfl) (by rfl) ?_ | refine x_pickF (by rfl) (by rfl) (by rfl) ?_ | refine x_add (by rfl) (by rfl) (by rfl) (by omega) ?_ | refine x_sub (by rfl) (by rfl) (by rfl) (by omega) ?_ | refine x_not (by rfl) (by rfl) ?_)
  refine x_cutFrom (i + 1) (by rfl) (by rfl) (by rfl) ElSz.h (by omega) (by omega) ?_
  refine x_fix (by rfl) (by rfl) (by rfl) fun w1 u1 => ?_
  have hb1 := hb.at u1
  refine w_appendIn (by rfl) (by rfl) (by rfl) (by rfl) SlC.h hb1 (hr2.at u1) (fl_one'' mt_one _) (by omega) (by rw [hlen]; omega) ?_
  intro w2 hb2 u2
  repeat (first | refine x_move (by rfl) ?_ | refine x_as (by rfl) (by rfl) ?_ | refine x_skip (by rfl) ?_ | refine x_fld (by rfl) (by rfl) FldO.h ?_ | refine x_nilck (by rfl) (by rfl) ?_ | refine x_len (by rfl) (by rfl) ElOf.some ?_ | refine x_ext (by rfl) (by rfl) (by rfl) ?_ | refine x_pickT (by rfl) (by rfl) (by rfl) ?_ | refine x_pickF (by rfl) (by rfl) (by rfl) ?_ | refine x_add (by rfl) (by rfl) (by rfl) (by omega) ?_ | refine x_sub (by rfl) (by rfl) (by rfl) (by omega) ?_ | refine x_not (by rfl) (by rfl) ?_)
  refine x_nilw ?_
  have hl1 : (fl Mt.cells ms).length = n * 4 := by rw [fl_length mt_len, hn]
  have htk : (fl Mt.cells ms ++ rest).take (i * 4) = fl Mt.cells (ms.take i) := by rw [List.take_append_of_le_length (by omega), hfl1]
  rw [htk] at hb2
  obtain ⟨cs2, hcs2⟩ : ∃ cs2, cs2 = fl Mt.cells (ms.take i) ++ fl Mt.cells (ms.drop (i + 1)) ++ (fl Mt.cells ms ++ rest).drop (i * 4 + (n - (i + 1)) * 4) := ⟨_, rfl⟩
  rw [← hcs2] at hb2
  have her : fl Mt.cells (ms.take i) ++ fl Mt.cells (ms.drop (i + 1)) = fl Mt.cells (ms.eraseIdx i) := by rw [← fl_append, List.eraseIdx_eq_take_drop_succ]
  have hle : (ms.eraseIdx i).length = n - 1 := by rw [List.length_eraseIdx_of_lt hi, hn]
  have hlf : (fl Mt.cells (ms.eraseIdx i)).length = (n - 1) * 4 := by rw [fl_length mt_len, hle]
  have hl2 : cs2.length = c * 4 := by
    rw [hcs2, her, List.length_append, hlf, List.length_drop, hlen]
    omega
  rw [show i + (n - (i + 1)) = n - 1 by omega]
  refine swp_fit [(0, .slice (some ⟨g, 0, none⟩) (n - 1) c), (7, .int .i64 (n : Nat))] ⟨rfl, rfl, trivial⟩ fun ρ => ?_
  (repeat (first | refine swp_seq ?_ | refine swp_block ?_)); refine swp_region (by kernel_rfl) ?_
  repeat (first | refine x_move (by rfl) ?_ | refine x_as (by rfl) (by rfl) ?_ | refine x_skip (by rfl) ?_ | refine x_fld (by rfl) (by rfl) FldO.h ?_ | refine x_nilck (by rfl) (by rfl) ?_ | refine x_len (by rfl) (by rfl) ElOf.some ?_ | refine x_ext (by rfl) (by rfl) (by rfl) ?_ | refine x_pickT (by rfl) (by rfl) (by rfl) ?_ | refine x_pickF (by rfl) (by rfl) (by rfl) ?_ | refine x_add (by rfl) (by rfl) (by rfl) (by omega) ?_ | refine x_sub (by rfl) (by rfl) (by rfl) (by omega) ?_ | refine x_not (by rfl) (by rfl) ?_)
  refine x_cutBoth (n - 1) n (by rfl) (by rfl) (by rfl) (by rfl) ElSz.h rfl rfl (by omega) hc ?_
  rw [if_neg (by omega)]
  simp only [Option.map_some, Addr.add_lit, Nat.zero_add]
  refine w_clear (zs := [.int .i64 0, .slice none 0 0, .slice none 0 0, .slice none 0 0]) (by rfl) (by rfl) (by rfl) SlC.h (by kernel_rfl) (by omega) hb2 (by rfl) (by rw [hl2]; omega) ?_
  intro w3 cs3 hl3 hlo _ hb3 u3
  refine x_nilw ?_
  (repeat (first | refine swp_seq ?_ | refine swp_block ?_)); refine swp_region (by kernel_rfl) ?_
  repeat (first | refine x_move (by rfl) ?_ | refine x_as (by rfl) (by rfl) ?_ | refine x_skip (by rfl) ?_ | refine x_fld (by rfl) (by rfl) FldO.h ?_ | refine x_nilck (by rfl) (by rfl) ?_ | refine x_len (by rfl) (by rfl) ElOf.some ?_ | refine x_ext (by rfl) (by rfl) (by rfl) ?_ | refine x_pickT (by rfl) (by rfl) (by rfl) ?_ | refine x_pickF (by rfl) (by rfl) (by rfl) ?_ | refine x_add (by rfl) (by rfl) (by rfl) (by omega) ?_ | refine x_sub (by rfl) (by rfl) (by rfl) (by omega) ?_ | refine x_not (by rfl) (by rfl) ?_)
  refine x_nilw ?_
  refine swp_ret ?_; (repeat (first | with_reducible refine r_then ?_ | with_reducible refine r_block ?_ | with_reducible refine r_jump ?_))
  have hcs3 : cs3 = fl Mt.cells (ms.eraseIdx i) ++ cs3.drop ((n - 1) * 4) := by
    have : cs3.take ((n - 1) * 4) = fl Mt.cells (ms.eraseIdx i) := by
      apply List.ext_getElem?
      intro j
      rw [List.getElem?_take]
      split
      · rename_i hj
        rw [hlo j hj, hcs2, her, List.getElem?_append_left (by omega)]
      · rename_i hj
        rw [List.getElem?_eq_none (by omega)]
    rw [← this, List.take_append_drop]
  rw [hcs3] at hb3
  refine post1 rfl rfl ⟨_, rfl, rfl, Own.of (rest := cs3.drop ((n - 1) * 4)) hlf hb3 (by omega) hc2 ?_, ((Upd.refl _ w).ext u1).trans (u2.trans u3)⟩
  rw [← hcs3, hl3, hl2]

theorem key_inj {S : List Wt} (h : S.Pairwise fun x y => wlt x y = true) {x y : Wt} (hx : x ∈ S) (hy : y ∈ S) (hk : x.m.key = y.m.key) : x = y := by
  induction S with
  | nil => simp at hx
  | cons z S ih =>
    obtain ⟨h1, h2⟩ := List.pairwise_cons.1 h
    have hno : ∀ a ∈ S, a.m.key ≠ z.m.key := fun a ha e => by
      have := h1 a ha
      rw [wlt, mlt, e, klt_tot.irr] at this
      cases this
    rcases List.mem_cons.1 hx with e1 | hx'
    · rcases List.mem_cons.1 hy with e2 | hy'
      · rw [e1, e2]
      · exact absurd (by rw [← hk, e1]) (hno y hy')
    · rcases List.mem_cons.1 hy with e2 | hy'
      · exact absurd (by rw [hk, e2]) (hno x hx')
      · exact ih h2 hx' hy'

set_option maxHeartbeats 2000000 in
set_option maxRecDepth 100000 in
theorem forget {w : World} {bd r clock : Nat} {bpv : Value} {L : List KE} {x : Wt} {S : List Wt} (hbd : Blk w bd 85 [bpv, .map (some r)]) (hk : Kn w r clock L ((x :: S).map Wt.m)) (hR : ∀ y ∈ x :: S, y.Rdy w) (hrise : (x :: S).Pairwise fun a b => wlt a b = true) (hap : ∀ b, x.In b → ¬kfoot L b) (hl : S.length ≤ 4611686018427387903) :
    Gets Try.prog 54 [.pointer (some ⟨bd, 0, none⟩), x.m.v] w fun v w' => v = .tuple #[] ∧ ∃ L', Kn w' r clock L' (S.map Wt.m) ∧ Upd (fun b => b = r ∨ kfoot L b) w w' ∧ ∀ b, kfoot L' b → kfoot L b := by
  have hxR := hR x (by simp)
  obtain ⟨a, c, ms, hlk, hrd, hms, hml, hpl, hcase, hnil⟩ := hk.lookup x.m hR
  have hp0 : 0 ≤ placeOf ms x.m := hpl.2 ⟨x, by simp, rfl⟩
  obtain ⟨i, hfi⟩ : ∃ i, ms.findIdx? x.m.same2 = some i := by
    cases hf : ms.findIdx? x.m.same2 with
    | none => rw [placeOf, hf] at hp0; simp at hp0
    | some i => exact ⟨i, rfl⟩
  have hpi : placeOf ms x.m = (i : Nat) := by rw [placeOf, hfi]
  obtain ⟨hi, hsame, -⟩ := List.findIdx?_eq_some_iff_getElem.1 hfi
  have hne : ms ≠ [] := fun h => by rw [h] at hi; simp at hi
  have him : i < 9223372036854775806 := by have := hml; simp at this; omega
  obtain ⟨A, e, B, hL, heh, heA, hem, hea, hec⟩ := hcase.resolve_left hne
  subst hL
  have heL : e ∈ A ++ e :: B := by simp
  subst hem; subst hea; subst hec
  -- what stands there is just the match
  have hit : e.ms[i] = x.m := by
    have hmem := hk.perm.mem_iff.1 (List.mem_flatMap.2 ⟨e, heL, List.getElem_mem hi⟩)
    obtain ⟨y, hy, hye⟩ := List.mem_map.1 hmem
    have hd := hk.head e heL _ (List.getElem_mem hi)
    rw [heh, ← hye] at hd
    rw [← hye] at hsame
    simp only [Mt.same2, Bool.and_eq_true, decide_eq_true_eq] at hsame
    simp only [Mt.head, Hd.mk.injEq] at hd
    have hkey : y.m.key = x.m.key := by simp only [Mt.key, hd.1, ← hsame.1, ← hsame.2]
    rw [← hye, key_inj hrise hy (by simp) hkey]
  obtain ⟨g, cap, rest, heq, hg, hc1, hc2, hc3⟩ := (hk.own e heL).pos (by omega)
  simp only [KE.sl, Value.slice.injEq] at heq
  obtain ⟨hea, _, hec⟩ := heq
  have hsl : e.sl = .slice (some ⟨g, 0, none⟩) e.ms.length cap := by rw [KE.sl, hea, hec]
  have htr : (A ++ e :: B).map KE.tr = A.map KE.tr ++ (x.m.head, e.sl, e.born) :: B.map KE.tr := by rw [List.map_append, List.map_cons, ← heh]; rfl
  have hgk : kfoot (A ++ e :: B) g := ⟨e, heL, by rw [hsl]; rfl⟩
  have hrk : ¬kfoot (A ++ e :: B) r := fun ⟨f, hf, h2⟩ => by
    obtain ⟨cs, hcs⟩ := own_in (hk.own f hf) h2
    exact mp_ne hk.mp hcs rfl
  refine ⟨GoFn.h, calls_of_swp 36 Try.func54 Try.ntmps54 rfl (Nat.le_of_ble_eq_true rfl) ?_⟩
  (repeat (first | refine swp_seq ?_ | refine swp_block ?_)); refine swp_region (by kernel_rfl) ?_
  refine w_boxA (by rfl) (by rfl) (by rfl) ?_; intro b3 w1 e1 u1 h1
  refine x_nilw ?_
  replace h1 : Blk w1 b3 29 x.m.cells := h1
  have hbl : bd < w.heap.size := hbd.lt
  (repeat (first | refine swp_seq ?_ | refine swp_block ?_)); refine swp_region (by kernel_rfl) ?_
  refine w_load (by rfl) (by rfl) (load_agg (xs := x.m.cells) AggT.h h1 (by rfl) (by rfl)) ?_
  refine w_call (by rfl) (by rfl) (by rfl) (head_of x.m w1 (hxR.m.at u1)) ?_
  rintro _ w2 ⟨rfl, u2⟩
  refine w_alloc (by rfl) (by rfl) ZeroT.h ?_; intro b4 w3 e3 u3 h3
  refine w_store (xs := x.m.head.cells) (by rfl) (by rfl) (by rfl) (by rfl) SzT.h (by rfl) (by rfl) h3 (by simp) ?_
  intro w4 u4 h4 _
  refine x_nilw ?_
  replace h4 : Blk w4 b4 94 x.m.head.cells := h4
  have s1 := u1.size; have s2 := u2.size; have s3 := u3.size
  have l1 := h1.lt
  have u24 : Ext w2 w4 := u3.trans' u4 fun b hb e => by have e' : b = b4 := e; omega
  have u04 := (u1.trans u2).trans u24
  have h14 := (h1.at u2).at u24
  refine swp_fit [(0, .pointer (some ⟨bd, 0, none⟩)), (3, .pointer (some ⟨b3, 0, none⟩)), (4, .pointer (some ⟨b4, 0, none⟩))] ⟨rfl, rfl, rfl, trivial⟩ fun ρ => ?_
  (repeat (first | refine swp_seq ?_ | refine swp_block ?_)); refine swp_region (by kernel_rfl) ?_
  repeat (first | refine x_move (by rfl) ?_ | refine x_as (by rfl) (by rfl) ?_ | refine x_skip (by rfl) ?_ | refine x_fld (by rfl) (by rfl) FldO.h ?_ | refine x_nilck (by rfl) (by rfl) ?_ | refine x_len (by rfl) (by rfl) ElOf.some ?_ | refine x_ext (by rfl) (by rfl) (by rfl) ?_ | refine x_pickT (by rfl) (by rfl) (by rfl) ?_ | refine x_pickF (by rfl) (by rfl) (by rfl) ?_ | refine x_add (by rfl) (by rfl) (by rfl) (by omega) ?_ | refine x_sub (by rfl) (by rfl) (by rfl) (by omega) ?_ | refine x_not (by rfl) (by rfl) ?_)
  refine w_load (by rfl) (by rfl) (load_agg (xs := x.m.cells) AggT.h h14 (by rfl) (by rfl)) ?_
  refine w_call (by rfl) (by rfl) (by rfl) (place w4 (hbd.at u04) (hk.mp.at u04) hlk (hxR.m.at u04) (hrd.at u04) (fun o ho => ⟨(hms o ho).1.at u04, (hms o ho).2⟩) (by have := hml; simp at this; omega)) ?_
  rintro _ w5 ⟨rfl, u5⟩
  rw [hpi]
  repeat (first | refine x_move (by rfl) ?_ | refine x_as (by rfl) (by rfl) ?_ | refine x_skip (by rfl) ?_ | refine x_fld (by rfl) (by rfl) FldO.h ?_ | refine x_nilck (by rfl) (by rfl) ?_ | refine x_len (by rfl) (by rfl) ElOf.some ?_ | refine x_ext (by rfl) (by rfl) (by rfl) ?_ | refine x_pickT (by rfl) (by rfl) (by rfl) ?_ | refine x_pickF (by rfl) (by rfl) (by rfl) ?_ | refine x_add (by rfl) (by rfl) (by rfl) (by omega) ?_ | refine x_sub (by rfl) (by rfl) (by rfl) (by omega) ?_ | refine x_not (by rfl) (by rfl) ?_)
  refine x_nilw ?_
  have u05 := u04.trans u5
  have h45 := h4.at u5
  have hbd5 := hbd.at u05
  have hmp5 := hk.mp.at u05
  have hg5 := hg.at u05
  have l45 := h45.lt
  have hb4 : w.heap.size ≤ b4 := by omega
  refine swp_fit [(0, .pointer (some ⟨bd, 0, none⟩)), (4, .pointer (some ⟨b4, 0, none⟩)), (5, .int .i64 (i : Nat))] ⟨rfl, rfl, rfl, trivial⟩ fun ρ => ?_
  (repeat (first | refine swp_seq ?_ | refine swp_block ?_)); refine swp_draw (Ext w5) [9] Mixed.h (by kernel_rfl) (by kernel_rfl) (ext_drew w5) ?_
  repeat (first | refine x_move (by rfl) ?_ | refine x_as (by rfl) (by rfl) ?_ | refine x_skip (by rfl) ?_ | refine x_fld (by rfl) (by rfl) FldO.h ?_ | refine x_nilck (by rfl) (by rfl) ?_ | refine x_len (by rfl) (by rfl) ElOf.some ?_ | refine x_ext (by rfl) (by rfl) (by rfl) ?_ | refine x_pickT (by rfl) (by rfl) (by rfl) ?_ | refine x_pickF (by rfl) (by rfl) (by rfl) ?_ | refine x_add (by rfl) (by rfl) (by rfl) (by omega) ?_ | refine x_sub (by rfl) (by rfl) (by rfl) (by omega) ?_ | refine x_not (by rfl) (by rfl) ?_)
  refine q_load (by rfl) (by rfl) (by rfl) (fun w' hw' => load_one OneT.h (hbd5.at hw') (by rfl)) ?_
  refine q_load (by rfl) (by rfl) (by rfl) (fun w' hw' => load_agg (xs := x.m.head.cells) AggT.h (h45.at hw') (by rfl) (by rfl)) ?_
  refine q_look (.slice none 0 0) (by rfl) (by rfl) Try.underlying83 key_hd zero_ms (by rfl) (by rfl) (fun w' hw' => hmp5.at hw') ?_
  rw [hlk]
  repeat (first | refine x_move (by rfl) ?_ | refine x_as (by rfl) (by rfl) ?_ | refine x_skip (by rfl) ?_ | refine x_fld (by rfl) (by rfl) FldO.h ?_ | refine x_nilck (by rfl) (by rfl) ?_ | refine x_len (by rfl) (by rfl) ElOf.some ?_ | refine x_ext (by rfl) (by rfl) (by rfl) ?_ | refine x_pickT (by rfl) (by rfl) (by rfl) ?_ | refine x_pickF (by rfl) (by rfl) (by rfl) ?_ | refine x_add (by rfl) (by rfl) (by rfl) (by omega) ?_ | refine x_sub (by rfl) (by rfl) (by rfl) (by omega) ?_ | refine x_not (by rfl) (by rfl) ?_)
  refine x_fix (by rfl) (by rfl) (by rfl) fun w6 u6 => ?_
  rw [hea, hec]
  refine w_call (by rfl) (by rfl) (by rfl) (delete_one (hg5.at u6) rfl hi hc1 hc2 hc3) ?_
  rintro _ w7 ⟨rfl, own7, u7⟩
  repeat (first | refine x_move (by rfl) ?_ | refine x_as (by rfl) (by rfl) ?_ | refine x_skip (by rfl) ?_ | refine x_fld (by rfl) (by rfl) FldO.h ?_ | refine x_nilck (by rfl) (by rfl) ?_ | refine x_len (by rfl) (by rfl) ElOf.some ?_ | refine x_ext (by rfl) (by rfl) (by rfl) ?_ | refine x_pickT (by rfl) (by rfl) (by rfl) ?_ | refine x_pickF (by rfl) (by rfl) (by rfl) ?_ | refine x_add (by rfl) (by rfl) (by rfl) (by omega) ?_ | refine x_sub (by rfl) (by rfl) (by rfl) (by omega) ?_ | refine x_not (by rfl) (by rfl) ?_)
  refine x_nilw ?_
  have hgl : g < w.heap.size := hg.lt
  have hrl : r < w.heap.size := hk.mp.lt
  have hgr : r ≠ g := fun h => hrk (by rw [h]; exact hgk)
  have u06 := u05.trans u6
  have hbdg : bd ≠ g := blk_ne hbd hg (by decide)
  have hbd7 := (hbd.at u06).get u7 hbdg
  have hmp7 := (hk.mp.at u06).get u7 hgr
  have h47 := ((h45.at u6).get u7 (by omega))
  have u07 : Upd (fun b => b = r ∨ kfoot (A ++ e :: B) b) w w7 := (u06.of _).trans' u7 fun b _ h => .inr (by have h' : b = g := h; rw [h']; exact hgk)
  have hfl : ∀ f, f ∈ A ∨ f ∈ B → f ∈ A ++ e :: B := fun f hf => by
    rcases hf with hf | hf <;> simp [hf]
  obtain ⟨pA, pB, pAB⟩ := List.pairwise_append.1 hk.blk
  obtain ⟨peB, pB2⟩ := List.pairwise_cons.1 pB
  have hgo : ∀ f, f ∈ A ∨ f ∈ B → ¬isIn f.sl g := fun f hf h2 => by
    rcases hf with hf | hf
    · exact pAB f hf e (by simp) g h2 (by rw [hsl]; rfl)
    · exact peB f hf g (by rw [hsl]; rfl) h2
  have hother : ∀ {w' : World}, Upd (fun b => b = r) w7 w' → ∀ f, f ∈ A ∨ f ∈ B → Own w' 29 4 f.sl f.ms.length (fl Mt.cells f.ms) := fun {w'} u' f hf =>
    (((hk.own f (hfl f hf)).at u06).get u7 fun b hb h => hgo f hf (by have h' : b = g := h; rw [← h']; exact hb)).get u' fun b hb h => hrk ⟨f, hfl f hf, by have h' : b = r := h; rw [← h']; exact hb⟩
  have hpe : (e.ms.eraseIdx i ++ [x.m]).Perm e.ms := by
    rw [← hit, List.eraseIdx_eq_take_drop_succ]
    conv => rhs; rw [← List.take_append_drop i e.ms, List.drop_eq_getElem_cons hi]
    rw [List.append_assoc]
    exact List.Perm.append_left _ List.perm_append_comm
  have hperm : ((A.flatMap KE.ms) ++ (e.ms.eraseIdx i) ++ (B.flatMap KE.ms)).Perm (S.map Wt.m) := by
    have h1 := hk.perm
    simp only [List.flatMap_append, List.flatMap_cons, List.map_cons] at h1
    have h2 : (x.m :: ((A.flatMap KE.ms) ++ (e.ms.eraseIdx i) ++ (B.flatMap KE.ms))).Perm (A.flatMap KE.ms ++ (e.ms ++ B.flatMap KE.ms)) := by
      rw [List.append_assoc]
      refine List.Perm.trans (List.perm_middle.symm : (x.m :: (A.flatMap KE.ms ++ (e.ms.eraseIdx i ++ B.flatMap KE.ms))).Perm _) ?_
      refine List.Perm.append_left _ ?_
      refine List.Perm.trans ?_ (hpe.append_right (B.flatMap KE.ms))
      rw [List.append_assoc]
      exact (List.perm_middle (l₁ := e.ms.eraseIdx i)).symm
    exact (h2.trans h1).cons_inv
  have hle : (e.ms.eraseIdx i).length = e.ms.length - 1 := List.length_eraseIdx_of_lt hi
  refine swp_fit [(0, .pointer (some ⟨bd, 0, none⟩)), (4, .pointer (some ⟨b4, 0, none⟩)), (6, .slice (some ⟨g, 0, none⟩) (e.ms.length - 1) cap)] ⟨rfl, rfl, rfl, trivial⟩ fun ρ => ?_
  (repeat (first | refine swp_seq ?_ | refine swp_block ?_)); refine swp_region (by kernel_rfl) ?_
  repeat (first | refine x_move (by rfl) ?_ | refine x_as (by rfl) (by rfl) ?_ | refine x_skip (by rfl) ?_ | refine x_fld (by rfl) (by rfl) FldO.h ?_ | refine x_nilck (by rfl) (by rfl) ?_ | refine x_len (by rfl) (by rfl) ElOf.some ?_ | refine x_ext (by rfl) (by rfl) (by rfl) ?_ | refine x_pickT (by rfl) (by rfl) (by rfl) ?_ | refine x_pickF (by rfl) (by rfl) (by rfl) ?_ | refine x_add (by rfl) (by rfl) (by rfl) (by omega) ?_ | refine x_sub (by rfl) (by rfl) (by rfl) (by omega) ?_ | refine x_not (by rfl) (by rfl) ?_)
  refine x_eql (by rfl) (by rfl) (by rfl) ?_
  refine x_nilw ?_
  (repeat (first | refine swp_seq ?_ | refine swp_block ?_))
  obtain ⟨nA, nB, nAB⟩ := List.pairwise_append.1 hk.ne
  obtain ⟨neB, nB2⟩ := List.pairwise_cons.1 nB
  obtain ⟨bA, bB, bAB⟩ := List.pairwise_append.1 hk.bornNe
  obtain ⟨beB, bB2⟩ := List.pairwise_cons.1 bB
  rw [htr] at hmp7
  refine swp_if (by rfl) (fun h0 => ?_) (fun h0 => swp_skip ?_)
  · (repeat (first | refine swp_seq ?_ | refine swp_block ?_)); refine swp_draw (Ext w7) [] Mixed.h (by kernel_rfl) (by kernel_rfl) (ext_drew w7) ?_
    repeat (first | refine x_move (by rfl) ?_ | refine x_as (by rfl) (by rfl) ?_ | refine x_skip (by rfl) ?_ | refine x_fld (by rfl) (by rfl) FldO.h ?_ | refine x_nilck (by rfl) (by rfl) ?_ | refine x_len (by rfl) (by rfl) ElOf.some ?_ | refine x_ext (by rfl) (by rfl) (by rfl) ?_ | refine x_pickT (by rfl) (by rfl) (by rfl) ?_ | refine x_pickF (by rfl) (by rfl) (by rfl) ?_ | refine x_add (by rfl) (by rfl) (by rfl) (by omega) ?_ | refine x_sub (by rfl) (by rfl) (by rfl) (by omega) ?_ | refine x_not (by rfl) (by rfl) ?_)
    refine q_load (by rfl) (by rfl) (by rfl) (fun w' hw' => load_one OneT.h (hbd7.at hw') (by rfl)) ?_
    refine q_load (by rfl) (by rfl) (by rfl) (fun w' hw' => load_agg (xs := x.m.head.cells) AggT.h (h47.at hw') (by rfl) (by rfl)) ?_
    refine x_fix (by rfl) (by rfl) (by rfl) fun w8 u8 => ?_
    refine w_delete (by rfl) (by rfl) Try.underlying83 key_hd (by rfl) (by rfl) (hmp7.at u8) ?_
    intro w9 u9 hm9
    refine x_nilw ?_
    refine swp_ret ?_; (repeat (first | with_reducible refine r_then ?_ | with_reducible refine r_block ?_ | with_reducible refine r_jump ?_))
    have hl := look_mid (key := x.m.head) (v := e.sl) (c := e.born) (B := B.map KE.tr) (A.map KE.tr) 0 (tr_ne heA)
    rw [hl] at hm9
    have herase : (A.map KE.tr ++ (x.m.head, e.sl, e.born) :: B.map KE.tr).eraseIdx (((some (0 + (A.map KE.tr).length, e.sl)).map (·.1)).getD (A.map KE.tr ++ (x.m.head, e.sl, e.born) :: B.map KE.tr).length) = (A ++ B).map KE.tr := by
      simp only [Option.map_some, Option.getD_some, Nat.zero_add]
      rw [List.eraseIdx_append_of_length_le (Nat.le_refl _), Nat.sub_self, List.map_append]
      rfl
    rw [herase] at hm9
    have hem0 : e.ms.eraseIdx i = [] := List.eq_nil_of_length_eq_zero (by omega)
    rw [hem0, List.append_nil] at hperm
    have hmA : ∀ f, f ∈ A ++ B → f ∈ A ∨ f ∈ B := fun f hf => List.mem_append.1 hf
    have u79 : Upd (fun b => b = r) w7 w9 := (u8.of _).trans u9
    refine post0 rfl ⟨_, rfl, rfl, A ++ B, ⟨hm9, fun f hf => hother u79 f (hmA f hf), ?_, fun f hf => hk.born f (hfl f (hmA f hf)), ?_, fun f hf m hm => hk.head f (hfl f (hmA f hf)) m hm, fun f hf => hk.full f (hfl f (hmA f hf)), ?_, ?_⟩, u07.trans' u79 fun b _ h => .inl h, fun b ⟨f, hf, h2⟩ => ⟨f, hfl f (hmA f hf), h2⟩⟩
    · exact List.pairwise_append.2 ⟨nA, nB2, fun f hf g hg => nAB f hf g (by simp [hg])⟩
    · exact List.pairwise_append.2 ⟨bA, bB2, fun f hf g hg => bAB f hf g (by simp [hg])⟩
    · exact List.pairwise_append.2 ⟨pA, pB2, fun f hf g hg => pAB f hf g (by simp [hg])⟩
    · rw [List.flatMap_append]; exact hperm
  · (repeat (first | refine swp_seq ?_ | refine swp_block ?_)); refine swp_draw (Ext w7) [] Mixed.h (by kernel_rfl) (by kernel_rfl) (ext_drew w7) ?_
    repeat (first | refine x_move (by rfl) ?_ | refine x_as (by rfl) (by rfl) ?_ | refine x_skip (by rfl) ?_ | refine x_fld (by rfl) (by rfl) FldO.h ?_ | refine x_nilck (by rfl) (by rfl) ?_ | refine x_len (by rfl) (by rfl) ElOf.some ?_ | refine x_ext (by rfl) (by rfl) (by rfl) ?_ | refine x_pickT (by rfl) (by rfl) (by rfl) ?_ | refine x_pickF (by rfl) (by rfl) (by rfl) ?_ | refine x_add (by rfl) (by rfl) (by rfl) (by omega) ?_ | refine x_sub (by rfl) (by rfl) (by rfl) (by omega) ?_ | refine x_not (by rfl) (by rfl) ?_)
    refine q_load (by rfl) (by rfl) (by rfl) (fun w' hw' => load_one OneT.h (hbd7.at hw') (by rfl)) ?_
    refine q_load (by rfl) (by rfl) (by rfl) (fun w' hw' => load_agg (xs := x.m.head.cells) AggT.h (h47.at hw') (by rfl) (by rfl)) ?_
    repeat (first | refine x_move (by rfl) ?_ | refine x_as (by rfl) (by rfl) ?_ | refine x_skip (by rfl) ?_ | refine x_fld (by rfl) (by rfl) FldO.h ?_ | refine x_nilck (by rfl) (by rfl) ?_ | refine x_len (by rfl) (by rfl) ElOf.some ?_ | refine x_ext (by rfl) (by rfl) (by rfl) ?_ | refine x_pickT (by rfl) (by rfl) (by rfl) ?_ | refine x_pickF (by rfl) (by rfl) (by rfl) ?_ | refine x_add (by rfl) (by rfl) (by rfl) (by omega) ?_ | refine x_sub (by rfl) (by rfl) (by rfl) (by omega) ?_ | refine x_not (by rfl) (by rfl) ?_)
    refine x_fix (by rfl) (by rfl) (by rfl) fun w8 u8 => ?_
    refine w_updateE (by rfl) (by rfl) Try.underlying83 key_hd hd_bits (by rfl) (by rfl) (by rfl) (hmp7.at u8) (tr_ne heA) ?_
    intro w9 u9 hm9
    refine x_nilw ?_
    (repeat (first | with_reducible refine n_then ?_ | with_reducible refine n_block ?_ | with_reducible refine n_jump ?_))
    have u79 : Upd (fun b => b = r) w7 w9 := (u8.of _).trans u9
    obtain ⟨e', he'⟩ : ∃ e' : KE, e' = ⟨e.h, some ⟨g, 0, none⟩, cap, e.ms.eraseIdx i, e.born⟩ := ⟨_, rfl⟩
    have hsl' : e'.sl = .slice (some ⟨g, 0, none⟩) (e.ms.length - 1) cap := by rw [he', KE.sl]; simp [hle]
    have hh' : e'.h = e.h := by rw [he']
    have hb' : e'.born = e.born := by rw [he']
    have hms' : e'.ms = e.ms.eraseIdx i := by rw [he']
    have hkk : ∀ f, f ∈ A ++ e' :: B → f = e' ∨ (f ∈ A ∨ f ∈ B) := fun f hf => by
      rcases List.mem_append.1 hf with h | h
      · exact .inr (.inl h)
      · rcases List.mem_cons.1 h with h | h
        · exact .inl h
        · exact .inr (.inr h)
    have hsle : ∀ b, isIn e'.sl b → b = g := fun b hb => by rw [hsl'] at hb; exact hb
    refine post0n rfl ⟨_, rfl, rfl, A ++ e' :: B, ⟨?_, fun f hf => ?_, ?_, fun f hf => ?_, ?_, fun f hf m hm => ?_, fun f hf => ?_, ?_, ?_⟩, u07.trans' u79 fun b _ h => .inl h, fun b ⟨f, hf, h2⟩ => ?_⟩
    · rw [List.map_append, List.map_cons]
      have : e'.tr = (x.m.head, .slice (some ⟨g, 0, none⟩) (e.ms.length - 1) cap, e.born) := by rw [KE.tr, hsl', hh', hb', heh]
      rw [this]
      exact hm9
    · rcases hkk f hf with rfl | hf
      · rw [hsl', hms', hle]
        exact own7.get u79 fun b hb h => hgr (by have h1 : b = g := hb; have h2 : b = r := h; rw [← h1, ← h2])
      · exact hother u79 f hf
    · rw [List.pairwise_append, List.pairwise_cons]
      exact ⟨nA, ⟨fun f hf => by rw [hh']; exact neB f hf, nB2⟩, fun f hf g hg => by
        rcases List.mem_cons.1 hg with rfl | hg
        · rw [hh']; exact nAB f hf e (by simp)
        · exact nAB f hf g (by simp [hg])⟩
    · rcases hkk f hf with rfl | hf
      · rw [hb']; exact hk.born e heL
      · exact hk.born f (hfl f hf)
    · rw [List.pairwise_append, List.pairwise_cons]
      exact ⟨bA, ⟨fun f hf => by rw [hb']; exact beB f hf, bB2⟩, fun f hf g hg => by
        rcases List.mem_cons.1 hg with rfl | hg
        · rw [hb']; exact bAB f hf e (by simp)
        · exact bAB f hf g (by simp [hg])⟩
    · rcases hkk f hf with rfl | hf
      · rw [hms'] at hm
        rw [hh']
        exact hk.head e heL m (List.mem_of_mem_eraseIdx hm)
      · exact hk.head f (hfl f hf) m hm
    · rcases hkk f hf with rfl | hf
      · rw [hms']
        intro h
        have := congrArg List.length h
        rw [hle] at this
        simp at this
        omega
      · exact hk.full f (hfl f hf)
    · rw [List.pairwise_append, List.pairwise_cons]
      exact ⟨pA, ⟨fun f hf b hb hb2 => hgo f (.inr hf) (by rw [← hsle b hb]; exact hb2), pB2⟩, fun f hf g' hg' b hb hb2 => by
        rcases List.mem_cons.1 hg' with rfl | hg'
        · exact hgo f (.inl hf) (by rw [← hsle b hb2]; exact hb)
        · exact pAB f hf g' (by simp [hg']) b hb hb2⟩
    · simp only [List.flatMap_append, List.flatMap_cons, hms']
      rw [← List.append_assoc]
      exact hperm
    · rcases hkk f hf with rfl | hf
      · rw [hsle b h2]; exact hgk
      · exact ⟨f, hfl f hf, h2⟩
end Go.Proofs.Ytpnigekkbmanlaa
