/- The document's Merge: the same, thing by thing put where it belongs. Conditions: what is read; room. -/
import Derived.Test.YtpnigekkbmanlaaDm
import Derived.Test.YtpnigekkbmanlaaRb
import Derived.Test.YtpnigekkbmanlaaTw
namespace Go.Proofs.Ytpnigekkbmanlaa
open Sx Hp
theorem e_pass {Q : Exit → Fr → World → Prop} {σ : Fr} {w : World} {id i : Nat} (hne : i ≠ id) (h : Q (.exit i) σ w) : sblock id Q (.exit i) σ w := by simpa [sblock, hne] using h

/-- none behind one that it is before -/
def Srt {α : Type} (lt : α → α → Bool) (l : List α) : Prop := l.Pairwise fun a b => lt b a = false
theorem put_at {α : Type} {lt : α → α → Bool} {y : α} {B : List α} (hB : ∀ b, B.head? = some b → lt y b = true) : ∀ A : List α, (∀ a ∈ A, lt y a = false) → put lt (A ++ B) y = A ++ y :: B
  | [], _ => by
    cases B with
    | nil => rfl
    | cons b B => simp [put, hB b rfl]
  | a :: A, h => by
    simp only [List.cons_append, put, h a (by simp)]
    rw [put_at hB A fun z hz => h z (by simp [hz])]
    simp
theorem srt_put {α : Type} {lt : α → α → Bool} (ho : Ord lt) {y : α} : ∀ {l : List α}, Srt lt l → Srt lt (put lt l y)
  | [], _ => List.pairwise_singleton _ _
  | z :: l, h => by
    obtain ⟨h1, h2⟩ := List.pairwise_cons.1 h
    unfold put
    split
    · rename_i hyz
      refine List.pairwise_cons.2 ⟨fun a ha => ?_, h⟩
      rcases List.mem_cons.1 ha with ha | ha
      · subst ha; exact ho.asymm hyz
      · exact ho.ev a z y (h1 a ha) (ho.asymm hyz)
    · rename_i hyz
      refine List.pairwise_cons.2 ⟨fun a ha => ?_, srt_put ho h2⟩
      rcases mem_put' ha with ha | ha
      · subst ha; simpa using hyz
      · exact h1 a ha
/-- y laid at the place p -/
def ins {α : Type} (L : List α) (p : Nat) (y : α) : List α := L.take p ++ y :: L.drop p
theorem ins_put {α : Type} {lt : α → α → Bool} (ho : Ord lt) {L : List α} {p : Nat} {y : α} (hs : Srt lt L) (h1 : ∀ z ∈ L.drop p, lt y z = true) (h2 : p = 0 ∨ ∃ z, L[p - 1]? = some z ∧ lt y z = false) (hp : p ≤ L.length) : put lt L y = ins L p y := by
  have h3 : ∀ a ∈ L.take p, lt y a = false := fun a ha => by
    rcases h2 with rfl | ⟨z, hz, hyz⟩
    · simp at ha
    · obtain ⟨i, hi, rfl⟩ := List.getElem_of_mem ha
      rw [List.length_take] at hi
      rw [List.getElem_take]
      obtain ⟨hz1, rfl⟩ := List.getElem?_eq_some_iff.1 hz
      rcases Nat.lt_or_ge i (p - 1) with hlt | hge
      · exact ho.ev _ _ _ hyz (List.pairwise_iff_getElem.1 hs i (p - 1) (by omega) hz1 hlt)
      · have : i = p - 1 := by omega
        subst this
        exact hyz
  conv => lhs; rw [← List.take_append_drop p L]
  exact put_at (fun b hb => h1 b (List.mem_of_mem_head? hb)) _ h3
theorem ins_len {α : Type} (L : List α) (p : Nat) (y : α) : (ins L p y).length = L.length + 1 := by simp [ins]; omega
theorem ins_end {α : Type} (L : List α) (y : α) : ins L L.length y = L ++ [y] := by simp [ins]
theorem ins_perm {α : Type} (L : List α) (p : Nat) (y : α) : (ins L p y).Perm (L ++ [y]) := by
  unfold ins
  conv => rhs; rw [← List.take_append_drop p L, List.append_assoc]
  exact List.Perm.append_left _ (List.perm_append_comm (l₁ := [y]))
theorem ins_get {α : Type} {L : List α} {p : Nat} {y : α} (hp : p ≤ L.length) : (ins L p y)[p]? = some y := by
  unfold ins
  rw [List.getElem?_append_right (by rw [List.length_take]; omega), List.length_take, Nat.min_eq_left hp, Nat.sub_self]
  rfl
theorem ins_get_lt {α : Type} {L : List α} {p q : Nat} {y : α} (hq : q < p) (hp : p ≤ L.length) : (ins L p y)[q]? = L[q]? := by
  unfold ins
  rw [List.getElem?_append_left (by rw [List.length_take]; omega), List.getElem?_take, if_pos hq]
theorem ins_step {α : Type} {L : List α} {p : Nat} {y z : α} (hp : 0 < p) (hpl : p ≤ L.length) (hz : L[p - 1]? = some z) : ((ins L p y).set p z).set (p - 1) y = ins L (p - 1) y := by
  obtain ⟨q, rfl⟩ : ∃ q, p = q + 1 := ⟨p - 1, by omega⟩
  rw [Nat.add_sub_cancel] at hz ⊢
  have hz1 := (List.getElem?_eq_some_iff.1 hz).1
  have e1 : L.take (q + 1) = L.take q ++ [z] := take_succ' hz
  have e2 : L.drop q = z :: L.drop (q + 1) := drop_cons' hz
  unfold ins
  rw [e1, e2]
  have hl : (L.take q).length = q := by rw [List.length_take]; omega
  rw [List.append_assoc, List.set_append_right _ _ (by omega), hl, List.set_append_right _ _ (by omega), hl]
  simp

theorem Outs.perm {w0 w w' : World} {v : Value} {out out' : List Mt} (h : Outs w0 w v out) (hp : out'.Perm out) (ho : Own w' 29 4 v out'.length (fl Mt.cells out')) (u : Upd (isIn v) w w') : Outs w0 w' v out' :=
  ⟨ho, fun y hy => (h.each y (hp.mem_iff.1 hy)).get u fun b hb => h.ap y (hp.mem_iff.1 hy) b hb, h.new, fun y hy => h.newE y (hp.mem_iff.1 hy), fun y hy => h.ap y (hp.mem_iff.1 hy), h.pw.perm hp.symm fun h b hb hb' => h b hb' hb⟩

set_option maxHeartbeats 4000000 in
set_option maxRecDepth 100000 in
theorem ref_merge {w : World} {a0 : Option Addr} {c0 : Nat} {rows : List Ml} (hrd : Rd w 1 (.slice a0 rows.length c0) rows.length (fl Ml.cells rows)) (hR : ∀ r ∈ rows, r.Rdy w) (hl : rows.length ≤ 2305843009213693951) (hr : Room (allMs rows).length 80) :
    Gets Try.prog 12 [.slice a0 rows.length c0] w fun v w' => ∃ out, Outs w w' v out ∧ out.map Mt.says = merged rows ∧ Ext w w' := by
  have hcap := hr.1
  refine ⟨GoFn.h, calls_of_swp 64 Try.func12 Try.ntmps12 rfl (Nat.le_of_ble_eq_true rfl) ?_⟩
  (repeat (first | refine swp_seq ?_ | refine swp_block ?_)); refine swp_region (by kernel_rfl) ?_
  repeat (first | refine x_move (by rfl) ?_ | refine x_as (by rfl) (by rfl) ?_ | refine x_skip (by rfl) ?_ | refine x_fld (by rfl) (by rfl) FldO.h ?_ | refine x_nilck (by rfl) (by rfl) ?_ | refine x_len (by rfl) (by rfl) ElOf.some ?_ | refine x_ext (by rfl) (by rfl) (by rfl) ?_ | refine x_pickT (by rfl) (by rfl) (by rfl) ?_ | refine x_pickF (by rfl) (by rfl) (by rfl) ?_ | refine x_add (by rfl) (by rfl) (by rfl) (by omega) ?_ | refine x_sub (by rfl) (by rfl) (by rfl) (by omega) ?_ | refine x_not (by rfl) (by rfl) ?_)
  refine x_nilw ?_
  (repeat (first | refine swp_seq ?_ | refine swp_block ?_)); refine swp_region (by kernel_rfl) ?_
  repeat (first | refine x_move (by rfl) ?_ | refine x_as (by rfl) (by rfl) ?_ | refine x_skip (by rfl) ?_ | refine x_fld (by rfl) (by rfl) FldO.h ?_ | refine x_nilck (by rfl) (by rfl) ?_ | refine x_len (by rfl) (by rfl) ElOf.some ?_ | refine x_ext (by rfl) (by rfl) (by rfl) ?_ | refine x_pickT (by rfl) (by rfl) (by rfl) ?_ | refine x_pickF (by rfl) (by rfl) (by rfl) ?_ | refine x_add (by rfl) (by rfl) (by rfl) (by omega) ?_ | refine x_sub (by rfl) (by rfl) (by rfl) (by omega) ?_ | refine x_not (by rfl) (by rfl) ?_)
  refine x_nilw ?_
  (repeat (first | refine swp_seq ?_ | refine swp_block ?_)); refine swp_region (by kernel_rfl) ?_
  repeat (first | refine x_move (by rfl) ?_ | refine x_as (by rfl) (by rfl) ?_ | refine x_skip (by rfl) ?_ | refine x_fld (by rfl) (by rfl) FldO.h ?_ | refine x_nilck (by rfl) (by rfl) ?_ | refine x_len (by rfl) (by rfl) ElOf.some ?_ | refine x_ext (by rfl) (by rfl) (by rfl) ?_ | refine x_pickT (by rfl) (by rfl) (by rfl) ?_ | refine x_pickF (by rfl) (by rfl) (by rfl) ?_ | refine x_add (by rfl) (by rfl) (by rfl) (by omega) ?_ | refine x_sub (by rfl) (by rfl) (by rfl) (by omega) ?_ | refine x_not (by rfl) (by rfl) ?_)
  refine x_nilw ?_
  refine swp_fit [(0, .slice a0 rows.length c0), (3, .slice none 0 0), (4, .int .i64 ((0 : Nat) : Int))] ⟨rfl, rfl, rfl, trivial⟩ fun ρ => ?_
  (repeat (first | refine swp_seq ?_ | refine swp_block ?_))
  refine swp_loop (fun (i : Nat) σ w3 => ∃ so out, At σ [(0, .slice a0 rows.length c0), (3, so), (4, .int .i64 (i : Nat))] ∧ i ≤ rows.length ∧ Outs w w3 so out ∧ Srt mlt out ∧ out.map Mt.says = ((allMs (rows.take i)).map Mt.says).foldl (put slt) [] ∧ out.length = (allMs (rows.take i)).length ∧ Ext w w3) (fun i => rows.length - i) 0 ⟨.slice none 0 0, [], at_ ⟨rfl, rfl, rfl, trivial⟩, by omega, Outs.nil _ _, List.Pairwise.nil, rfl, rfl, Upd.refl _ _⟩ ?_
  rintro i σ w3 ⟨so, out, ⟨ρ, rfl⟩, hi, hO, hS, hsay, hlo, u3⟩
  have g3 := hrd.at u3
  (repeat (first | refine swp_seq ?_ | refine swp_block ?_)); refine swp_region (by kernel_rfl) ?_
  repeat (first | refine x_move (by rfl) ?_ | refine x_as (by rfl) (by rfl) ?_ | refine x_skip (by rfl) ?_ | refine x_fld (by rfl) (by rfl) FldO.h ?_ | refine w_load (by rfl) (by rfl) (load_one OneT.h (by assumption) (by rfl)) ?_ | refine x_nilck (by rfl) (by rfl) ?_ | refine x_len (by rfl) (by rfl) ElOf.some ?_ | refine x_iface (by rfl) (by rfl) NIf.h ?_ | refine x_ext (by rfl) (by rfl) (by rfl) ?_ | refine x_pickT (by rfl) (by rfl) (by rfl) ?_ | refine x_pickF (by rfl) (by rfl) (by rfl) ?_ | refine x_add (by rfl) (by rfl) (by rfl) (by omega) ?_ | refine x_sub (by rfl) (by rfl) (by rfl) (by omega) ?_ | refine x_lss (by rfl) (by rfl) (by rfl) ?_ | refine x_geq (by rfl) (by rfl) (by rfl) ?_ | refine x_leq (by rfl) (by rfl) (by rfl) ?_ | refine x_gtr (by rfl) (by rfl) (by rfl) ?_ | refine x_eql (by rfl) (by rfl) (by rfl) ?_ | refine x_neq (by rfl) (by rfl) (by rfl) ?_ | refine x_not (by rfl) (by rfl) ?_)
  refine x_nilw ?_
  (repeat (first | refine swp_seq ?_ | refine swp_block ?_))
  refine swp_if (by rfl) (fun h0 => swp_skip ?_) (fun h0 => ?_)
  · have hi' : i < rows.length := by omega
    obtain ⟨r, hr0⟩ := nthE hi'
    obtain ⟨b1, o1, d1, he1, -, -⟩ := hrd.pos (by omega)
    simp only [Value.slice.injEq] at he1
    obtain ⟨rfl, _, rfl⟩ := he1
    have rR := hR r (List.mem_of_getElem? hr0)
    have hfl := flat_len hr0
    (repeat (first | with_reducible refine n_then ?_ | with_reducible refine n_block ?_ | with_reducible refine n_jump ?_))
    (repeat (first | refine swp_seq ?_ | refine swp_block ?_)); refine swp_region (by kernel_rfl) ?_
    repeat (first | refine x_move (by rfl) ?_ | refine x_as (by rfl) (by rfl) ?_ | refine x_skip (by rfl) ?_ | refine x_fld (by rfl) (by rfl) FldO.h ?_ | refine x_nilck (by rfl) (by rfl) ?_ | refine x_len (by rfl) (by rfl) ElOf.some ?_ | refine x_ext (by rfl) (by rfl) (by rfl) ?_ | refine x_pickT (by rfl) (by rfl) (by rfl) ?_ | refine x_pickF (by rfl) (by rfl) (by rfl) ?_ | refine x_add (by rfl) (by rfl) (by rfl) (by omega) ?_ | refine x_sub (by rfl) (by rfl) (by rfl) (by omega) ?_ | refine x_not (by rfl) (by rfl) ?_)
    refine x_nilw ?_
    refine swp_fit [(0, .slice (some ⟨b1, o1, none⟩) rows.length c0), (3, so), (4, .int .i64 (i : Nat)), (5, .int .i64 ((0 : Nat) : Int))] ⟨rfl, rfl, rfl, rfl, trivial⟩ fun ρ => ?_
    (repeat (first | refine swp_seq ?_ | refine swp_block ?_))
    refine swp_loop (fun (j : Nat) σ w4 => ∃ so out, At σ [(0, .slice (some ⟨b1, o1, none⟩) rows.length c0), (3, so), (4, .int .i64 (i : Nat)), (5, .int .i64 (j : Nat))] ∧ j ≤ r.ms.length ∧ Outs w w4 so out ∧ Srt mlt out ∧ out.map Mt.says = ((allMs (rows.take i) ++ r.ms.take j).map Mt.says).foldl (put slt) [] ∧ out.length = (allMs (rows.take i)).length + j ∧ Ext w w4) (fun j => r.ms.length - j) 0 ⟨so, out, at_ ⟨rfl, rfl, rfl, rfl, trivial⟩, by omega, hO, hS, by simpa using hsay, by omega, u3⟩ ?_
    clear hO hS hsay hlo g3
    rintro j σ w4 ⟨so, out, ⟨ρ, rfl⟩, hj, hO, hS, hsay, hlo, u4⟩
    have g4 := hrd.at u4
    (repeat (first | refine swp_seq ?_ | refine swp_block ?_)); refine swp_region (by kernel_rfl) ?_
    repeat (first | refine x_move (by rfl) ?_ | refine x_as (by rfl) (by rfl) ?_ | refine x_skip (by rfl) ?_ | refine x_fld (by rfl) (by rfl) FldO.h ?_ | refine x_nilck (by rfl) (by rfl) ?_ | refine x_len (by rfl) (by rfl) ElOf.some ?_ | refine x_ext (by rfl) (by rfl) (by rfl) ?_ | refine x_pickT (by rfl) (by rfl) (by rfl) ?_ | refine x_pickF (by rfl) (by rfl) (by rfl) ?_ | refine x_add (by rfl) (by rfl) (by rfl) (by omega) ?_ | refine x_sub (by rfl) (by rfl) (by rfl) (by omega) ?_ | refine x_not (by rfl) (by rfl) ?_)
    refine x_idx i (by rfl) (by rfl) (by rfl) ElSz.h rfl hi' ?_
    refine w_load (by rfl) (by rfl) (load_one_cell OneT.h (rd_cell (v := .slice r.a r.ms.length r.c) (j := 0) ml_len g4 hr0 rfl rfl rfl)) ?_
    repeat (first | refine x_move (by rfl) ?_ | refine x_as (by rfl) (by rfl) ?_ | refine x_skip (by rfl) ?_ | refine x_fld (by rfl) (by rfl) FldO.h ?_ | refine w_load (by rfl) (by rfl) (load_one OneT.h (by assumption) (by rfl)) ?_ | refine x_nilck (by rfl) (by rfl) ?_ | refine x_len (by rfl) (by rfl) ElOf.some ?_ | refine x_iface (by rfl) (by rfl) NIf.h ?_ | refine x_ext (by rfl) (by rfl) (by rfl) ?_ | refine x_pickT (by rfl) (by rfl) (by rfl) ?_ | refine x_pickF (by rfl) (by rfl) (by rfl) ?_ | refine x_add (by rfl) (by rfl) (by rfl) (by omega) ?_ | refine x_sub (by rfl) (by rfl) (by rfl) (by omega) ?_ | refine x_lss (by rfl) (by rfl) (by rfl) ?_ | refine x_geq (by rfl) (by rfl) (by rfl) ?_ | refine x_leq (by rfl) (by rfl) (by rfl) ?_ | refine x_gtr (by rfl) (by rfl) (by rfl) ?_ | refine x_eql (by rfl) (by rfl) (by rfl) ?_ | refine x_neq (by rfl) (by rfl) (by rfl) ?_ | refine x_not (by rfl) (by rfl) ?_)
    refine x_nilw ?_
    (repeat (first | refine swp_seq ?_ | refine swp_block ?_))
    refine swp_if (by rfl) (fun h1 => swp_skip ?_) (fun h1 => ?_)
    · have hj' : j < r.ms.length := by omega
      obtain ⟨m, hm⟩ := nthE hj'
      have rd := rR.rd
      obtain ⟨b2, o2, d2, he2, -, -⟩ := rd.pos (by omega)
      simp only [Value.slice.injEq] at he2
      obtain ⟨ea, _, rfl⟩ := he2
      rw [ea] at rd
      have hmm : m ∈ allMs rows := mem_flat hr0 (List.mem_of_getElem? hm)
      (repeat (first | with_reducible refine n_then ?_ | with_reducible refine n_block ?_ | with_reducible refine n_jump ?_))
      refine swp_fit [(0, .slice (some ⟨b1, o1, none⟩) rows.length c0), (3, so), (4, .int .i64 (i : Nat)), (5, .int .i64 (j : Nat))] ⟨rfl, rfl, rfl, rfl, trivial⟩ fun ρ => ?_
      (repeat (first | refine swp_seq ?_ | refine swp_block ?_)); refine swp_region (by kernel_rfl) ?_
      repeat (first | refine x_move (by rfl) ?_ | refine x_as (by rfl) (by rfl) ?_ | refine x_skip (by rfl) ?_ | refine x_fld (by rfl) (by rfl) FldO.h ?_ | refine x_nilck (by rfl) (by rfl) ?_ | refine x_len (by rfl) (by rfl) ElOf.some ?_ | refine x_ext (by rfl) (by rfl) (by rfl) ?_ | refine x_pickT (by rfl) (by rfl) (by rfl) ?_ | refine x_pickF (by rfl) (by rfl) (by rfl) ?_ | refine x_add (by rfl) (by rfl) (by rfl) (by omega) ?_ | refine x_sub (by rfl) (by rfl) (by rfl) (by omega) ?_ | refine x_not (by rfl) (by rfl) ?_)
      refine x_idx i (by rfl) (by rfl) (by rfl) ElSz.h rfl hi' ?_
      refine w_load (by rfl) (by rfl) (load_one_cell OneT.h (rd_cell (v := .slice r.a r.ms.length r.c) (j := 0) ml_len g4 hr0 rfl rfl rfl)) ?_
      rw [ea]
      repeat (first | refine x_move (by rfl) ?_ | refine x_as (by rfl) (by rfl) ?_ | refine x_skip (by rfl) ?_ | refine x_fld (by rfl) (by rfl) FldO.h ?_ | refine x_nilck (by rfl) (by rfl) ?_ | refine x_len (by rfl) (by rfl) ElOf.some ?_ | refine x_ext (by rfl) (by rfl) (by rfl) ?_ | refine x_pickT (by rfl) (by rfl) (by rfl) ?_ | refine x_pickF (by rfl) (by rfl) (by rfl) ?_ | refine x_add (by rfl) (by rfl) (by rfl) (by omega) ?_ | refine x_sub (by rfl) (by rfl) (by rfl) (by omega) ?_ | refine x_not (by rfl) (by rfl) ?_)
      refine x_idx j (by rfl) (by rfl) (by rfl) ElSz.h rfl hj' ?_
      refine w_load (by rfl) (by rfl) (rd_load mt_len AggT.h (rd.at u4) hm rfl rfl) ?_
      refine w_call (by rfl) (by rfl) (by rfl) (twin_match m w4 (((flat_each hR hmm).1).at u4) (flat_each hR hmm).2) ?_
      rintro _ w5 ⟨y, rfl, hc⟩
      refine w_alloc (by rfl) (by rfl) ZeroT.h ?_; intro b6 w6 e6 u6 h6
      refine w_store (xs := y.cells) (by rfl) (by rfl) (by rfl) (by rfl) SzT.h (by rfl) (by rfl) h6 (by simp) ?_
      intro w7 u7 h7 _
      refine x_nilw ?_
      replace h7 : Blk w7 b6 29 y.cells := h7
      have s4 := u4.size; have s5 := hc.ext.size; have s6 := u6.size; have s7 := u7.size
      have u57 : Ext w5 w7 := u6.trans' u7 fun b hb e => by have e' : b = b6 := e; omega
      have hc7 : Copy w4 w7 m y := ⟨hc.says, hc.own.get u57 fun _ _ h => h, hc.new, hc.ext.trans u57⟩
      have l7 := h7.lt
      have yb6 : ∀ b, y.At b → b ≠ b6 := fun b hb => by have := hc.own.lt hb; omega
      refine swp_fit [(0, .slice (some ⟨b1, o1, none⟩) rows.length c0), (3, so), (4, .int .i64 (i : Nat)), (5, .int .i64 (j : Nat)), (6, .pointer (some ⟨b6, 0, none⟩))] ⟨rfl, rfl, rfl, rfl, rfl, trivial⟩ fun ρ => ?_
      (repeat (first | refine swp_seq ?_ | refine swp_block ?_)); refine swp_region (by kernel_rfl) ?_
      repeat (first | refine x_move (by rfl) ?_ | refine x_as (by rfl) (by rfl) ?_ | refine x_skip (by rfl) ?_ | refine x_fld (by rfl) (by rfl) FldO.h ?_ | refine x_nilck (by rfl) (by rfl) ?_ | refine x_len (by rfl) (by rfl) ElOf.some ?_ | refine x_ext (by rfl) (by rfl) (by rfl) ?_ | refine x_pickT (by rfl) (by rfl) (by rfl) ?_ | refine x_pickF (by rfl) (by rfl) (by rfl) ?_ | refine x_add (by rfl) (by rfl) (by rfl) (by omega) ?_ | refine x_sub (by rfl) (by rfl) (by rfl) (by omega) ?_ | refine x_not (by rfl) (by rfl) ?_)
      refine w_load (by rfl) (by rfl) (load_agg (xs := y.cells) AggT.h h7 (by rfl) (by rfl)) ?_
      refine w_bslice (e := 29) (cs := y.cells) (by rfl) (by rfl) (by rfl) (by kernel_rfl) ?_
      intro b8 w8 e8 u8 h8
      have hc8 : Copy w4 w8 m y := ⟨hc7.says, hc7.own.get u8 fun _ _ h => h, hc7.new, hc7.ext.trans u8⟩
      refine w_append (more := []) (news := y.cells) (by rfl) (by rfl) (by rfl) (by rfl) SlC.h (hO.own.at hc8.ext) (by rw [List.append_nil]; exact h8) (mt_len _) (mt_one _) (by omega) (hr.le (by omega)) ?_
      intro so' w9 hown9 u9 hin9
      repeat (first | refine x_move (by rfl) ?_ | refine x_as (by rfl) (by rfl) ?_ | refine x_skip (by rfl) ?_ | refine x_fld (by rfl) (by rfl) FldO.h ?_ | refine x_nilck (by rfl) (by rfl) ?_ | refine x_len (by rfl) (by rfl) ElOf.some ?_ | refine x_ext (by rfl) (by rfl) (by rfl) ?_ | refine x_pickT (by rfl) (by rfl) (by rfl) ?_ | refine x_pickF (by rfl) (by rfl) (by rfl) ?_ | refine x_add (by rfl) (by rfl) (by rfl) (by omega) ?_ | refine x_sub (by rfl) (by rfl) (by rfl) (by omega) ?_ | refine x_not (by rfl) (by rfl) ?_)
      refine x_nilw ?_
      have s8 := hc8.ext.size
      have s9 := u9.size
      have hO9 := hO.push u4.size hc8 hown9 u9 hin9
      rw [← ins_end] at hO9
      have so6 : ∀ b, isIn so' b → b ≠ b6 := fun b hb => by
        rcases hin9 b hb with h | h
        · have := hO.own.lt h; omega
        · have := u8.size; omega
      have h9 := (h7.at u8).get u9 fun h => by have := hO.own.lt h; omega
      have u49 : Ext w w9 := (u4.trans hc8.ext).trans' u9 fun b hb h => by have := hO.new b h; omega
      obtain ⟨g, cap, rest, rfl, -⟩ := hown9.pos (by omega)
      refine swp_fit [(0, .slice (some ⟨b1, o1, none⟩) rows.length c0), (3, .slice (some ⟨g, 0, none⟩) (out.length + 1) cap), (4, .int .i64 (i : Nat)), (5, .int .i64 (j : Nat)), (6, .pointer (some ⟨b6, 0, none⟩))] ⟨rfl, rfl, rfl, rfl, rfl, trivial⟩ fun ρ => ?_
      (repeat (first | refine swp_seq ?_ | refine swp_block ?_)); refine swp_region (by kernel_rfl) ?_
      repeat (first | refine x_move (by rfl) ?_ | refine x_as (by rfl) (by rfl) ?_ | refine x_skip (by rfl) ?_ | refine x_fld (by rfl) (by rfl) FldO.h ?_ | refine x_nilck (by rfl) (by rfl) ?_ | refine x_len (by rfl) (by rfl) ElOf.some ?_ | refine x_ext (by rfl) (by rfl) (by rfl) ?_ | refine x_pickT (by rfl) (by rfl) (by rfl) ?_ | refine x_pickF (by rfl) (by rfl) (by rfl) ?_ | refine x_add (by rfl) (by rfl) (by rfl) (by omega) ?_ | refine x_sub (by rfl) (by rfl) (by rfl) (by omega) ?_ | refine x_not (by rfl) (by rfl) ?_)
      refine x_nilw ?_
      refine swp_fit [(0, .slice (some ⟨b1, o1, none⟩) rows.length c0), (3, .slice (some ⟨g, 0, none⟩) (out.length + 1) cap), (4, .int .i64 (i : Nat)), (5, .int .i64 (j : Nat)), (6, .pointer (some ⟨b6, 0, none⟩)), (7, .int .i64 (out.length : Nat))] ⟨rfl, rfl, rfl, rfl, rfl, by show Value.int .i64 _ = Value.int .i64 _; congr 1; omega, trivial⟩ fun ρ => ?_
      refine PEv.swp_cutQ (fun σ w' => At σ [(0, .slice (some ⟨b1, o1, none⟩) rows.length c0), (3, .slice (some ⟨g, 0, none⟩) (out.length + 1) cap), (4, .int .i64 (i : Nat)), (5, .int .i64 (j : Nat))] ∧ Outs w w' (.slice (some ⟨g, 0, none⟩) (out.length + 1) cap) (put mlt out y) ∧ Ext w w') ?_ ?_
      · (repeat (first | refine swp_seq ?_ | refine swp_block ?_))
        refine swp_loop (fun (p : Nat) σ w' => At σ [(0, .slice (some ⟨b1, o1, none⟩) rows.length c0), (3, .slice (some ⟨g, 0, none⟩) (out.length + 1) cap), (4, .int .i64 (i : Nat)), (5, .int .i64 (j : Nat)), (6, .pointer (some ⟨b6, 0, none⟩)), (7, .int .i64 (p : Nat))] ∧ p ≤ out.length ∧ (∀ z ∈ out.drop p, mlt y z = true) ∧ Outs w w' (.slice (some ⟨g, 0, none⟩) (out.length + 1) cap) (ins out p y) ∧ Blk w' b6 29 y.cells ∧ Ext w w') (fun p => p) out.length ⟨at_ ⟨rfl, rfl, rfl, rfl, rfl, rfl, trivial⟩, Nat.le_refl _, by simp, hO9, h9, u49⟩ ?_
        rintro p σ w10 ⟨⟨ρ, rfl⟩, hp, hgt, hO10, h10, u10⟩
        (repeat (first | refine swp_seq ?_ | refine swp_block ?_)); refine swp_region (by kernel_rfl) ?_
        repeat (first | refine x_move (by rfl) ?_ | refine x_as (by rfl) (by rfl) ?_ | refine x_skip (by rfl) ?_ | refine x_fld (by rfl) (by rfl) FldO.h ?_ | refine w_load (by rfl) (by rfl) (load_one OneT.h (by assumption) (by rfl)) ?_ | refine x_nilck (by rfl) (by rfl) ?_ | refine x_len (by rfl) (by rfl) ElOf.some ?_ | refine x_iface (by rfl) (by rfl) NIf.h ?_ | refine x_ext (by rfl) (by rfl) (by rfl) ?_ | refine x_pickT (by rfl) (by rfl) (by rfl) ?_ | refine x_pickF (by rfl) (by rfl) (by rfl) ?_ | refine x_add (by rfl) (by rfl) (by rfl) (by omega) ?_ | refine x_sub (by rfl) (by rfl) (by rfl) (by omega) ?_ | refine x_lss (by rfl) (by rfl) (by rfl) ?_ | refine x_geq (by rfl) (by rfl) (by rfl) ?_ | refine x_leq (by rfl) (by rfl) (by rfl) ?_ | refine x_gtr (by rfl) (by rfl) (by rfl) ?_ | refine x_eql (by rfl) (by rfl) (by rfl) ?_ | refine x_neq (by rfl) (by rfl) (by rfl) ?_ | refine x_not (by rfl) (by rfl) ?_)
        refine x_nilw ?_
        (repeat (first | refine swp_seq ?_ | refine swp_block ?_))
        refine swp_if (by rfl) (fun hp0 => swp_skip ?_) (fun hp0 => ?_)
        · have hp0' : 0 < p := by omega
          obtain ⟨z, hz⟩ := nthE (L := out) (i := p - 1) (by omega)
          have hz' : (ins out p y)[p - 1]? = some z := by rw [ins_get_lt (by omega) hp]; exact hz
          have hzm : z ∈ ins out p y := List.mem_of_getElem? hz'
          have hym : y ∈ ins out p y := List.mem_of_getElem? (ins_get hp)
          have rd10 := hO10.own.rd
          have hil : (ins out p y).length = out.length + 1 := ins_len _ _ _
          have ry := (hO10.each y hym).rdy
          have rz := (hO10.each z hzm).rdy
          rw [hil] at rd10
          (repeat (first | with_reducible refine n_then ?_ | with_reducible refine n_block ?_ | with_reducible refine n_jump ?_))
          (repeat (first | refine swp_seq ?_ | refine swp_block ?_)); refine swp_draw (Ext w10) [] Mixed.h (by kernel_rfl) (by kernel_rfl) (ext_drew w10) ?_
          repeat (first | refine x_move (by rfl) ?_ | refine x_as (by rfl) (by rfl) ?_ | refine x_skip (by rfl) ?_ | refine x_fld (by rfl) (by rfl) FldO.h ?_ | refine x_nilck (by rfl) (by rfl) ?_ | refine x_len (by rfl) (by rfl) ElOf.some ?_ | refine x_ext (by rfl) (by rfl) (by rfl) ?_ | refine x_pickT (by rfl) (by rfl) (by rfl) ?_ | refine x_pickF (by rfl) (by rfl) (by rfl) ?_ | refine x_add (by rfl) (by rfl) (by rfl) (by omega) ?_ | refine x_sub (by rfl) (by rfl) (by rfl) (by omega) ?_ | refine x_not (by rfl) (by rfl) ?_)
          refine q_load (by rfl) (by rfl) (by rfl) (fun w' hw' => load_agg (xs := y.cells) AggT.h (h10.at hw') (by rfl) (by rfl)) ?_
          repeat (first | refine x_move (by rfl) ?_ | refine x_as (by rfl) (by rfl) ?_ | refine x_skip (by rfl) ?_ | refine x_fld (by rfl) (by rfl) FldO.h ?_ | refine x_nilck (by rfl) (by rfl) ?_ | refine x_len (by rfl) (by rfl) ElOf.some ?_ | refine x_ext (by rfl) (by rfl) (by rfl) ?_ | refine x_pickT (by rfl) (by rfl) (by rfl) ?_ | refine x_pickF (by rfl) (by rfl) (by rfl) ?_ | refine x_add (by rfl) (by rfl) (by rfl) (by omega) ?_ | refine x_sub (by rfl) (by rfl) (by rfl) (by omega) ?_ | refine x_not (by rfl) (by rfl) ?_)
          refine x_idx (p - 1) (by rfl) (by rfl) (by rfl) ElSz.h (by omega) (by omega) ?_
          refine q_load (by rfl) (by rfl) (by rfl) (fun w' hw' => rd_load mt_len AggT.h (rd10.at hw') hz' (by rw [hil]) rfl) ?_
          refine q_call (v := .bool (mlt y z)) (by rfl) (by rfl) (by rfl) (fun w' hw' => (ref_match y z w' (ry.at hw') (rz.at hw')).mono fun v w'' h => ⟨h.1, hw'.trans h.2⟩) ?_
          repeat (first | refine x_move (by rfl) ?_ | refine x_as (by rfl) (by rfl) ?_ | refine x_skip (by rfl) ?_ | refine x_fld (by rfl) (by rfl) FldO.h ?_ | refine x_nilck (by rfl) (by rfl) ?_ | refine x_len (by rfl) (by rfl) ElOf.some ?_ | refine x_ext (by rfl) (by rfl) (by rfl) ?_ | refine x_pickT (by rfl) (by rfl) (by rfl) ?_ | refine x_pickF (by rfl) (by rfl) (by rfl) ?_ | refine x_add (by rfl) (by rfl) (by rfl) (by omega) ?_ | refine x_sub (by rfl) (by rfl) (by rfl) (by omega) ?_ | refine x_not (by rfl) (by rfl) ?_)
          refine x_nil fun w11 u11 => ?_
          have hO11 := hO10.get u11 fun b _ _ h => h
          have h11 := h10.at u11
          cases c : mlt y z with
          | false =>
            (repeat (first | refine swp_seq ?_ | refine swp_block ?_))
            refine swp_true (by rfl) ?_
            refine swp_exit ?_
            (repeat (first | with_reducible refine e_then ?_ | with_reducible refine e_jump ?_))
            refine e_pass (i := 4) (id := 5) (by decide) ?_
            (repeat (first | with_reducible refine e_then ?_ | with_reducible refine e_jump ?_))
            refine e_block ?_
            rw [ins_put mlt_ord hS hgt (.inr ⟨z, hz, c⟩) hp]
            exact ⟨rfl, at_ ⟨rfl, rfl, rfl, rfl, trivial⟩, hO11, u10.trans u11⟩
          | true =>
            (repeat (first | refine swp_seq ?_ | refine swp_block ?_))
            refine swp_false (by rfl) (swp_skip ?_)
            refine swp_fit [(0, .slice (some ⟨b1, o1, none⟩) rows.length c0), (3, .slice (some ⟨g, 0, none⟩) (out.length + 1) cap), (4, .int .i64 (i : Nat)), (5, .int .i64 (j : Nat)), (6, .pointer (some ⟨b6, 0, none⟩)), (7, .int .i64 (p : Nat))] ⟨rfl, rfl, rfl, rfl, rfl, rfl, trivial⟩ fun ρ => ?_
            have rd11 := hO11.own.rd
            rw [hil] at rd11
            have hown11 := hO11.own
            rw [hil] at hown11
            obtain ⟨g', cap', rest', he', hg11, hc1, hc2, hc3⟩ := hown11.pos (by omega)
            simp only [Value.slice.injEq, Option.some.injEq, Addr.mk.injEq] at he'
            obtain ⟨⟨rfl, _, _⟩, _, rfl⟩ := he'
            have hgl : (fl Mt.cells (ins out p y) ++ rest').length = (out.length + 1) * 4 + rest'.length := by rw [List.length_append, fl_length mt_len, hil]
            have hb6g : b6 ≠ g := fun h => so6 g rfl h.symm
            (repeat (first | refine swp_seq ?_ | refine swp_block ?_)); refine swp_region (by kernel_rfl) ?_
            repeat (first | refine x_move (by rfl) ?_ | refine x_as (by rfl) (by rfl) ?_ | refine x_skip (by rfl) ?_ | refine x_fld (by rfl) (by rfl) FldO.h ?_ | refine x_nilck (by rfl) (by rfl) ?_ | refine x_len (by rfl) (by rfl) ElOf.some ?_ | refine x_ext (by rfl) (by rfl) (by rfl) ?_ | refine x_pickT (by rfl) (by rfl) (by rfl) ?_ | refine x_pickF (by rfl) (by rfl) (by rfl) ?_ | refine x_add (by rfl) (by rfl) (by rfl) (by omega) ?_ | refine x_sub (by rfl) (by rfl) (by rfl) (by omega) ?_ | refine x_not (by rfl) (by rfl) ?_)
            refine x_idx (p - 1) (by rfl) (by rfl) (by rfl) ElSz.h (by omega) (by omega) ?_
            refine w_load (by rfl) (by rfl) (rd_load mt_len AggT.h rd11 hz' (by rw [hil]) rfl) ?_
            refine x_idx p (by rfl) (by rfl) (by rfl) ElSz.h rfl (by omega) ?_
            refine w_store (xs := z.cells) (by rfl) (by rfl) (by rfl) (by rfl) SzT.h (by rfl) (mt_one _) hg11 (by rw [hgl]; omega) ?_
            intro w12 u12 hg12 _
            rw [fl_set (i := p) mt_len (by rw [hil]; omega) (by omega)] at hg12
            refine x_nilw ?_
            have h12 := h11.get u12 hb6g
            (repeat (first | refine swp_seq ?_ | refine swp_block ?_)); refine swp_region (by kernel_rfl) ?_
            repeat (first | refine x_move (by rfl) ?_ | refine x_as (by rfl) (by rfl) ?_ | refine x_skip (by rfl) ?_ | refine x_fld (by rfl) (by rfl) FldO.h ?_ | refine x_nilck (by rfl) (by rfl) ?_ | refine x_len (by rfl) (by rfl) ElOf.some ?_ | refine x_ext (by rfl) (by rfl) (by rfl) ?_ | refine x_pickT (by rfl) (by rfl) (by rfl) ?_ | refine x_pickF (by rfl) (by rfl) (by rfl) ?_ | refine x_add (by rfl) (by rfl) (by rfl) (by omega) ?_ | refine x_sub (by rfl) (by rfl) (by rfl) (by omega) ?_ | refine x_not (by rfl) (by rfl) ?_)
            refine w_load (by rfl) (by rfl) (load_agg (xs := y.cells) AggT.h h12 (by rfl) (by rfl)) ?_
            refine x_idx (p - 1) (by rfl) (by rfl) (by rfl) ElSz.h (by omega) (by omega) ?_
            refine w_store (xs := y.cells) (by rfl) (by rfl) (by rfl) (by rfl) SzT.h (by rfl) (mt_one _) hg12 (by rw [List.length_append, fl_length mt_len, List.length_set, hil]; omega) ?_
            intro w13 u13 hg13 _
            rw [fl_set (i := p - 1) mt_len (by rw [List.length_set, hil]; omega) (by omega), ins_step hp0' hp hz] at hg13
            refine x_nilw ?_
            (repeat (first | with_reducible refine n_then ?_ | with_reducible refine n_block ?_ | with_reducible refine n_jump ?_))
            (repeat (first | refine swp_seq ?_ | refine swp_block ?_)); refine swp_region (by kernel_rfl) ?_
            repeat (first | refine x_move (by rfl) ?_ | refine x_as (by rfl) (by rfl) ?_ | refine x_skip (by rfl) ?_ | refine x_fld (by rfl) (by rfl) FldO.h ?_ | refine w_load (by rfl) (by rfl) (load_one OneT.h (by assumption) (by rfl)) ?_ | refine x_nilck (by rfl) (by rfl) ?_ | refine x_len (by rfl) (by rfl) ElOf.some ?_ | refine x_iface (by rfl) (by rfl) NIf.h ?_ | refine x_ext (by rfl) (by rfl) (by rfl) ?_ | refine x_pickT (by rfl) (by rfl) (by rfl) ?_ | refine x_pickF (by rfl) (by rfl) (by rfl) ?_ | refine x_add (by rfl) (by rfl) (by rfl) (by omega) ?_ | refine x_sub (by rfl) (by rfl) (by rfl) (by omega) ?_ | refine x_lss (by rfl) (by rfl) (by rfl) ?_ | refine x_geq (by rfl) (by rfl) (by rfl) ?_ | refine x_leq (by rfl) (by rfl) (by rfl) ?_ | refine x_gtr (by rfl) (by rfl) (by rfl) ?_ | refine x_eql (by rfl) (by rfl) (by rfl) ?_ | refine x_neq (by rfl) (by rfl) (by rfl) ?_ | refine x_not (by rfl) (by rfl) ?_)
            refine x_nilw ?_
            have hil' : (ins out (p - 1) y).length = out.length + 1 := ins_len _ _ _
            have u1113 : Upd (isIn (.slice (some ⟨g, 0, none⟩) (out.length + 1) cap)) w11 w13 := (u12.trans u13).mono fun b e => e
            refine ⟨p - 1, ⟨at_ ⟨rfl, rfl, rfl, rfl, rfl, by show Value.int .i64 _ = Value.int .i64 _; congr 1; omega, trivial⟩, by omega, fun a ha => ?_, hO11.perm ((ins_perm _ _ _).trans (ins_perm _ _ _).symm) ?_ u1113, h12.get u13 hb6g, (u10.trans u11).trans' u1113 fun b hb h => by have := hO11.new b h; omega⟩, by omega⟩
            · rw [drop_cons' hz, show p - 1 + 1 = p by omega] at ha
              rcases List.mem_cons.1 ha with ha | ha
              · rw [ha]; exact c
              · exact hgt a ha
            · rw [hil']
              exact Own.of (by rw [fl_length mt_len, hil']) hg13 hc1 hc2 (by rw [List.length_append, fl_length mt_len, hil']; rw [hgl] at hc3; exact hc3)
        · have hp0' : p = 0 := by omega
          subst hp0'
          refine swp_exit ?_; (repeat (first | with_reducible refine e_then ?_ | with_reducible refine e_jump ?_)); refine e_block ?_; (repeat (first | with_reducible refine n_then ?_ | with_reducible refine n_block ?_ | with_reducible refine n_jump ?_))
          rw [ins_put mlt_ord hS hgt (.inl rfl) hp]
          exact ⟨rfl, at_ ⟨rfl, rfl, rfl, rfl, trivial⟩, hO10, u10⟩
      · rintro σ w' ⟨⟨ρ, rfl⟩, hO', u'⟩
        (repeat (first | with_reducible refine n_then ?_ | with_reducible refine n_block ?_ | with_reducible refine n_jump ?_))
        (repeat (first | refine swp_seq ?_ | refine swp_block ?_)); refine swp_region (by kernel_rfl) ?_
        repeat (first | refine x_move (by rfl) ?_ | refine x_as (by rfl) (by rfl) ?_ | refine x_skip (by rfl) ?_ | refine x_fld (by rfl) (by rfl) FldO.h ?_ | refine w_load (by rfl) (by rfl) (load_one OneT.h (by assumption) (by rfl)) ?_ | refine x_nilck (by rfl) (by rfl) ?_ | refine x_len (by rfl) (by rfl) ElOf.some ?_ | refine x_iface (by rfl) (by rfl) NIf.h ?_ | refine x_ext (by rfl) (by rfl) (by rfl) ?_ | refine x_pickT (by rfl) (by rfl) (by rfl) ?_ | refine x_pickF (by rfl) (by rfl) (by rfl) ?_ | refine x_add (by rfl) (by rfl) (by rfl) (by omega) ?_ | refine x_sub (by rfl) (by rfl) (by rfl) (by omega) ?_ | refine x_lss (by rfl) (by rfl) (by rfl) ?_ | refine x_geq (by rfl) (by rfl) (by rfl) ?_ | refine x_leq (by rfl) (by rfl) (by rfl) ?_ | refine x_gtr (by rfl) (by rfl) (by rfl) ?_ | refine x_eql (by rfl) (by rfl) (by rfl) ?_ | refine x_neq (by rfl) (by rfl) (by rfl) ?_ | refine x_not (by rfl) (by rfl) ?_)
        refine x_nilw ?_
        refine ⟨j + 1, ⟨_, _, at_ ⟨rfl, rfl, rfl, rfl, trivial⟩, by omega, hO', srt_put mlt_ord hS, ?_, by rw [put_length]; omega, u'⟩, by omega⟩
        rw [put_map (l1 := mlt) (l2 := slt) (f := Mt.says) (fun _ _ => rfl), hsay, hc.says, take_succ' hm, ← List.append_assoc, List.map_append (l₁ := allMs (rows.take i) ++ r.ms.take j), List.foldl_append]
        rfl
    · have hin : j = r.ms.length := by omega
      subst hin
      rw [List.take_length, ← flat_take hr0] at hsay
      refine swp_exit ?_; (repeat (first | with_reducible refine e_then ?_ | with_reducible refine e_jump ?_)); refine e_block ?_; (repeat (first | with_reducible refine n_then ?_ | with_reducible refine n_block ?_ | with_reducible refine n_jump ?_))
      (repeat (first | with_reducible refine n_then ?_ | with_reducible refine n_block ?_ | with_reducible refine n_jump ?_))
      (repeat (first | refine swp_seq ?_ | refine swp_block ?_)); refine swp_region (by kernel_rfl) ?_
      repeat (first | refine x_move (by rfl) ?_ | refine x_as (by rfl) (by rfl) ?_ | refine x_skip (by rfl) ?_ | refine x_fld (by rfl) (by rfl) FldO.h ?_ | refine w_load (by rfl) (by rfl) (load_one OneT.h (by assumption) (by rfl)) ?_ | refine x_nilck (by rfl) (by rfl) ?_ | refine x_len (by rfl) (by rfl) ElOf.some ?_ | refine x_iface (by rfl) (by rfl) NIf.h ?_ | refine x_ext (by rfl) (by rfl) (by rfl) ?_ | refine x_pickT (by rfl) (by rfl) (by rfl) ?_ | refine x_pickF (by rfl) (by rfl) (by rfl) ?_ | refine x_add (by rfl) (by rfl) (by rfl) (by omega) ?_ | refine x_sub (by rfl) (by rfl) (by rfl) (by omega) ?_ | refine x_lss (by rfl) (by rfl) (by rfl) ?_ | refine x_geq (by rfl) (by rfl) (by rfl) ?_ | refine x_leq (by rfl) (by rfl) (by rfl) ?_ | refine x_gtr (by rfl) (by rfl) (by rfl) ?_ | refine x_eql (by rfl) (by rfl) (by rfl) ?_ | refine x_neq (by rfl) (by rfl) (by rfl) ?_ | refine x_not (by rfl) (by rfl) ?_)
      refine x_nilw ?_
      exact ⟨i + 1, ⟨so, out, at_ ⟨rfl, rfl, rfl, trivial⟩, by omega, hO, hS, hsay, by rw [flat_take hr0, List.length_append]; exact hlo, u4⟩, by omega⟩
  · have hin : i = rows.length := by omega
    subst hin
    rw [List.take_length] at hsay
    refine swp_exit ?_; (repeat (first | with_reducible refine e_then ?_ | with_reducible refine e_jump ?_)); refine e_block ?_; (repeat (first | with_reducible refine n_then ?_ | with_reducible refine n_block ?_ | with_reducible refine n_jump ?_))
    (repeat (first | refine swp_seq ?_ | refine swp_block ?_)); refine swp_region (by kernel_rfl) ?_
    repeat (first | refine x_move (by rfl) ?_ | refine x_as (by rfl) (by rfl) ?_ | refine x_skip (by rfl) ?_ | refine x_fld (by rfl) (by rfl) FldO.h ?_ | refine x_nilck (by rfl) (by rfl) ?_ | refine x_len (by rfl) (by rfl) ElOf.some ?_ | refine x_ext (by rfl) (by rfl) (by rfl) ?_ | refine x_pickT (by rfl) (by rfl) (by rfl) ?_ | refine x_pickF (by rfl) (by rfl) (by rfl) ?_ | refine x_add (by rfl) (by rfl) (by rfl) (by omega) ?_ | refine x_sub (by rfl) (by rfl) (by rfl) (by omega) ?_ | refine x_not (by rfl) (by rfl) ?_)
    refine x_nilw ?_
    refine swp_ret ?_; (repeat (first | with_reducible refine r_then ?_ | with_reducible refine r_block ?_ | with_reducible refine r_jump ?_))
    exact post1 rfl rfl ⟨_, rfl, out, hO, hsay, u3⟩
end Go.Proofs.Ytpnigekkbmanlaa
