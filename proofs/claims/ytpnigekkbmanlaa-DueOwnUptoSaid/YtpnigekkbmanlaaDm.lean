/- Merge: what it tells is the lists' matches laid one by one into the order, each a copy. Conditions: what is read; room. -/
import Derived.Test.YtpnigekkbmanlaaPMtd
import Derived.Test.YtpnigekkbmanlaaOw
namespace Go.Proofs.Ytpnigekkbmanlaa
open Sx Hp

/-- A list of matches, as it is read. -/
structure Ml where
  a : Option Addr
  c : Nat
  ms : List Mt
def Ml.cells (r : Ml) : List Value := [.slice r.a r.ms.length r.c]
theorem ml_len (r : Ml) : r.cells.length = 1 := rfl
theorem ml_one (r : Ml) : r.cells.all Value.oneCell' = true := rfl
structure Ml.Rdy (w : World) (r : Ml) : Prop where
  rd : Rd w 4 (.slice r.a r.ms.length r.c) r.ms.length (fl Mt.cells r.ms)
  each : ∀ m ∈ r.ms, m.Rdy w
  sm : ∀ m ∈ r.ms, m.Sm
theorem Ml.Rdy.at {w w' : World} {r : Ml} (h : r.Rdy w) (u : Ext w w') : r.Rdy w' := ⟨h.rd.at u, fun m hm => (h.each m hm).at u, h.sm⟩

/-- A list of copies that share nothing. -/
structure Outs (w0 w : World) (v : Value) (out : List Mt) : Prop where
  own : Own w 29 4 v out.length (fl Mt.cells out)
  each : ∀ y ∈ out, y.Own w
  new : ∀ b, isIn v b → w0.heap.size ≤ b
  newE : ∀ y ∈ out, ∀ b, y.At b → w0.heap.size ≤ b
  ap : ∀ y ∈ out, ∀ b, y.At b → ¬isIn v b
  pw : out.Pairwise fun x y => ∀ b, x.At b → ¬y.At b
theorem Outs.nil (w0 w : World) : Outs w0 w (.slice none 0 0) [] := ⟨Own.nil _ _ _, by simp, fun b h => h.elim, by simp, by simp, List.Pairwise.nil⟩
theorem Outs.get {F : Nat → Prop} {w0 w w' : World} {v : Value} {out : List Mt} (h : Outs w0 w v out) (u : Upd F w w') (hn : ∀ b, w0.heap.size ≤ b → b < w.heap.size → ¬F b) : Outs w0 w' v out :=
  ⟨h.own.get u fun b hb => hn b (h.new b hb) (h.own.lt hb), fun y hy => (h.each y hy).get u fun b hb => hn b (h.newE y hy b hb) ((h.each y hy).lt hb), h.new, h.newE, h.ap, h.pw⟩
theorem Outs.push {w0 w w1 w2 : World} {v v' : Value} {out : List Mt} {x y : Mt} (h : Outs w0 w v out) (h0 : w0.heap.size ≤ w.heap.size) (hc : Copy w w1 x y) (ho : Own w2 29 4 v' (out.length + 1) (fl Mt.cells out ++ y.cells)) (u : Upd (isIn v) w1 w2) (hin : ∀ b, isIn v' b → isIn v b ∨ w1.heap.size ≤ b) : Outs w0 w2 v' (out ++ [y]) := by
  have s1 := hc.ext.size
  have e1 : ∀ z ∈ out, z.Own w1 := fun z hz => (h.each z hz).get hc.ext fun _ _ h => h
  have yn : ∀ b, y.At b → ¬isIn v b := fun b hb hv => by have := h.own.lt hv; have := hc.new b hb; omega
  refine ⟨?_, fun z hz => ?_, fun b hb => ?_, fun z hz b hb => ?_, fun z hz b hb hv => ?_, ?_⟩
  · rw [List.length_append, List.length_singleton, fl_append, fl_one]; exact ho
  · rcases List.mem_append.1 hz with hz | hz
    · exact (e1 z hz).get u fun b hb => h.ap z hz b hb
    · rw [List.mem_singleton.1 hz]
      exact hc.own.get u yn
  · rcases hin b hb with h' | h'
    · exact h.new b h'
    · omega
  · rcases List.mem_append.1 hz with hz | hz
    · exact h.newE z hz b hb
    · rw [List.mem_singleton.1 hz] at hb
      have := hc.new b hb
      omega
  · rcases hin b hv with h' | h'
    · rcases List.mem_append.1 hz with hz | hz
      · exact h.ap z hz b hb h'
      · rw [List.mem_singleton.1 hz] at hb
        exact yn b hb h'
    · rcases List.mem_append.1 hz with hz | hz
      · have := (e1 z hz).lt hb; omega
      · rw [List.mem_singleton.1 hz] at hb
        have := hc.own.lt hb; omega
  · rw [List.pairwise_append]
    refine ⟨h.pw, List.pairwise_singleton _ _, fun z hz t ht b hb hb' => ?_⟩
    rw [List.mem_singleton.1 ht] at hb'
    have := (h.each z hz).lt hb
    have := hc.new b hb'
    omega

/-- what a match says, in its order -/
def slt (a b : Int × List Nm × List Int × List Vl) : Bool := klt (a.1, a.2.1, a.2.2.1) (b.1, b.2.1, b.2.2.1)
theorem slt_ord : Ord slt := klt_tot.ord fun a : Int × List Nm × List Int × List Vl => (a.1, a.2.1, a.2.2.1)
theorem put_map {α β : Type} {l1 : α → α → Bool} {l2 : β → β → Bool} {f : α → β} (h : ∀ a b, l1 a b = l2 (f a) (f b)) (x : α) : ∀ l : List α, (put l1 l x).map f = put l2 (l.map f) (f x)
  | [] => rfl
  | y :: l => by
    simp only [put, List.map_cons, h x y]
    split
    · rfl
    · rw [List.map_cons, put_map h x l]
theorem foldl_put_map {α β : Type} {l1 : α → α → Bool} {l2 : β → β → Bool} {f : α → β} (h : ∀ a b, l1 a b = l2 (f a) (f b)) : ∀ (l acc : List α), (l.foldl (put l1) acc).map f = (l.map f).foldl (put l2) (acc.map f)
  | [], _ => rfl
  | x :: l, acc => by rw [List.foldl_cons, foldl_put_map h l, put_map h]; rfl
def allMs (rows : List Ml) : List Mt := rows.flatMap (·.ms)
/-- what Merge tells -/
def merged (rows : List Ml) : List (Int × List Nm × List Int × List Vl) := ((allMs rows).map Mt.says).foldl (put slt) []
theorem mem_put' {α : Type} {lt : α → α → Bool} {x y : α} : ∀ {l : List α}, y ∈ put lt l x → y = x ∨ y ∈ l
  | [], h => by simp [put] at h; exact .inl h
  | z :: l, h => by
    unfold put at h
    split at h
    · simpa using h
    · rcases List.mem_cons.1 h with h | h
      · exact .inr (by simp [h])
      · rcases mem_put' h with h | h
        · exact .inl h
        · exact .inr (by simp [h])
theorem mem_foldl_put {α : Type} {lt : α → α → Bool} {y : α} : ∀ (l acc : List α), y ∈ l.foldl (put lt) acc → y ∈ l ∨ y ∈ acc
  | [], acc, h => .inr h
  | x :: l, acc, h => by
    rcases mem_foldl_put l (put lt acc x) h with h | h
    · exact .inl (by simp [h])
    · rcases mem_put' h with h | h
      · exact .inl (by simp [h])
      · exact .inr h
theorem flat_take {rows : List Ml} {i : Nat} {r : Ml} (h : rows[i]? = some r) : allMs (rows.take (i + 1)) = allMs (rows.take i) ++ r.ms := by rw [take_succ' h]; simp [allMs]
theorem flat_len {rows : List Ml} {i : Nat} {r : Ml} (h : rows[i]? = some r) : (allMs (rows.take i)).length + r.ms.length ≤ (allMs rows).length := by
  rw [← List.length_append, ← flat_take h]
  have : allMs rows = allMs (rows.take (i + 1)) ++ allMs (rows.drop (i + 1)) := by rw [allMs, allMs, allMs, ← List.flatMap_append, List.take_append_drop]
  rw [this, List.length_append]
  omega
theorem mem_flat_take {rows : List Ml} {i : Nat} {m : Mt} (h : m ∈ allMs (rows.take i)) : m ∈ allMs rows := by
  obtain ⟨r, hr, hm⟩ := List.mem_flatMap.1 h
  exact List.mem_flatMap.2 ⟨r, List.mem_of_mem_take hr, hm⟩
theorem mem_flat {rows : List Ml} {i : Nat} {r : Ml} {m : Mt} (h : rows[i]? = some r) (hm : m ∈ r.ms) : m ∈ allMs rows := List.mem_flatMap.2 ⟨r, List.mem_of_getElem? h, hm⟩
theorem flat_each {w : World} {rows : List Ml} (h : ∀ r ∈ rows, r.Rdy w) {m : Mt} (hm : m ∈ allMs rows) : m.Rdy w ∧ m.Sm := by
  obtain ⟨r, hr, hm⟩ := List.mem_flatMap.1 hm
  exact ⟨(h r hr).each m hm, (h r hr).sm m hm⟩

set_option maxHeartbeats 2000000 in
set_option maxRecDepth 100000 in
theorem merge_walk {w : World} {a0 : Option Addr} {c0 : Nat} {rows : List Ml} (hrd : Rd w 1 (.slice a0 rows.length c0) rows.length (fl Ml.cells rows)) (hR : ∀ r ∈ rows, r.Rdy w) (hl : rows.length ≤ 2305843009213693951) (hr : Room (allMs rows).length 88) (hl2 : (allMs rows).length ≤ 2305843009213693951) :
    Gets Try.prog 14 [.slice a0 rows.length c0] w fun v w' => ∃ out, Outs w w' v out ∧ out.map Mt.says = merged rows ∧ Ext w w' := by
  have hr8 : Room (allMs rows).length 80 := hr.bytes (by omega)
  have hcap := hr.1
  refine ⟨GoFn.h, calls_of_swp 44 Try.func14 Try.ntmps14 rfl (Nat.le_of_ble_eq_true rfl) ?_⟩
  (repeat (first | refine swp_seq ?_ | refine swp_block ?_)); refine swp_region (by kernel_rfl) ?_
  repeat (first | refine x_move (by rfl) ?_ | refine x_as (by rfl) (by rfl) ?_ | refine x_skip (by rfl) ?_ | refine x_fld (by rfl) (by rfl) FldO.h ?_ | refine x_nilck (by rfl) (by rfl) ?_ | refine x_len (by rfl) (by rfl) ElOf.some ?_ | refine x_ext (by rfl) (by rfl) (by rfl) ?_ | refine x_pickT (by rfl) (by rfl) (by rfl) ?_ | refine x_pickF (by rfl) (by rfl) (by rfl) ?_ | refine x_add (by rfl) (by rfl) (by rfl) (by omega) ?_ | refine x_sub (by rfl) (by rfl) (by rfl) (by omega) ?_ | refine x_not (by rfl) (by rfl) ?_)
  refine x_nilw ?_
  (repeat (first | refine swp_seq ?_ | refine swp_block ?_)); refine swp_region (by kernel_rfl) ?_
  refine w_call (by rfl) (by rfl) (by rfl) (PMt.new w) ?_
  rintro _ w1 ⟨bp, rfl, hbp, u1, hp1⟩
  repeat (first | refine x_move (by rfl) ?_ | refine x_as (by rfl) (by rfl) ?_ | refine x_skip (by rfl) ?_ | refine x_fld (by rfl) (by rfl) FldO.h ?_ | refine x_nilck (by rfl) (by rfl) ?_ | refine x_len (by rfl) (by rfl) ElOf.some ?_ | refine x_ext (by rfl) (by rfl) (by rfl) ?_ | refine x_pickT (by rfl) (by rfl) (by rfl) ?_ | refine x_pickF (by rfl) (by rfl) (by rfl) ?_ | refine x_add (by rfl) (by rfl) (by rfl) (by omega) ?_ | refine x_sub (by rfl) (by rfl) (by rfl) (by omega) ?_ | refine x_not (by rfl) (by rfl) ?_)
  refine x_nilw ?_
  (repeat (first | refine swp_seq ?_ | refine swp_block ?_)); refine swp_region (by kernel_rfl) ?_
  repeat (first | refine x_move (by rfl) ?_ | refine x_as (by rfl) (by rfl) ?_ | refine x_skip (by rfl) ?_ | refine x_fld (by rfl) (by rfl) FldO.h ?_ | refine x_nilck (by rfl) (by rfl) ?_ | refine x_len (by rfl) (by rfl) ElOf.some ?_ | refine x_ext (by rfl) (by rfl) (by rfl) ?_ | refine x_pickT (by rfl) (by rfl) (by rfl) ?_ | refine x_pickF (by rfl) (by rfl) (by rfl) ?_ | refine x_add (by rfl) (by rfl) (by rfl) (by omega) ?_ | refine x_sub (by rfl) (by rfl) (by rfl) (by omega) ?_ | refine x_not (by rfl) (by rfl) ?_)
  refine x_nilw ?_
  refine swp_fit [(3, .pointer (some ⟨bp, 0, none⟩)), (12, .slice a0 rows.length c0), (13, .int .i64 (rows.length : Nat)), (14, .int .i64 ((0 : Nat) : Int))] ⟨rfl, rfl, rfl, rfl, trivial⟩ fun ρ => ?_
  (repeat (first | refine swp_seq ?_ | refine swp_block ?_))
  refine swp_loop (fun (i : Nat) σ w3 => ∃ sp, At σ [(3, .pointer (some ⟨bp, 0, none⟩)), (12, .slice a0 rows.length c0), (13, .int .i64 (rows.length : Nat)), (14, .int .i64 (i : Nat))] ∧ i ≤ rows.length ∧ PMt.Pile w3 bp sp ((allMs (rows.take i)).foldl (put mlt) []) (allMs (rows.take i)).length ∧ (∀ b, PMt.foot bp sp b → w.heap.size ≤ b) ∧ Ext w w3) (fun i => rows.length - i) 0 ⟨.slice none 0 0, at_ ⟨rfl, rfl, rfl, rfl, trivial⟩, by omega, hp1, fun b hb => ?_, u1⟩ ?_
  · rcases hb with h | h
    · omega
    · exact h.elim
  rintro i σ w3 ⟨sp, ⟨ρ, rfl⟩, hi, hp3, hf3, u3⟩
  have g3 := hrd.at u3
  (repeat (first | refine swp_seq ?_ | refine swp_block ?_)); refine swp_region (by kernel_rfl) ?_
  repeat (first | refine x_move (by rfl) ?_ | refine x_as (by rfl) (by rfl) ?_ | refine x_skip (by rfl) ?_ | refine x_fld (by rfl) (by rfl) FldO.h ?_ | refine w_load (by rfl) (by rfl) (load_one OneT.h (by assumption) (by rfl)) ?_ | refine x_nilck (by rfl) (by rfl) ?_ | refine x_len (by rfl) (by rfl) ElOf.some ?_ | refine x_iface (by rfl) (by rfl) NIf.h ?_ | refine x_ext (by rfl) (by rfl) (by rfl) ?_ | refine x_pickT (by rfl) (by rfl) (by rfl) ?_ | refine x_pickF (by rfl) (by rfl) (by rfl) ?_ | refine x_add (by rfl) (by rfl) (by rfl) (by omega) ?_ | refine x_sub (by rfl) (by rfl) (by rfl) (by omega) ?_ | refine x_lss (by rfl) (by rfl) (by rfl) ?_ | refine x_geq (by rfl) (by rfl) (by rfl) ?_ | refine x_leq (by rfl) (by rfl) (by rfl) ?_ | refine x_gtr (by rfl) (by rfl) (by rfl) ?_ | refine x_eql (by rfl) (by rfl) (by rfl) ?_ | refine x_neq (by rfl) (by rfl) (by rfl) ?_ | refine x_not (by rfl) (by rfl) ?_)
  refine x_nilw ?_
  (repeat (first | refine swp_seq ?_ | refine swp_block ?_))
  refine swp_if (by rfl) (fun h0 => swp_skip ?_) (fun h0 => ?_)
  · have hi' : i < rows.length := by omega
    obtain ⟨r, hr0⟩ := nthE hi'
    obtain ⟨b1, o1, d1, he1, -, -⟩ := hrd.pos (by omega)
    simp only [Value.slice.injEq] at he1
    obtain ⟨rfl, _, rfl⟩ := he1
    have rR := hR r (List.mem_of_getElem? hr0)
    have hfl := flat_len hr0
    (repeat (first | with_reducible refine n_then ?_ | with_reducible refine n_block ?_ | with_reducible refine n_jump ?_))
    (repeat (first | refine swp_seq ?_ | refine swp_block ?_)); refine swp_region (by kernel_rfl) ?_
    repeat (first | refine x_move (by rfl) ?_ | refine x_as (by rfl) (by rfl) ?_ | refine x_skip (by rfl) ?_ | refine x_fld (by rfl) (by rfl) FldO.h ?_ | refine x_nilck (by rfl) (by rfl) ?_ | refine x_len (by rfl) (by rfl) ElOf.some ?_ | refine x_ext (by rfl) (by rfl) (by rfl) ?_ | refine x_pickT (by rfl) (by rfl) (by rfl) ?_ | refine x_pickF (by rfl) (by rfl) (by rfl) ?_ | refine x_add (by rfl) (by rfl) (by rfl) (by omega) ?_ | refine x_sub (by rfl) (by rfl) (by rfl) (by omega) ?_ | refine x_not (by rfl) (by rfl) ?_)
    refine x_idx i (by rfl) (by rfl) (by rfl) ElSz.h rfl hi' ?_
    refine w_load (by rfl) (by rfl) (load_one_cell OneT.h (rd_cell (v := .slice r.a r.ms.length r.c) (j := 0) ml_len g3 hr0 rfl rfl rfl)) ?_
    repeat (first | refine x_move (by rfl) ?_ | refine x_as (by rfl) (by rfl) ?_ | refine x_skip (by rfl) ?_ | refine x_fld (by rfl) (by rfl) FldO.h ?_ | refine x_nilck (by rfl) (by rfl) ?_ | refine x_len (by rfl) (by rfl) ElOf.some ?_ | refine x_ext (by rfl) (by rfl) (by rfl) ?_ | refine x_pickT (by rfl) (by rfl) (by rfl) ?_ | refine x_pickF (by rfl) (by rfl) (by rfl) ?_ | refine x_add (by rfl) (by rfl) (by rfl) (by omega) ?_ | refine x_sub (by rfl) (by rfl) (by rfl) (by omega) ?_ | refine x_not (by rfl) (by rfl) ?_)
    refine x_nilw ?_
    (repeat (first | refine swp_seq ?_ | refine swp_block ?_)); refine swp_region (by kernel_rfl) ?_
    repeat (first | refine x_move (by rfl) ?_ | refine x_as (by rfl) (by rfl) ?_ | refine x_skip (by rfl) ?_ | refine x_fld (by rfl) (by rfl) FldO.h ?_ | refine x_nilck (by rfl) (by rfl) ?_ | refine x_len (by rfl) (by rfl) ElOf.some ?_ | refine x_ext (by rfl) (by rfl) (by rfl) ?_ | refine x_pickT (by rfl) (by rfl) (by rfl) ?_ | refine x_pickF (by rfl) (by rfl) (by rfl) ?_ | refine x_add (by rfl) (by rfl) (by rfl) (by omega) ?_ | refine x_sub (by rfl) (by rfl) (by rfl) (by omega) ?_ | refine x_not (by rfl) (by rfl) ?_)
    refine x_nilw ?_
    refine swp_fit [(3, .pointer (some ⟨bp, 0, none⟩)), (12, .slice (some ⟨b1, o1, none⟩) rows.length c0), (13, .int .i64 (rows.length : Nat)), (14, .int .i64 (i : Nat)), (18, .slice r.a r.ms.length r.c), (19, .int .i64 (r.ms.length : Nat)), (20, .int .i64 ((0 : Nat) : Int))] ⟨rfl, rfl, rfl, rfl, rfl, rfl, rfl, trivial⟩ fun ρ => ?_
    (repeat (first | refine swp_seq ?_ | refine swp_block ?_))
    refine swp_loop (fun (j : Nat) σ w4 => ∃ sp, At σ [(3, .pointer (some ⟨bp, 0, none⟩)), (12, .slice (some ⟨b1, o1, none⟩) rows.length c0), (13, .int .i64 (rows.length : Nat)), (14, .int .i64 (i : Nat)), (18, .slice r.a r.ms.length r.c), (19, .int .i64 (r.ms.length : Nat)), (20, .int .i64 (j : Nat))] ∧ j ≤ r.ms.length ∧ PMt.Pile w4 bp sp ((allMs (rows.take i) ++ r.ms.take j).foldl (put mlt) []) ((allMs (rows.take i)).length + j) ∧ (∀ b, PMt.foot bp sp b → w.heap.size ≤ b) ∧ Ext w w4) (fun j => r.ms.length - j) 0 ⟨sp, at_ ⟨rfl, rfl, rfl, rfl, rfl, rfl, rfl, trivial⟩, by omega, by simpa using hp3, hf3, u3⟩ ?_
    rintro j σ w4 ⟨sp4, ⟨ρ, rfl⟩, hj, hp4, hf4, u4⟩
    have apt4 : ∀ m ∈ allMs rows, ∀ {w' : World}, Ext w w' → PMt.Apt (PMt.foot bp sp4) w' m := fun m hm w' u => ⟨((flat_each hR hm).1).at u, fun b hb hf => by have := ((flat_each hR hm).1).lt hb; have := hf4 b hf; omega⟩
    (repeat (first | refine swp_seq ?_ | refine swp_block ?_)); refine swp_region (by kernel_rfl) ?_
    repeat (first | refine x_move (by rfl) ?_ | refine x_as (by rfl) (by rfl) ?_ | refine x_skip (by rfl) ?_ | refine x_fld (by rfl) (by rfl) FldO.h ?_ | refine w_load (by rfl) (by rfl) (load_one OneT.h (by assumption) (by rfl)) ?_ | refine x_nilck (by rfl) (by rfl) ?_ | refine x_len (by rfl) (by rfl) ElOf.some ?_ | refine x_iface (by rfl) (by rfl) NIf.h ?_ | refine x_ext (by rfl) (by rfl) (by rfl) ?_ | refine x_pickT (by rfl) (by rfl) (by rfl) ?_ | refine x_pickF (by rfl) (by rfl) (by rfl) ?_ | refine x_add (by rfl) (by rfl) (by rfl) (by omega) ?_ | refine x_sub (by rfl) (by rfl) (by rfl) (by omega) ?_ | refine x_lss (by rfl) (by rfl) (by rfl) ?_ | refine x_geq (by rfl) (by rfl) (by rfl) ?_ | refine x_leq (by rfl) (by rfl) (by rfl) ?_ | refine x_gtr (by rfl) (by rfl) (by rfl) ?_ | refine x_eql (by rfl) (by rfl) (by rfl) ?_ | refine x_neq (by rfl) (by rfl) (by rfl) ?_ | refine x_not (by rfl) (by rfl) ?_)
    refine x_nilw ?_
    (repeat (first | refine swp_seq ?_ | refine swp_block ?_))
    refine swp_if (by rfl) (fun h1 => swp_skip ?_) (fun h1 => ?_)
    · have hj' : j < r.ms.length := by omega
      obtain ⟨m, hm⟩ := nthE hj'
      have rd := rR.rd
      obtain ⟨b2, o2, d2, he2, -, -⟩ := rd.pos (by omega)
      simp only [Value.slice.injEq] at he2
      obtain ⟨ea, _, rfl⟩ := he2
      rw [ea] at rd ⊢
      have hmm : m ∈ allMs rows := mem_flat hr0 (List.mem_of_getElem? hm)
      (repeat (first | with_reducible refine n_then ?_ | with_reducible refine n_block ?_ | with_reducible refine n_jump ?_))
      (repeat (first | refine swp_seq ?_ | refine swp_block ?_)); refine swp_region (by kernel_rfl) ?_
      repeat (first | refine x_move (by rfl) ?_ | refine x_as (by rfl) (by rfl) ?_ | refine x_skip (by rfl) ?_ | refine x_fld (by rfl) (by rfl) FldO.h ?_ | refine x_nilck (by rfl) (by rfl) ?_ | refine x_len (by rfl) (by rfl) ElOf.some ?_ | refine x_ext (by rfl) (by rfl) (by rfl) ?_ | refine x_pickT (by rfl) (by rfl) (by rfl) ?_ | refine x_pickF (by rfl) (by rfl) (by rfl) ?_ | refine x_add (by rfl) (by rfl) (by rfl) (by omega) ?_ | refine x_sub (by rfl) (by rfl) (by rfl) (by omega) ?_ | refine x_not (by rfl) (by rfl) ?_)
      refine x_idx j (by rfl) (by rfl) (by rfl) ElSz.h rfl hj' ?_
      refine w_load (by rfl) (by rfl) (rd_load mt_len AggT.h (rd.at u4) hm rfl rfl) ?_
      refine w_alloc (by rfl) (by rfl) ZeroT.h ?_; intro b5 w5 e5 u5 h5
      refine w_store (xs := m.cells) (by rfl) (by rfl) (by rfl) (by rfl) SzT.h (by rfl) (by rfl) h5 (by simp) ?_
      intro w6 u6 h6 _
      refine x_nilw ?_
      replace h6 : Blk w6 b5 29 m.cells := h6
      have s4 := u4.size; have s5 := u5.size
      have hp6 := (hp4.at u5).get u6 fun b hb e => by have := hp4.lt hb; have e' : b = b5 := e; omega
      have u46 : Ext w w6 := (u4.trans u5).trans' u6 fun b hb e => by have e' : b = b5 := e; omega
      (repeat (first | refine swp_seq ?_ | refine swp_block ?_)); refine swp_region (by kernel_rfl) ?_
      repeat (first | refine x_move (by rfl) ?_ | refine x_as (by rfl) (by rfl) ?_ | refine x_skip (by rfl) ?_ | refine x_fld (by rfl) (by rfl) FldO.h ?_ | refine x_nilck (by rfl) (by rfl) ?_ | refine x_len (by rfl) (by rfl) ElOf.some ?_ | refine x_ext (by rfl) (by rfl) (by rfl) ?_ | refine x_pickT (by rfl) (by rfl) (by rfl) ?_ | refine x_pickF (by rfl) (by rfl) (by rfl) ?_ | refine x_add (by rfl) (by rfl) (by rfl) (by omega) ?_ | refine x_sub (by rfl) (by rfl) (by rfl) (by omega) ?_ | refine x_not (by rfl) (by rfl) ?_)
      refine w_load (by rfl) (by rfl) (load_agg (xs := m.cells) AggT.h h6 (by rfl) (by rfl)) ?_
      refine x_build (v := m.v) (by rfl) (by rfl) (fun _ => by kernel_rfl) ?_
      have hlen : ((allMs (rows.take i) ++ r.ms.take j).foldl (put mlt) []).length = (allMs (rows.take i)).length + j := by rw [len_foldl_put, List.length_append, List.length_take]; simp; omega
      refine w_call (by rfl) (by rfl) (by rfl) (PMt.push mlt_ord m hp6 (by omega) (hr.le (by omega)) (apt4 m hmm u46) fun y hy => apt4 y ?_ u46) ?_
      · rcases mem_foldl_put _ _ hy with h | h
        · rcases List.mem_append.1 h with h | h
          · exact mem_flat_take h
          · exact mem_flat hr0 (List.mem_of_mem_take h)
        · simp at h
      rintro _ w7 ⟨rfl, sp7, hp7, u7, hin7⟩
      refine x_nilw ?_
      (repeat (first | with_reducible refine n_then ?_ | with_reducible refine n_block ?_ | with_reducible refine n_jump ?_))
      rw [show put mlt ((allMs (rows.take i) ++ r.ms.take j).foldl (put mlt) []) m = (allMs (rows.take i) ++ r.ms.take (j + 1)).foldl (put mlt) [] by rw [take_succ' hm, ← List.append_assoc, List.foldl_append (l := allMs (rows.take i) ++ r.ms.take j)]; rfl] at hp7
      (repeat (first | refine swp_seq ?_ | refine swp_block ?_)); refine swp_region (by kernel_rfl) ?_
      repeat (first | refine x_move (by rfl) ?_ | refine x_as (by rfl) (by rfl) ?_ | refine x_skip (by rfl) ?_ | refine x_fld (by rfl) (by rfl) FldO.h ?_ | refine x_nilck (by rfl) (by rfl) ?_ | refine x_len (by rfl) (by rfl) ElOf.some ?_ | refine x_ext (by rfl) (by rfl) (by rfl) ?_ | refine x_pickT (by rfl) (by rfl) (by rfl) ?_ | refine x_pickF (by rfl) (by rfl) (by rfl) ?_ | refine x_add (by rfl) (by rfl) (by rfl) (by omega) ?_ | refine x_sub (by rfl) (by rfl) (by rfl) (by omega) ?_ | refine x_not (by rfl) (by rfl) ?_)
      refine x_nilw ?_
      have s46 := u46.size
      refine ⟨j + 1, ⟨sp7, at_ ⟨rfl, rfl, rfl, rfl, rfl, rfl, rfl, trivial⟩, by omega, hp7, fun b hb => ?_, u46.trans' u7 fun b hb hf => by have := hf4 b hf; omega⟩, by omega⟩
      rcases hb with h | h
      · exact hf4 b (.inl h)
      · rcases hin7 b h with h | h
        · exact hf4 b (.inr h)
        · omega
    · have hin : j = r.ms.length := by omega
      subst hin
      rw [List.take_length, ← flat_take hr0] at hp4
      refine swp_exit ?_; (repeat (first | with_reducible refine e_then ?_ | with_reducible refine e_jump ?_)); refine e_block ?_; (repeat (first | with_reducible refine n_then ?_ | with_reducible refine n_block ?_ | with_reducible refine n_jump ?_))
      (repeat (first | with_reducible refine n_then ?_ | with_reducible refine n_block ?_ | with_reducible refine n_jump ?_))
      (repeat (first | refine swp_seq ?_ | refine swp_block ?_)); refine swp_region (by kernel_rfl) ?_
      repeat (first | refine x_move (by rfl) ?_ | refine x_as (by rfl) (by rfl) ?_ | refine x_skip (by rfl) ?_ | refine x_fld (by rfl) (by rfl) FldO.h ?_ | refine x_nilck (by rfl) (by rfl) ?_ | refine x_len (by rfl) (by rfl) ElOf.some ?_ | refine x_ext (by rfl) (by rfl) (by rfl) ?_ | refine x_pickT (by rfl) (by rfl) (by rfl) ?_ | refine x_pickF (by rfl) (by rfl) (by rfl) ?_ | refine x_add (by rfl) (by rfl) (by rfl) (by omega) ?_ | refine x_sub (by rfl) (by rfl) (by rfl) (by omega) ?_ | refine x_not (by rfl) (by rfl) ?_)
      refine x_nilw ?_
      exact ⟨i + 1, ⟨sp4, at_ ⟨rfl, rfl, rfl, rfl, trivial⟩, by omega, by rw [flat_take hr0, List.length_append] at *; exact hp4, hf4, u4⟩, by omega⟩
  · have hin : i = rows.length := by omega
    subst hin
    rw [List.take_length] at hp3
    refine swp_exit ?_; (repeat (first | with_reducible refine e_then ?_ | with_reducible refine e_jump ?_)); refine e_block ?_; (repeat (first | with_reducible refine n_then ?_ | with_reducible refine n_block ?_ | with_reducible refine n_jump ?_))
    (repeat (first | refine swp_seq ?_ | refine swp_block ?_)); refine swp_region (by kernel_rfl) ?_
    repeat (first | refine x_move (by rfl) ?_ | refine x_as (by rfl) (by rfl) ?_ | refine x_skip (by rfl) ?_ | refine x_fld (by rfl) (by rfl) FldO.h ?_ | refine x_nilck (by rfl) (by rfl) ?_ | refine x_len (by rfl) (by rfl) ElOf.some ?_ | refine x_ext (by rfl) (by rfl) (by rfl) ?_ | refine x_pickT (by rfl) (by rfl) (by rfl) ?_ | refine x_pickF (by rfl) (by rfl) (by rfl) ?_ | refine x_add (by rfl) (by rfl) (by rfl) (by omega) ?_ | refine x_sub (by rfl) (by rfl) (by rfl) (by omega) ?_ | refine x_not (by rfl) (by rfl) ?_)
    refine x_nilw ?_
    generalize hS : (allMs rows).foldl (put mlt) [] = S at hp3
    have vS : ∀ y ∈ S, y ∈ allMs rows := fun y hy => by rw [← hS] at hy; simpa using mem_foldl_put _ _ hy
    have hSl : S.length = (allMs rows).length := by rw [← hS, len_foldl_put]; simp
    have hSm : S.map Mt.says = merged rows := by rw [← hS, foldl_put_map (l1 := mlt) (l2 := slt) (f := Mt.says) (fun _ _ => rfl)]; rfl
    refine swp_fit [(3, .pointer (some ⟨bp, 0, none⟩)), (8, .slice none 0 0)] ⟨rfl, rfl, trivial⟩ fun ρ => ?_
    have s3 := u3.size
    have hflt : ∀ b, PMt.foot bp sp b → b < w3.heap.size := fun b hb => hp3.lt hb
    (repeat (first | refine swp_seq ?_ | refine swp_block ?_))
    refine swp_loop (fun (t : List Mt × List Mt × List Mt) σ w4 => ∃ sq so, At σ [(3, .pointer (some ⟨bp, 0, none⟩)), (8, so)] ∧ t.1 ++ t.2.1 = S ∧ PMt.Pile w4 bp sq t.2.1 (allMs rows).length ∧ (∀ b, isIn sq b → isIn sp b) ∧ Outs w3 w4 so t.2.2 ∧ t.2.2.map Mt.says = t.1.map Mt.says ∧ Upd (PMt.foot bp sp) w3 w4) (fun t => t.2.1.length) ([], S, []) ⟨sp, .slice none 0 0, at_ ⟨rfl, rfl, trivial⟩, rfl, hp3, fun b h => h, Outs.nil _ _, rfl, Upd.refl _ _⟩ ?_
    rintro ⟨done, todo, out⟩ σ w4 ⟨sq, so, ⟨ρ, rfl⟩, hdt, hp4, hq4, hO, hsay, u4⟩
    simp only at hdt hp4 hO hsay
    dsimp only
    have uw4 : Ext w w4 := u3.trans' u4 fun b hb hf => by have := hf3 b hf; omega
    have hsq : ∀ b, PMt.foot bp sq b → PMt.foot bp sp b := fun b hb => hb.imp id (hq4 b)
    have hlS : S.length = done.length + todo.length := by rw [← hdt, List.length_append]
    (repeat (first | refine swp_seq ?_ | refine swp_block ?_)); refine swp_region (by kernel_rfl) ?_
    repeat (first | refine x_move (by rfl) ?_ | refine x_as (by rfl) (by rfl) ?_ | refine x_skip (by rfl) ?_ | refine x_fld (by rfl) (by rfl) FldO.h ?_ | refine x_nilck (by rfl) (by rfl) ?_ | refine x_len (by rfl) (by rfl) ElOf.some ?_ | refine x_ext (by rfl) (by rfl) (by rfl) ?_ | refine x_pickT (by rfl) (by rfl) (by rfl) ?_ | refine x_pickF (by rfl) (by rfl) (by rfl) ?_ | refine x_add (by rfl) (by rfl) (by rfl) (by omega) ?_ | refine x_sub (by rfl) (by rfl) (by rfl) (by omega) ?_ | refine x_not (by rfl) (by rfl) ?_)
    refine w_call (by rfl) (by rfl) (by rfl) (PMt.pop mlt_ord hp4 (by omega) fun y hy => ?_) ?_
    · have hyS : y ∈ allMs rows := vS y (by rw [← hdt]; exact List.mem_append_right _ hy)
      exact ⟨((flat_each hR hyS).1).at uw4, fun b hb hf => by have := ((flat_each hR hyS).1).lt hb; have := hf3 b (hsq b hf); omega⟩
    rintro _ w5 ⟨rfl, sq5, hp5, u5, hin5⟩
    have s4 := u4.size
    have s5 := u5.size
    have hO5 := hO.get u5 fun b hb _ hf => by have := hflt b (hsq b hf); omega
    have htup : ∃ x ok, PMt.popV todo = .tuple #[.agg (Mt.cells x).toArray, .bool ok] ∧ x = todo.head?.getD Mt.zero ∧ ok = !todo.isEmpty := by
      cases todo with
      | nil => exact ⟨_, _, rfl, rfl, rfl⟩
      | cons x S => exact ⟨_, _, rfl, rfl, rfl⟩
    obtain ⟨x, ok, hx, hx2, rfl⟩ := htup
    rw [hx]
    repeat (first | refine x_move (by rfl) ?_ | refine x_as (by rfl) (by rfl) ?_ | refine x_skip (by rfl) ?_ | refine x_fld (by rfl) (by rfl) FldO.h ?_ | refine x_nilck (by rfl) (by rfl) ?_ | refine x_len (by rfl) (by rfl) ElOf.some ?_ | refine x_ext (by rfl) (by rfl) (by rfl) ?_ | refine x_pickT (by rfl) (by rfl) (by rfl) ?_ | refine x_pickF (by rfl) (by rfl) (by rfl) ?_ | refine x_add (by rfl) (by rfl) (by rfl) (by omega) ?_ | refine x_sub (by rfl) (by rfl) (by rfl) (by omega) ?_ | refine x_not (by rfl) (by rfl) ?_)
    refine w_alloc (by rfl) (by rfl) ZeroT.h ?_; intro b6 w6 e6 u6 h6
    refine w_store (xs := x.cells) (by rfl) (by rfl) (by rfl) (by rfl) SzT.h (by rfl) (by rfl) h6 (by simp) ?_
    intro w7 u7 h7 _
    repeat (first | refine x_move (by rfl) ?_ | refine x_as (by rfl) (by rfl) ?_ | refine x_skip (by rfl) ?_ | refine x_fld (by rfl) (by rfl) FldO.h ?_ | refine x_nilck (by rfl) (by rfl) ?_ | refine x_len (by rfl) (by rfl) ElOf.some ?_ | refine x_ext (by rfl) (by rfl) (by rfl) ?_ | refine x_pickT (by rfl) (by rfl) (by rfl) ?_ | refine x_pickF (by rfl) (by rfl) (by rfl) ?_ | refine x_add (by rfl) (by rfl) (by rfl) (by omega) ?_ | refine x_sub (by rfl) (by rfl) (by rfl) (by omega) ?_ | refine x_not (by rfl) (by rfl) ?_)
    refine x_nilw ?_
    replace h7 : Blk w7 b6 74 x.cells := h7
    have s6 := u6.size
    have u57 : Ext w5 w7 := u6.trans' u7 fun b hb e => by have e' : b = b6 := e; omega
    have hO7 := hO5.get u57 fun b _ _ h => h
    have hp7 := hp5.at u57
    have l7 := h7.lt
    refine swp_fit [(3, .pointer (some ⟨bp, 0, none⟩)), (8, so), (9, .pointer (some ⟨b6, 0, none⟩)), (10, .bool !todo.isEmpty)] ⟨rfl, rfl, rfl, rfl, trivial⟩ fun ρ => ?_
    have u47 : Upd (PMt.foot bp sp) w3 w7 := (u4.trans' u5 fun b _ hf => hsq b hf).ext u57
    have uw7 : Ext w w7 := u3.trans' u47 fun b hb hf => by have := hf3 b hf; omega
    cases todo with
    | nil =>
      (repeat (first | refine swp_seq ?_ | refine swp_block ?_)); refine swp_region (by kernel_rfl) ?_
      repeat (first | refine x_move (by rfl) ?_ | refine x_as (by rfl) (by rfl) ?_ | refine x_skip (by rfl) ?_ | refine x_fld (by rfl) (by rfl) FldO.h ?_ | refine x_nilck (by rfl) (by rfl) ?_ | refine x_len (by rfl) (by rfl) ElOf.some ?_ | refine x_ext (by rfl) (by rfl) (by rfl) ?_ | refine x_pickT (by rfl) (by rfl) (by rfl) ?_ | refine x_pickF (by rfl) (by rfl) (by rfl) ?_ | refine x_add (by rfl) (by rfl) (by rfl) (by omega) ?_ | refine x_sub (by rfl) (by rfl) (by rfl) (by omega) ?_ | refine x_not (by rfl) (by rfl) ?_)
      refine x_nilw ?_
      (repeat (first | refine swp_seq ?_ | refine swp_block ?_))
      refine swp_true (by rfl) ?_
      (repeat (first | refine swp_seq ?_ | refine swp_block ?_)); refine swp_region (by kernel_rfl) ?_
      repeat (first | refine x_move (by rfl) ?_ | refine x_as (by rfl) (by rfl) ?_ | refine x_skip (by rfl) ?_ | refine x_fld (by rfl) (by rfl) FldO.h ?_ | refine x_nilck (by rfl) (by rfl) ?_ | refine x_len (by rfl) (by rfl) ElOf.some ?_ | refine x_ext (by rfl) (by rfl) (by rfl) ?_ | refine x_pickT (by rfl) (by rfl) (by rfl) ?_ | refine x_pickF (by rfl) (by rfl) (by rfl) ?_ | refine x_add (by rfl) (by rfl) (by rfl) (by omega) ?_ | refine x_sub (by rfl) (by rfl) (by rfl) (by omega) ?_ | refine x_not (by rfl) (by rfl) ?_)
      refine x_nilw ?_
      refine swp_ret ?_; (repeat (first | with_reducible refine r_then ?_ | with_reducible refine r_block ?_ | with_reducible refine r_jump ?_))
      rw [List.append_nil] at hdt
      subst hdt
      refine post1 rfl rfl ⟨_, rfl, out, ⟨hO7.own, hO7.each, fun b hb => ?_, fun y hy b hb => ?_, hO7.ap, hO7.pw⟩, by rw [hsay, hSm], uw7⟩
      · have := hO7.new b hb; omega
      · have := hO7.newE y hy b hb; omega
    | cons x' todo =>
      have hxx : x = x' := hx2
      subst hxx
      have hxS : x ∈ allMs rows := vS x (by rw [← hdt]; simp)
      have hx7 := (flat_each hR hxS).1.at uw7
      (repeat (first | refine swp_seq ?_ | refine swp_block ?_)); refine swp_region (by kernel_rfl) ?_
      repeat (first | refine x_move (by rfl) ?_ | refine x_as (by rfl) (by rfl) ?_ | refine x_skip (by rfl) ?_ | refine x_fld (by rfl) (by rfl) FldO.h ?_ | refine x_nilck (by rfl) (by rfl) ?_ | refine x_len (by rfl) (by rfl) ElOf.some ?_ | refine x_ext (by rfl) (by rfl) (by rfl) ?_ | refine x_pickT (by rfl) (by rfl) (by rfl) ?_ | refine x_pickF (by rfl) (by rfl) (by rfl) ?_ | refine x_add (by rfl) (by rfl) (by rfl) (by omega) ?_ | refine x_sub (by rfl) (by rfl) (by rfl) (by omega) ?_ | refine x_not (by rfl) (by rfl) ?_)
      refine x_nilw ?_
      (repeat (first | refine swp_seq ?_ | refine swp_block ?_))
      refine swp_false (by rfl) (swp_skip ?_)
      (repeat (first | refine swp_seq ?_ | refine swp_block ?_)); refine swp_region (by kernel_rfl) ?_
      repeat (first | refine x_move (by rfl) ?_ | refine x_as (by rfl) (by rfl) ?_ | refine x_skip (by rfl) ?_ | refine x_fld (by rfl) (by rfl) FldO.h ?_ | refine x_nilck (by rfl) (by rfl) ?_ | refine x_len (by rfl) (by rfl) ElOf.some ?_ | refine x_ext (by rfl) (by rfl) (by rfl) ?_ | refine x_pickT (by rfl) (by rfl) (by rfl) ?_ | refine x_pickF (by rfl) (by rfl) (by rfl) ?_ | refine x_add (by rfl) (by rfl) (by rfl) (by omega) ?_ | refine x_sub (by rfl) (by rfl) (by rfl) (by omega) ?_ | refine x_not (by rfl) (by rfl) ?_)
      refine w_load (by rfl) (by rfl) (load_agg (xs := x.cells) AggT.h h7 (by rfl) (by rfl)) ?_
      refine w_call (by rfl) (by rfl) (by rfl) (own_match x w7 hx7 (flat_each hR hxS).2) ?_
      rintro _ w8 ⟨y, rfl, hc⟩
      refine w_bslice (e := 29) (cs := y.cells) (by rfl) (by rfl) (by rfl) (by kernel_rfl) ?_
      intro b9 w9 e9 u9 h9
      have hc9 : Copy w7 w9 x y := ⟨hc.says, hc.own.get u9 fun _ _ h => h, hc.new, hc.ext.trans u9⟩
      have hlo : out.length = done.length := by have := congrArg List.length hsay; simpa using this
      have hll : S.length = done.length + (todo.length + 1) := hlS
      refine w_append (more := []) (news := y.cells) (by rfl) (by rfl) (by rfl) (by rfl) SlC.h (hO7.own.at (hc.ext.trans u9)) (by rw [List.append_nil]; exact h9) (mt_len _) (mt_one _) (by omega) (hr8.le (by omega)) ?_
      intro so' w10 hown10 u10 hin10
      repeat (first | refine x_move (by rfl) ?_ | refine x_as (by rfl) (by rfl) ?_ | refine x_skip (by rfl) ?_ | refine x_fld (by rfl) (by rfl) FldO.h ?_ | refine x_nilck (by rfl) (by rfl) ?_ | refine x_len (by rfl) (by rfl) ElOf.some ?_ | refine x_ext (by rfl) (by rfl) (by rfl) ?_ | refine x_pickT (by rfl) (by rfl) (by rfl) ?_ | refine x_pickF (by rfl) (by rfl) (by rfl) ?_ | refine x_add (by rfl) (by rfl) (by rfl) (by omega) ?_ | refine x_sub (by rfl) (by rfl) (by rfl) (by omega) ?_ | refine x_not (by rfl) (by rfl) ?_)
      refine x_nilw ?_
      (repeat (first | with_reducible refine n_then ?_ | with_reducible refine n_block ?_ | with_reducible refine n_jump ?_))
      have s7 := u47.size
      have s8 := hc9.ext.size
      have hO10 := hO7.push (by omega) hc9 hown10 u10 hin10
      have hp10 : PMt.Pile w10 bp sq5 todo (allMs rows).length := ((show PMt.Pile w7 bp sq5 todo (allMs rows).length from hp7).at hc9.ext).get u10 fun b hb hf => by
        have h1 := hO7.new b hf
        rcases hb with h | h
        · have := hflt b (.inl h); omega
        · have := hflt b (.inr (hq4 b (hin5 b h))); omega
      refine ⟨(done ++ [x], todo, out ++ [y]), ⟨sq5, so', at_ ⟨rfl, rfl, trivial⟩, by simpa using hdt, hp10, fun b hb => hq4 b (hin5 b hb), hO10, by rw [List.map_append, List.map_append, hsay]; simp [hc.says], (u47.ext hc9.ext).trans' u10 fun b hb hf => by have := hO7.new b hf; omega⟩, by simp⟩
end Go.Proofs.Ytpnigekkbmanlaa
