/- DueFirm's walk: it answers true. Conditions: what is read; room. -/
import Derived.Test.YtpnigekkbmanlaaD10
namespace Go.Proofs.Ytpnigekkbmanlaa
open Sx Hp

/-- a step of a script -/
structure Op7 where
  kind : Int
  wt : Wt
  mark : Int
def Op7.cells (o : Op7) : List Value := [.int .i64 o.kind, .int .i64 o.wt.m.dec, .slice o.wt.m.na o.wt.m.names.length o.wt.m.nc, .slice o.wt.m.la o.wt.m.lens.length o.wt.m.lc, .slice o.wt.m.va o.wt.m.vals.length o.wt.m.vc, .slice o.wt.ba o.wt.bs.length o.wt.bc, .int .i64 o.mark]
theorem op7_len (o : Op7) : o.cells.length = 7 := rfl

/-- what is told, what waits, what was taken in -/
structure Fp (begun : Bool) (mark : Int) (S IN out : List Wt) : Prop where
  perm : (out.map Wt.says ++ S.map Wt.says).Perm (IN.map Wt.says)
  rise : Rise (out ++ S)
  lo : begun = true → ∀ o ∈ out, by_ mark o = true
  hi : begun = true → ∀ s ∈ S, by_ mark s = false
  no : begun = false → out = []
theorem Fp.len {begun : Bool} {mark : Int} {S IN out : List Wt} (h : Fp begun mark S IN out) : out.length + S.length = IN.length := by
  have := h.perm.length_eq
  simpa using this
theorem Fp.mem {begun : Bool} {mark : Int} {S IN out : List Wt} (h : Fp begun mark S IN out) {s : Sw} : ((∃ x ∈ out, x.says = s) ∨ ∃ x ∈ S, x.says = s) ↔ ∃ x ∈ IN, x.says = s := by
  have := h.perm.mem_iff (a := s)
  simpa only [List.mem_append, List.mem_map] using this
/-- whether an alike one waits is whether one was taken in -/
theorem Fp.key {begun : Bool} {mark : Int} {S IN out : List Wt} (h : Fp begun mark S IN out) {x : Wt} (hx : begun = true → by_ mark x = false) : (∃ y ∈ S, y.m.key = x.m.key) ↔ ∃ y ∈ IN, y.m.key = x.m.key := by
  constructor
  · rintro ⟨y, hy, hk⟩
    obtain ⟨z, hz, hs⟩ := h.mem.1 (.inr ⟨y, hy, rfl⟩)
    exact ⟨z, hz, by rw [says_key hs, hk]⟩
  · rintro ⟨y, hy, hk⟩
    rcases h.mem.2 ⟨y, hy, rfl⟩ with ⟨z, hz, hs⟩ | ⟨z, hz, hs⟩
    · cases hb : begun with
      | false => rw [h.no hb] at hz; simp at hz
      | true =>
        have h1 := h.lo hb z hz
        have h2 := hx hb
        have hk2 : z.m.key = x.m.key := by rw [says_key hs, hk]
        simp only [Mt.key, Prod.mk.injEq] at hk2
        simp only [by_, hk2.1] at h1 h2
        rw [h2] at h1
        cases h1
    · exact ⟨z, hz, by rw [says_key hs, hk]⟩
theorem Fp.add {begun : Bool} {mark : Int} {S IN out : List Wt} (h : Fp begun mark S IN out) {x y : Wt} (hx : begun = true → by_ mark x = false) (hs : y.says = x.says) (hr : Rise (put wlt S y)) : Fp begun mark (put wlt S y) (IN ++ [x]) out := by
  have hyb : begun = true → by_ mark y = false := fun hb => by rw [by_says hs]; exact hx hb
  refine ⟨?_, ?_, h.lo, fun hb s hsm => ?_, h.no⟩
  · have h1 : ((put wlt S y).map Wt.says).Perm (S.map Wt.says ++ [x.says]) := by
      have := (perm_putW (lt := wlt) (x := y) S).map Wt.says
      rw [List.map_append] at this
      simpa [hs] using this
    rw [List.map_append]
    refine (List.Perm.append_left _ h1).trans ?_
    rw [← List.append_assoc]
    exact h.perm.append_right _
  · obtain ⟨r1, r2, r3⟩ := List.pairwise_append.1 h.rise
    refine List.pairwise_append.2 ⟨r1, hr, fun o ho s hsm => ?_⟩
    rcases mem_putW.1 hsm with rfl | hsm
    · cases hb : begun with
      | false => rw [h.no hb] at ho; simp at ho
      | true =>
        have q1 := h.lo hb o ho
        have q2 := hyb hb
        simp only [by_, decide_eq_true_eq, decide_eq_false_iff_not] at q1 q2
        rw [wlt, klt_dec (by omega)]
        exact decide_eq_true (by omega)
    · exact r3 o ho s hsm
  · rcases mem_putW.1 hsm with rfl | hsm
    · exact hyb hb
    · exact h.hi hb s hsm
theorem Fp.take {begun : Bool} {mark m : Int} {S IN out l : List Wt} (h : Fp begun mark S IN out) (hm : begun = true → mark ≤ m) (hl : l.map Wt.says = (S.takeWhile (by_ m)).map Wt.says) : Fp true m (S.dropWhile (by_ m)) IN (out ++ l) := by
  obtain ⟨r1, r2, r3⟩ := List.pairwise_append.1 h.rise
  have hsp : out.map Wt.says ++ S.map Wt.says = (out ++ l).map Wt.says ++ (S.dropWhile (by_ m)).map Wt.says := by
    have e : (S.takeWhile (by_ m)).map Wt.says ++ (S.dropWhile (by_ m)).map Wt.says = S.map Wt.says := by rw [← List.map_append, List.takeWhile_append_dropWhile]
    rw [List.map_append, List.append_assoc, hl, e]
  refine ⟨by rw [← hsp]; exact h.perm, ?_, fun _ o ho => ?_, fun _ s hs => drop_by r2 s hs, fun h => by cases h⟩
  · have h1 : ((out ++ l) ++ S.dropWhile (by_ m)).map Wt.says = (out ++ S).map Wt.says := by rw [List.map_append (l₁ := out ++ l), ← hsp, ← List.map_append]
    exact rise_says h1 h.rise
  · rcases List.mem_append.1 ho with ho | ho
    · cases hb : begun with
      | false => rw [h.no hb] at ho; simp at ho
      | true =>
        have q1 := h.lo hb o ho
        have q2 := hm hb
        simp only [by_, decide_eq_true_eq] at q1 ⊢
        omega
    · have : o.says ∈ (S.takeWhile (by_ m)).map Wt.says := by rw [← hl]; exact List.mem_map_of_mem ho
      obtain ⟨t, ht, hts⟩ := List.mem_map.1 this
      rw [← by_says hts]
      exact take_by t ht

/-- DueFirm's memory -/
structure Fm (w wk : World) (bd : Nat) (G : Nat → Prop) (vin vo : Value) (S IN out : List Wt) (N : Nat) : Prop where
  dv : Dv wk bd G S N
  gb : ∀ b, G b → w.heap.size ≤ b ∧ b < wk.heap.size
  own : Own wk 40 5 vin IN.length (fl Wt.cells IN)
  inb : ∀ b, isIn vin b → w.heap.size ≤ b ∧ ¬G b
  lst : Lst tWt 40 w wk vo out
  ob : ∀ b, isIn vo b → ¬G b ∧ ¬isIn vin b
  oe : ∀ y ∈ out, ∀ b, y.In b → ¬G b ∧ ¬isIn vin b
  ext : Ext w wk
  rdy : ∀ y ∈ IN, y.Rdy w
theorem Fm.at {w wk wn : World} {bd : Nat} {G : Nat → Prop} {vin vo : Value} {S IN out : List Wt} {N : Nat} (h : Fm w wk bd G vin vo S IN out N) (u : Ext wk wn) : Fm w wn bd G vin vo S IN out N := by
  have := u.size
  exact ⟨h.dv.at u, fun b hb => ⟨(h.gb b hb).1, by have := (h.gb b hb).2; omega⟩, h.own.at u, h.inb, h.lst.at u, h.ob, h.oe, h.ext.trans u, h.rdy⟩
theorem Fm.rin {w wk : World} {bd : Nat} {G : Nat → Prop} {vin vo : Value} {S IN out : List Wt} {N : Nat} (h : Fm w wk bd G vin vo S IN out N) : RL wk vin IN := ⟨h.own.rd, fun y hy => (h.rdy y hy).at h.ext⟩

/-- the counting of what was decided -/
def cnt (begun : Bool) (mark : Int) (l : List Wt) : Nat := if begun then l.countP (by_ mark) else 0
theorem Fp.count {begun : Bool} {mark : Int} {S IN out : List Wt} (h : Fp begun mark S IN out) : cnt begun mark IN = out.length := by
  unfold cnt
  cases hb : begun with
  | false => rw [h.no hb]; rfl
  | true =>
    have hc : ∀ l : List Wt, l.countP (by_ mark) = (l.map Wt.says).countP (bys mark) := fun l => by rw [List.countP_map]; rfl
    have h1 := h.perm.countP_eq (bys mark)
    rw [List.countP_append, ← hc, ← hc, ← hc] at h1
    have h2 : out.countP (by_ mark) = out.length := List.countP_eq_length.2 (h.lo hb)
    have h3 : S.countP (by_ mark) = 0 := List.countP_eq_zero.2 fun s hs => by rw [h.hi hb s hs]; simp
    simp only [if_true]
    omega
theorem cnt_step {begun : Bool} {mark : Int} {l : List Wt} {i : Nat} {x : Wt} (hx : l[i]? = some x) : cnt begun mark (l.take (i + 1)) = cnt begun mark (l.take i) + if begun && by_ mark x then 1 else 0 := by
  unfold cnt
  rw [take_succ' hx, List.countP_append]
  cases begun <;> simp [List.countP_cons]

set_option maxHeartbeats 4000000 in
set_option maxRecDepth 100000 in
theorem walk7 {w : World} {a0 : Option Addr} {c0 : Nat} {ls : List Op7} (h1 : Rd w 7 (.slice a0 ls.length c0) ls.length (fl Op7.cells ls)) (hRw : ∀ o ∈ ls, o.wt.Rdy w) (hb : ls.length * 104 ≤ 140737488351232) :
    Gets Try.prog 7 [.slice a0 ls.length c0] w fun v w' => v = .bool true ∧ Ext w w' := by
  have hr112 : Room ls.length 112 := by
    refine ⟨by omega, ?_⟩
    rw [Nat.add_mul, Nat.add_mul]
    omega
  have hr104 : Room ls.length 104 := hr112.bytes (by omega)
  refine ⟨GoFn.h, calls_of_swp 144 Try.func7 Try.ntmps7 rfl (Nat.le_of_ble_eq_true rfl) ?_⟩
  (repeat (first | refine swp_seq ?_ | refine swp_block ?_)); refine swp_region (by kernel_rfl) ?_
  repeat (first | refine x_move (by rfl) ?_ | refine x_as (by rfl) (by rfl) ?_ | refine x_skip (by rfl) ?_ | refine x_fld (by rfl) (by rfl) FldO.h ?_ | refine x_nilck (by rfl) (by rfl) ?_ | refine x_len (by rfl) (by rfl) ElOf.some ?_ | refine x_ext (by rfl) (by rfl) (by rfl) ?_ | refine x_pickT (by rfl) (by rfl) (by rfl) ?_ | refine x_pickF (by rfl) (by rfl) (by rfl) ?_ | refine x_add (by rfl) (by rfl) (by rfl) (by omega) ?_ | refine x_sub (by rfl) (by rfl) (by rfl) (by omega) ?_ | refine x_not (by rfl) (by rfl) ?_)
  refine x_nilw ?_
  (repeat (first | refine swp_seq ?_ | refine swp_block ?_)); refine swp_region (by kernel_rfl) ?_
  refine w_call (by rfl) (by rfl) (by rfl) (due_new w) ?_
  rintro _ w1 ⟨bd, rfl, hd1, u1⟩
  repeat (first | refine x_move (by rfl) ?_ | refine x_as (by rfl) (by rfl) ?_ | refine x_skip (by rfl) ?_ | refine x_fld (by rfl) (by rfl) FldO.h ?_ | refine x_nilck (by rfl) (by rfl) ?_ | refine x_len (by rfl) (by rfl) ElOf.some ?_ | refine x_ext (by rfl) (by rfl) (by rfl) ?_ | refine x_pickT (by rfl) (by rfl) (by rfl) ?_ | refine x_pickF (by rfl) (by rfl) (by rfl) ?_ | refine x_add (by rfl) (by rfl) (by rfl) (by omega) ?_ | refine x_sub (by rfl) (by rfl) (by rfl) (by omega) ?_ | refine x_not (by rfl) (by rfl) ?_)
  refine x_nilw ?_
  (repeat (first | refine swp_seq ?_ | refine swp_block ?_)); refine swp_region (by kernel_rfl) ?_
  repeat (first | refine x_move (by rfl) ?_ | refine x_as (by rfl) (by rfl) ?_ | refine x_skip (by rfl) ?_ | refine x_fld (by rfl) (by rfl) FldO.h ?_ | refine x_nilck (by rfl) (by rfl) ?_ | refine x_len (by rfl) (by rfl) ElOf.some ?_ | refine x_ext (by rfl) (by rfl) (by rfl) ?_ | refine x_pickT (by rfl) (by rfl) (by rfl) ?_ | refine x_pickF (by rfl) (by rfl) (by rfl) ?_ | refine x_add (by rfl) (by rfl) (by rfl) (by omega) ?_ | refine x_sub (by rfl) (by rfl) (by rfl) (by omega) ?_ | refine x_not (by rfl) (by rfl) ?_)
  refine x_eqlP Try.underlying41 (by rfl) (by rfl) (by rfl) ?_
  refine x_nilw ?_
  (repeat (first | refine swp_seq ?_ | refine swp_block ?_))
  refine swp_false (by rfl) (swp_skip ?_)
  (repeat (first | refine swp_seq ?_ | refine swp_block ?_)); refine swp_region (by kernel_rfl) ?_
  repeat (first | refine x_move (by rfl) ?_ | refine x_as (by rfl) (by rfl) ?_ | refine x_skip (by rfl) ?_ | refine x_fld (by rfl) (by rfl) FldO.h ?_ | refine x_nilck (by rfl) (by rfl) ?_ | refine x_len (by rfl) (by rfl) ElOf.some ?_ | refine x_ext (by rfl) (by rfl) (by rfl) ?_ | refine x_pickT (by rfl) (by rfl) (by rfl) ?_ | refine x_pickF (by rfl) (by rfl) (by rfl) ?_ | refine x_add (by rfl) (by rfl) (by rfl) (by omega) ?_ | refine x_sub (by rfl) (by rfl) (by rfl) (by omega) ?_ | refine x_not (by rfl) (by rfl) ?_)
  refine x_nilw ?_
  (repeat (first | refine swp_seq ?_ | refine swp_block ?_)); refine swp_region (by kernel_rfl) ?_
  repeat (first | refine x_move (by rfl) ?_ | refine x_as (by rfl) (by rfl) ?_ | refine x_skip (by rfl) ?_ | refine x_fld (by rfl) (by rfl) FldO.h ?_ | refine x_nilck (by rfl) (by rfl) ?_ | refine x_len (by rfl) (by rfl) ElOf.some ?_ | refine x_ext (by rfl) (by rfl) (by rfl) ?_ | refine x_pickT (by rfl) (by rfl) (by rfl) ?_ | refine x_pickF (by rfl) (by rfl) (by rfl) ?_ | refine x_add (by rfl) (by rfl) (by rfl) (by omega) ?_ | refine x_sub (by rfl) (by rfl) (by rfl) (by omega) ?_ | refine x_not (by rfl) (by rfl) ?_)
  refine x_nilw ?_
  (repeat (first | refine swp_seq ?_ | refine swp_block ?_)); refine swp_region (by kernel_rfl) ?_
  repeat (first | refine x_move (by rfl) ?_ | refine x_as (by rfl) (by rfl) ?_ | refine x_skip (by rfl) ?_ | refine x_fld (by rfl) (by rfl) FldO.h ?_ | refine x_nilck (by rfl) (by rfl) ?_ | refine x_len (by rfl) (by rfl) ElOf.some ?_ | refine x_ext (by rfl) (by rfl) (by rfl) ?_ | refine x_pickT (by rfl) (by rfl) (by rfl) ?_ | refine x_pickF (by rfl) (by rfl) (by rfl) ?_ | refine x_add (by rfl) (by rfl) (by rfl) (by omega) ?_ | refine x_sub (by rfl) (by rfl) (by rfl) (by omega) ?_ | refine x_not (by rfl) (by rfl) ?_)
  refine x_nilw ?_
  (repeat (first | refine swp_seq ?_ | refine swp_block ?_)); refine swp_region (by kernel_rfl) ?_
  repeat (first | refine x_move (by rfl) ?_ | refine x_as (by rfl) (by rfl) ?_ | refine x_skip (by rfl) ?_ | refine x_fld (by rfl) (by rfl) FldO.h ?_ | refine x_nilck (by rfl) (by rfl) ?_ | refine x_len (by rfl) (by rfl) ElOf.some ?_ | refine x_ext (by rfl) (by rfl) (by rfl) ?_ | refine x_pickT (by rfl) (by rfl) (by rfl) ?_ | refine x_pickF (by rfl) (by rfl) (by rfl) ?_ | refine x_add (by rfl) (by rfl) (by rfl) (by omega) ?_ | refine x_sub (by rfl) (by rfl) (by rfl) (by omega) ?_ | refine x_not (by rfl) (by rfl) ?_)
  refine x_nilw ?_
  (repeat (first | refine swp_seq ?_ | refine swp_block ?_)); refine swp_region (by kernel_rfl) ?_
  repeat (first | refine x_move (by rfl) ?_ | refine x_as (by rfl) (by rfl) ?_ | refine x_skip (by rfl) ?_ | refine x_fld (by rfl) (by rfl) FldO.h ?_ | refine x_nilck (by rfl) (by rfl) ?_ | refine x_len (by rfl) (by rfl) ElOf.some ?_ | refine x_ext (by rfl) (by rfl) (by rfl) ?_ | refine x_pickT (by rfl) (by rfl) (by rfl) ?_ | refine x_pickF (by rfl) (by rfl) (by rfl) ?_ | refine x_add (by rfl) (by rfl) (by rfl) (by omega) ?_ | refine x_sub (by rfl) (by rfl) (by rfl) (by omega) ?_ | refine x_not (by rfl) (by rfl) ?_)
  refine x_nilw ?_
  refine swp_fit [(0, .slice a0 ls.length c0), (3, .pointer (some ⟨bd, 0, none⟩)), (4, .slice none 0 0), (5, .slice none 0 0), (6, .bool false), (7, .int .i64 0), (8, .int .i64 ((0 : Nat) : Int))] ⟨rfl, rfl, rfl, rfl, rfl, rfl, rfl, trivial⟩ fun ρ => ?_
  (repeat (first | refine swp_seq ?_ | refine swp_block ?_))
  refine swp_loop (fun (i : Nat) σ w2 => ∃ G vin vo S IN out N begun mark, At σ [(0, .slice a0 ls.length c0), (3, .pointer (some ⟨bd, 0, none⟩)), (4, vin), (5, vo), (6, .bool begun), (7, .int .i64 mark), (8, .int .i64 (i : Nat))] ∧ i ≤ ls.length ∧ Fm w w2 bd G vin vo S IN out N ∧ Fp begun mark S IN out ∧ IN.length ≤ i ∧ N ≤ i) (fun i => ls.length - i) 0 ⟨_, .slice none 0 0, .slice none 0 0, [], [], [], 0, false, 0, at_ ⟨rfl, rfl, rfl, rfl, rfl, rfl, rfl, trivial⟩, by omega, ⟨hd1.shrink, fun b hb => hb, Own.nil _ _ _, fun b h => h.elim, Lst.nil _ _ _ _, fun b h => h.elim, by simp, u1, by simp⟩, ⟨List.Perm.refl _, List.Pairwise.nil, by simp, by simp, fun _ => rfl⟩, by simp, by omega⟩ ?_
  rintro i σ w2 ⟨G, vin, vo, S, IN, out, N, begun, mark, ⟨ρ, rfl⟩, hi, hM, hP, hIl, hNl⟩
  (repeat (first | refine swp_seq ?_ | refine swp_block ?_)); refine swp_region (by kernel_rfl) ?_
  repeat (first | refine x_move (by rfl) ?_ | refine x_as (by rfl) (by rfl) ?_ | refine x_skip (by rfl) ?_ | refine x_fld (by rfl) (by rfl) FldO.h ?_ | refine w_load (by rfl) (by rfl) (load_one OneT.h (by assumption) (by rfl)) ?_ | refine x_nilck (by rfl) (by rfl) ?_ | refine x_len (by rfl) (by rfl) ElOf.some ?_ | refine x_iface (by rfl) (by rfl) NIf.h ?_ | refine x_ext (by rfl) (by rfl) (by rfl) ?_ | refine x_pickT (by rfl) (by rfl) (by rfl) ?_ | refine x_pickF (by rfl) (by rfl) (by rfl) ?_ | refine x_add (by rfl) (by rfl) (by rfl) (by omega) ?_ | refine x_sub (by rfl) (by rfl) (by rfl) (by omega) ?_ | refine x_lss (by rfl) (by rfl) (by rfl) ?_ | refine x_geq (by rfl) (by rfl) (by rfl) ?_ | refine x_leq (by rfl) (by rfl) (by rfl) ?_ | refine x_gtr (by rfl) (by rfl) (by rfl) ?_ | refine x_eql (by rfl) (by rfl) (by rfl) ?_ | refine x_neq (by rfl) (by rfl) (by rfl) ?_ | refine x_not (by rfl) (by rfl) ?_)
  refine x_nilw ?_
  (repeat (first | refine swp_seq ?_ | refine swp_block ?_))
  refine swp_if (by rfl) (fun h0 => swp_skip ?_) (fun h0 => ?_)
  · have hi' : i < ls.length := by omega
    obtain ⟨o, ho⟩ := nthE hi'
    have hoR := hRw o (List.mem_of_getElem? ho)
    obtain ⟨b1, o1, d1, he1, -, -⟩ := h1.pos (by omega)
    simp only [Value.slice.injEq] at he1
    obtain ⟨rfl, _, rfl⟩ := he1
    (repeat (first | with_reducible refine n_then ?_ | with_reducible refine n_block ?_ | with_reducible refine n_jump ?_))
    (repeat (first | refine swp_seq ?_ | refine swp_block ?_)); refine swp_region (by kernel_rfl) ?_
    repeat (first | refine x_move (by rfl) ?_ | refine x_as (by rfl) (by rfl) ?_ | refine x_skip (by rfl) ?_ | refine x_fld (by rfl) (by rfl) FldO.h ?_ | refine x_nilck (by rfl) (by rfl) ?_ | refine x_len (by rfl) (by rfl) ElOf.some ?_ | refine x_ext (by rfl) (by rfl) (by rfl) ?_ | refine x_pickT (by rfl) (by rfl) (by rfl) ?_ | refine x_pickF (by rfl) (by rfl) (by rfl) ?_ | refine x_add (by rfl) (by rfl) (by rfl) (by omega) ?_ | refine x_sub (by rfl) (by rfl) (by rfl) (by omega) ?_ | refine x_not (by rfl) (by rfl) ?_)
    refine x_idx i (by rfl) (by rfl) (by rfl) ElSz.h rfl hi' ?_
    refine w_load (by rfl) (by rfl) (rd_load op7_len AggT.h (h1.at hM.ext) ho rfl rfl) ?_
    refine w_alloc (by rfl) (by rfl) ZeroT.h ?_; intro b9 w3 e3 u3 h3
    refine w_store (xs := o.cells) (by rfl) (by rfl) (by rfl) (by rfl) SzT.h (by rfl) (by rfl) h3 (by simp) ?_
    intro w4 u4 h4 _
    refine x_nilw ?_
    replace h4 : Blk w4 b9 55 o.cells := h4
    have u24 : Ext w2 w4 := u3.trans' u4 fun b hb e => by have e' : b = b9 := e; omega
    have hb9 : w.heap.size ≤ b9 := by have := hM.ext.size; omega
    have hn9 : ¬G b9 ∧ ¬isIn vin b9 ∧ ¬isIn vo b9 := ⟨fun h => by have := (hM.gb b9 h).2; omega, fun h => by have := hM.own.lt h; omega, fun h => by have := hM.lst.own.lt h; omega⟩
    have hM4 := hM.at u24
    clear hM u24 u3 u4 h3
    refine swp_fit [(0, .slice (some ⟨b1, o1, none⟩) ls.length c0), (3, .pointer (some ⟨bd, 0, none⟩)), (4, vin), (5, vo), (6, .bool begun), (7, .int .i64 mark), (8, .int .i64 (i : Nat)), (9, .pointer (some ⟨b9, 0, none⟩))] ⟨rfl, rfl, rfl, rfl, rfl, rfl, rfl, rfl, trivial⟩ fun ρ => ?_
    refine swp_seq ?_
    refine PEv.swp_cutQ (fun σ w5 => ∃ G vin S IN N, At σ [(0, .slice (some ⟨b1, o1, none⟩) ls.length c0), (3, .pointer (some ⟨bd, 0, none⟩)), (4, vin), (5, vo), (6, .bool begun), (7, .int .i64 mark), (8, .int .i64 (i : Nat)), (9, .pointer (some ⟨b9, 0, none⟩))] ∧ Fm w w5 bd G vin vo S IN out N ∧ Fp begun mark S IN out ∧ IN.length ≤ i + 1 ∧ N ≤ i + 1 ∧ Blk w5 b9 55 o.cells ∧ ¬G b9 ∧ ¬isIn vin b9) ?_ ?_
    · (repeat (first | refine swp_seq ?_ | refine swp_block ?_))
      refine PEv.swp_cutQ (fun σ w' => At σ [(0, .slice (some ⟨b1, o1, none⟩) ls.length c0), (3, .pointer (some ⟨bd, 0, none⟩)), (4, vin), (5, vo), (6, .bool begun), (7, .int .i64 mark), (8, .int .i64 (i : Nat)), (9, .pointer (some ⟨b9, 0, none⟩)), (43, .bool (decide (o.kind = 1 ∧ (begun = true → mark < o.wt.m.dec))))] ∧ w4 = w') ?_ ?_
      · by_cases hk : o.kind = 1
        · cases hbg : begun with
          | false =>
            rw [show decide (o.kind = 1 ∧ (false = true → mark < o.wt.m.dec)) = true from decide_eq_true ⟨hk, fun h => by cases h⟩]
            (repeat (first | refine swp_seq ?_ | refine swp_block ?_)); refine swp_region (by kernel_rfl) ?_
            repeat (first | refine x_move (by rfl) ?_ | refine x_as (by rfl) (by rfl) ?_ | refine x_skip (by rfl) ?_ | refine x_fld (by rfl) (by rfl) FldO.h ?_ | refine x_nilck (by rfl) (by rfl) ?_ | refine x_len (by rfl) (by rfl) ElOf.some ?_ | refine x_ext (by rfl) (by rfl) (by rfl) ?_ | refine x_pickT (by rfl) (by rfl) (by rfl) ?_ | refine x_pickF (by rfl) (by rfl) (by rfl) ?_ | refine x_add (by rfl) (by rfl) (by rfl) (by omega) ?_ | refine x_sub (by rfl) (by rfl) (by rfl) (by omega) ?_ | refine x_not (by rfl) (by rfl) ?_)
            refine w_load (by rfl) (by rfl) (load_one (v := .int .i64 o.kind) OneT.h h4 (by rfl)) ?_
            refine x_eqlT (by rfl) (by rfl) (by rfl) hk ?_
            repeat (first | refine x_move (by rfl) ?_ | refine x_as (by rfl) (by rfl) ?_ | refine x_skip (by rfl) ?_ | refine x_fld (by rfl) (by rfl) FldO.h ?_ | refine x_nilck (by rfl) (by rfl) ?_ | refine x_len (by rfl) (by rfl) ElOf.some ?_ | refine x_ext (by rfl) (by rfl) (by rfl) ?_ | refine x_pickT (by rfl) (by rfl) (by rfl) ?_ | refine x_pickF (by rfl) (by rfl) (by rfl) ?_ | refine x_add (by rfl) (by rfl) (by rfl) (by omega) ?_ | refine x_sub (by rfl) (by rfl) (by rfl) (by omega) ?_ | refine x_not (by rfl) (by rfl) ?_)
            refine x_nilw ?_
            exact ⟨rfl, at_ ⟨rfl, rfl, rfl, rfl, rfl, rfl, rfl, rfl, rfl, trivial⟩, rfl⟩
          | true =>
            by_cases hd : mark < o.wt.m.dec
            · rw [show decide (o.kind = 1 ∧ (true = true → mark < o.wt.m.dec)) = true from decide_eq_true ⟨hk, fun _ => hd⟩]
              (repeat (first | refine swp_seq ?_ | refine swp_block ?_)); refine swp_region (by kernel_rfl) ?_
              repeat (first | refine x_move (by rfl) ?_ | refine x_as (by rfl) (by rfl) ?_ | refine x_skip (by rfl) ?_ | refine x_fld (by rfl) (by rfl) FldO.h ?_ | refine x_nilck (by rfl) (by rfl) ?_ | refine x_len (by rfl) (by rfl) ElOf.some ?_ | refine x_ext (by rfl) (by rfl) (by rfl) ?_ | refine x_pickT (by rfl) (by rfl) (by rfl) ?_ | refine x_pickF (by rfl) (by rfl) (by rfl) ?_ | refine x_add (by rfl) (by rfl) (by rfl) (by omega) ?_ | refine x_sub (by rfl) (by rfl) (by rfl) (by omega) ?_ | refine x_not (by rfl) (by rfl) ?_)
              refine w_load (by rfl) (by rfl) (load_one (v := .int .i64 o.kind) OneT.h h4 (by rfl)) ?_
              refine x_eqlT (by rfl) (by rfl) (by rfl) hk ?_
              repeat (first | refine x_move (by rfl) ?_ | refine x_as (by rfl) (by rfl) ?_ | refine x_skip (by rfl) ?_ | refine x_fld (by rfl) (by rfl) FldO.h ?_ | refine x_nilck (by rfl) (by rfl) ?_ | refine x_len (by rfl) (by rfl) ElOf.some ?_ | refine x_ext (by rfl) (by rfl) (by rfl) ?_ | refine x_pickT (by rfl) (by rfl) (by rfl) ?_ | refine x_pickF (by rfl) (by rfl) (by rfl) ?_ | refine x_add (by rfl) (by rfl) (by rfl) (by omega) ?_ | refine x_sub (by rfl) (by rfl) (by rfl) (by omega) ?_ | refine x_not (by rfl) (by rfl) ?_)
              refine w_load (by rfl) (by rfl) (load_one (v := .int .i64 o.wt.m.dec) OneT.h h4 (by rfl)) ?_
              repeat (first | refine x_move (by rfl) ?_ | refine x_as (by rfl) (by rfl) ?_ | refine x_skip (by rfl) ?_ | refine x_fld (by rfl) (by rfl) FldO.h ?_ | refine x_nilck (by rfl) (by rfl) ?_ | refine x_len (by rfl) (by rfl) ElOf.some ?_ | refine x_ext (by rfl) (by rfl) (by rfl) ?_ | refine x_pickT (by rfl) (by rfl) (by rfl) ?_ | refine x_pickF (by rfl) (by rfl) (by rfl) ?_ | refine x_add (by rfl) (by rfl) (by rfl) (by omega) ?_ | refine x_sub (by rfl) (by rfl) (by rfl) (by omega) ?_ | refine x_not (by rfl) (by rfl) ?_)
              refine x_gtrT (by rfl) (by rfl) (by rfl) hd ?_
              repeat (first | refine x_move (by rfl) ?_ | refine x_as (by rfl) (by rfl) ?_ | refine x_skip (by rfl) ?_ | refine x_fld (by rfl) (by rfl) FldO.h ?_ | refine x_nilck (by rfl) (by rfl) ?_ | refine x_len (by rfl) (by rfl) ElOf.some ?_ | refine x_ext (by rfl) (by rfl) (by rfl) ?_ | refine x_pickT (by rfl) (by rfl) (by rfl) ?_ | refine x_pickF (by rfl) (by rfl) (by rfl) ?_ | refine x_add (by rfl) (by rfl) (by rfl) (by omega) ?_ | refine x_sub (by rfl) (by rfl) (by rfl) (by omega) ?_ | refine x_not (by rfl) (by rfl) ?_)
              refine x_nilw ?_
              exact ⟨rfl, at_ ⟨rfl, rfl, rfl, rfl, rfl, rfl, rfl, rfl, rfl, trivial⟩, rfl⟩
            · rw [show decide (o.kind = 1 ∧ (true = true → mark < o.wt.m.dec)) = false from decide_eq_false fun h => hd (h.2 rfl)]
              (repeat (first | refine swp_seq ?_ | refine swp_block ?_)); refine swp_region (by kernel_rfl) ?_
              repeat (first | refine x_move (by rfl) ?_ | refine x_as (by rfl) (by rfl) ?_ | refine x_skip (by rfl) ?_ | refine x_fld (by rfl) (by rfl) FldO.h ?_ | refine x_nilck (by rfl) (by rfl) ?_ | refine x_len (by rfl) (by rfl) ElOf.some ?_ | refine x_ext (by rfl) (by rfl) (by rfl) ?_ | refine x_pickT (by rfl) (by rfl) (by rfl) ?_ | refine x_pickF (by rfl) (by rfl) (by rfl) ?_ | refine x_add (by rfl) (by rfl) (by rfl) (by omega) ?_ | refine x_sub (by rfl) (by rfl) (by rfl) (by omega) ?_ | refine x_not (by rfl) (by rfl) ?_)
              refine w_load (by rfl) (by rfl) (load_one (v := .int .i64 o.kind) OneT.h h4 (by rfl)) ?_
              refine x_eqlT (by rfl) (by rfl) (by rfl) hk ?_
              repeat (first | refine x_move (by rfl) ?_ | refine x_as (by rfl) (by rfl) ?_ | refine x_skip (by rfl) ?_ | refine x_fld (by rfl) (by rfl) FldO.h ?_ | refine x_nilck (by rfl) (by rfl) ?_ | refine x_len (by rfl) (by rfl) ElOf.some ?_ | refine x_ext (by rfl) (by rfl) (by rfl) ?_ | refine x_pickT (by rfl) (by rfl) (by rfl) ?_ | refine x_pickF (by rfl) (by rfl) (by rfl) ?_ | refine x_add (by rfl) (by rfl) (by rfl) (by omega) ?_ | refine x_sub (by rfl) (by rfl) (by rfl) (by omega) ?_ | refine x_not (by rfl) (by rfl) ?_)
              refine w_load (by rfl) (by rfl) (load_one (v := .int .i64 o.wt.m.dec) OneT.h h4 (by rfl)) ?_
              repeat (first | refine x_move (by rfl) ?_ | refine x_as (by rfl) (by rfl) ?_ | refine x_skip (by rfl) ?_ | refine x_fld (by rfl) (by rfl) FldO.h ?_ | refine x_nilck (by rfl) (by rfl) ?_ | refine x_len (by rfl) (by rfl) ElOf.some ?_ | refine x_ext (by rfl) (by rfl) (by rfl) ?_ | refine x_pickT (by rfl) (by rfl) (by rfl) ?_ | refine x_pickF (by rfl) (by rfl) (by rfl) ?_ | refine x_add (by rfl) (by rfl) (by rfl) (by omega) ?_ | refine x_sub (by rfl) (by rfl) (by rfl) (by omega) ?_ | refine x_not (by rfl) (by rfl) ?_)
              refine x_gtrF (by rfl) (by rfl) (by rfl) hd ?_
              repeat (first | refine x_move (by rfl) ?_ | refine x_as (by rfl) (by rfl) ?_ | refine x_skip (by rfl) ?_ | refine x_fld (by rfl) (by rfl) FldO.h ?_ | refine x_nilck (by rfl) (by rfl) ?_ | refine x_len (by rfl) (by rfl) ElOf.some ?_ | refine x_ext (by rfl) (by rfl) (by rfl) ?_ | refine x_pickT (by rfl) (by rfl) (by rfl) ?_ | refine x_pickF (by rfl) (by rfl) (by rfl) ?_ | refine x_add (by rfl) (by rfl) (by rfl) (by omega) ?_ | refine x_sub (by rfl) (by rfl) (by rfl) (by omega) ?_ | refine x_not (by rfl) (by rfl) ?_)
              refine x_nilw ?_
              exact ⟨rfl, at_ ⟨rfl, rfl, rfl, rfl, rfl, rfl, rfl, rfl, rfl, trivial⟩, rfl⟩
        · rw [show decide (o.kind = 1 ∧ (begun = true → mark < o.wt.m.dec)) = false from decide_eq_false fun h => hk h.1]
          (repeat (first | refine swp_seq ?_ | refine swp_block ?_)); refine swp_region (by kernel_rfl) ?_
          repeat (first | refine x_move (by rfl) ?_ | refine x_as (by rfl) (by rfl) ?_ | refine x_skip (by rfl) ?_ | refine x_fld (by rfl) (by rfl) FldO.h ?_ | refine x_nilck (by rfl) (by rfl) ?_ | refine x_len (by rfl) (by rfl) ElOf.some ?_ | refine x_ext (by rfl) (by rfl) (by rfl) ?_ | refine x_pickT (by rfl) (by rfl) (by rfl) ?_ | refine x_pickF (by rfl) (by rfl) (by rfl) ?_ | refine x_add (by rfl) (by rfl) (by rfl) (by omega) ?_ | refine x_sub (by rfl) (by rfl) (by rfl) (by omega) ?_ | refine x_not (by rfl) (by rfl) ?_)
          refine w_load (by rfl) (by rfl) (load_one (v := .int .i64 o.kind) OneT.h h4 (by rfl)) ?_
          refine x_eqlF (by rfl) (by rfl) (by rfl) hk ?_
          repeat (first | refine x_move (by rfl) ?_ | refine x_as (by rfl) (by rfl) ?_ | refine x_skip (by rfl) ?_ | refine x_fld (by rfl) (by rfl) FldO.h ?_ | refine x_nilck (by rfl) (by rfl) ?_ | refine x_len (by rfl) (by rfl) ElOf.some ?_ | refine x_ext (by rfl) (by rfl) (by rfl) ?_ | refine x_pickT (by rfl) (by rfl) (by rfl) ?_ | refine x_pickF (by rfl) (by rfl) (by rfl) ?_ | refine x_add (by rfl) (by rfl) (by rfl) (by omega) ?_ | refine x_sub (by rfl) (by rfl) (by rfl) (by omega) ?_ | refine x_not (by rfl) (by rfl) ?_)
          refine x_nilw ?_
          exact ⟨rfl, at_ ⟨rfl, rfl, rfl, rfl, rfl, rfl, rfl, rfl, rfl, trivial⟩, rfl⟩
      rintro σ w' ⟨⟨ρ, rfl⟩, rfl⟩
      refine n_then ?_
      (repeat (first | refine swp_seq ?_ | refine swp_block ?_))
      refine swp_if (by rfl) (fun hadd => ?_) (fun _ => swp_skip ?_)
      · have hnd : begun = true → by_ mark o.wt = false := fun hb => by
          have := hadd.2 hb
          simp [by_]
          omega
        have hlen := hP.len
        refine swp_fit [(0, .slice (some ⟨b1, o1, none⟩) ls.length c0), (3, .pointer (some ⟨bd, 0, none⟩)), (4, vin), (5, vo), (6, .bool begun), (7, .int .i64 mark), (8, .int .i64 (i : Nat)), (9, .pointer (some ⟨b9, 0, none⟩))] ⟨rfl, rfl, rfl, rfl, rfl, rfl, rfl, rfl, trivial⟩ fun ρ => ?_
        have hw4 := hM4.ext
        (repeat (first | refine swp_seq ?_ | refine swp_block ?_))
        refine PEv.swp_cutQ (fun σ w5 => ∃ G' S' N' ok, At σ [(0, .slice (some ⟨b1, o1, none⟩) ls.length c0), (3, .pointer (some ⟨bd, 0, none⟩)), (4, vin), (5, vo), (6, .bool begun), (7, .int .i64 mark), (8, .int .i64 (i : Nat)), (9, .pointer (some ⟨b9, 0, none⟩)), (10, .bool ok)] ∧ N' ≤ i + 1 ∧ ok = !IN.any (aliA o.wt) ∧ Fm w w5 bd G' vin vo S' IN out N' ∧ Fp begun mark S' (if ok then IN ++ [o.wt] else IN) out ∧ Blk w5 b9 55 o.cells ∧ ¬G' b9) ?_ ?_
        · (repeat (first | refine swp_seq ?_ | refine swp_block ?_)); refine swp_region (by kernel_rfl) ?_
          repeat (first | refine x_move (by rfl) ?_ | refine x_as (by rfl) (by rfl) ?_ | refine x_skip (by rfl) ?_ | refine x_fld (by rfl) (by rfl) FldO.h ?_ | refine x_nilck (by rfl) (by rfl) ?_ | refine x_len (by rfl) (by rfl) ElOf.some ?_ | refine x_ext (by rfl) (by rfl) (by rfl) ?_ | refine x_pickT (by rfl) (by rfl) (by rfl) ?_ | refine x_pickF (by rfl) (by rfl) (by rfl) ?_ | refine x_add (by rfl) (by rfl) (by rfl) (by omega) ?_ | refine x_sub (by rfl) (by rfl) (by rfl) (by omega) ?_ | refine x_not (by rfl) (by rfl) ?_)
          refine w_load (by rfl) (by rfl) (load_agg (xs := o.wt.cells) AggT.h h4 (by rfl) (by rfl)) ?_
          refine w_call (by rfl) (by rfl) (by rfl) (due_add hM4.dv o.wt (hoR.at hw4) (by omega) (hr112.le (by omega))) ?_
          rintro v w5 h5
          have s4 := hw4.size
          rcases h5 with ⟨rfl, hex, hd5, u5⟩ | ⟨rfl, hno, y, G', hs, hn, hd5, u5, hG'⟩
          · repeat (first | refine x_move (by rfl) ?_ | refine x_as (by rfl) (by rfl) ?_ | refine x_skip (by rfl) ?_ | refine x_fld (by rfl) (by rfl) FldO.h ?_ | refine x_nilck (by rfl) (by rfl) ?_ | refine x_len (by rfl) (by rfl) ElOf.some ?_ | refine x_ext (by rfl) (by rfl) (by rfl) ?_ | refine x_pickT (by rfl) (by rfl) (by rfl) ?_ | refine x_pickF (by rfl) (by rfl) (by rfl) ?_ | refine x_add (by rfl) (by rfl) (by rfl) (by omega) ?_ | refine x_sub (by rfl) (by rfl) (by rfl) (by omega) ?_ | refine x_not (by rfl) (by rfl) ?_)
            refine x_nilw ?_
            have hany : IN.any (aliA o.wt) = true := any_ali.2 ((hP.key hnd).1 hex)
            have s5 := u5.size
            have hM5 := hM4.at u5
            exact ⟨rfl, G, S, N, false, at_ ⟨rfl, rfl, rfl, rfl, rfl, rfl, rfl, rfl, rfl, trivial⟩, by omega, by rw [hany]; rfl, ⟨hd5, hM5.gb, hM5.own, hM5.inb, hM5.lst, hM5.ob, hM5.oe, hM5.ext, hM5.rdy⟩, hP, h4.at u5, hn9.1⟩
          · repeat (first | refine x_move (by rfl) ?_ | refine x_as (by rfl) (by rfl) ?_ | refine x_skip (by rfl) ?_ | refine x_fld (by rfl) (by rfl) FldO.h ?_ | refine x_nilck (by rfl) (by rfl) ?_ | refine x_len (by rfl) (by rfl) ElOf.some ?_ | refine x_ext (by rfl) (by rfl) (by rfl) ?_ | refine x_pickT (by rfl) (by rfl) (by rfl) ?_ | refine x_pickF (by rfl) (by rfl) (by rfl) ?_ | refine x_add (by rfl) (by rfl) (by rfl) (by omega) ?_ | refine x_sub (by rfl) (by rfl) (by rfl) (by omega) ?_ | refine x_not (by rfl) (by rfl) ?_)
            refine x_nilw ?_
            have hany : ¬IN.any (aliA o.wt) = true := fun h => hno ((hP.key hnd).2 (any_ali.1 h))
            have s5 := u5.size
            have hG2 : ∀ b, b < w4.heap.size → (G' b ∧ b < w5.heap.size) → G b := fun b hb h => (hG' b h.1).elim id fun h2 => by omega
            have ho5 := hM4.lst.own
            refine ⟨rfl, _, _, N + 1, true, at_ ⟨rfl, rfl, rfl, rfl, rfl, rfl, rfl, rfl, rfl, trivial⟩, by omega, by simp only [Bool.not_eq_true] at hany; rw [hany]; rfl, ⟨hd5.shrink, fun b hb => ⟨(hG' b hb.1).elim (fun h => (hM4.gb b h).1) fun h => by omega, hb.2⟩, hM4.own.get u5 fun b hb h => (hM4.inb b hb).2 h, fun b hb => ⟨(hM4.inb b hb).1, fun h => (hM4.inb b hb).2 (hG2 b (hM4.own.lt hb) h)⟩, ⟨ho5.get u5 fun b hb h => (hM4.ob b hb).1 h, fun z hz => (hM4.lst.each z hz).get u5 fun b hb h => (hM4.oe z hz b hb).1 h, hM4.lst.new, hM4.lst.newE, hM4.lst.ap⟩, fun b hb => ⟨fun h => (hM4.ob b hb).1 (hG2 b (ho5.lt hb) h), (hM4.ob b hb).2⟩, fun z hz b hb => ⟨fun h => (hM4.oe z hz b hb).1 (hG2 b (tWt.lt (hM4.lst.each z hz) hb) h), (hM4.oe z hz b hb).2⟩, hw4.trans' u5 fun b hb h => by have := (hM4.gb b h).1; omega, hM4.rdy⟩, hP.add hnd hs hd5.rise, h4.get u5 fun h => hn9.1 h, fun h => hn9.1 (hG2 b9 h4.lt h)⟩
        rintro σ w5 ⟨G', S', N', ok, ⟨ρ, rfl⟩, hN', hok, hM5, hP5, h5, hg5⟩
        refine n_then ?_
        have rin := hM5.rin
        obtain ⟨av, cv, rfl⟩ := rin.rd.slice
        (repeat (first | refine swp_seq ?_ | refine swp_block ?_)); refine swp_region (by kernel_rfl) ?_
        repeat (first | refine x_move (by rfl) ?_ | refine x_as (by rfl) (by rfl) ?_ | refine x_skip (by rfl) ?_ | refine x_fld (by rfl) (by rfl) FldO.h ?_ | refine x_nilck (by rfl) (by rfl) ?_ | refine x_len (by rfl) (by rfl) ElOf.some ?_ | refine x_ext (by rfl) (by rfl) (by rfl) ?_ | refine x_pickT (by rfl) (by rfl) (by rfl) ?_ | refine x_pickF (by rfl) (by rfl) (by rfl) ?_ | refine x_add (by rfl) (by rfl) (by rfl) (by omega) ?_ | refine x_sub (by rfl) (by rfl) (by rfl) (by omega) ?_ | refine x_not (by rfl) (by rfl) ?_)
        refine w_load (by rfl) (by rfl) (load_agg (xs := o.wt.cells) AggT.h h5 (by rfl) (by rfl)) ?_
        refine w_call (by rfl) (by rfl) (by rfl) (find_wt rin o.wt (hoR.at hM5.ext) (by omega)) ?_
        rintro _ w6 ⟨rfl, u6⟩
        refine x_lss (by rfl) (by rfl) (by rfl) ?_
        have hlt : decide (findOf IN o.wt < 0) = ok := by
          rw [hok]
          cases hany : IN.any (aliA o.wt) with
          | true =>
            obtain ⟨y, hy, hk⟩ := any_ali.1 hany
            exact decide_eq_false fun h => findOf_neg.1 h y hy hk
          | false =>
            refine decide_eq_true (findOf_neg.2 fun y hy hk => ?_)
            rw [any_ali.2 ⟨y, hy, hk⟩] at hany
            cases hany
        rw [hlt]
        refine x_neqB Try.underlying4 (by rfl) (by rfl) (by rfl) ?_
        rw [show (!(ok == ok)) = false by cases ok <;> rfl]
        refine x_nilw ?_
        have hM6 := hM5.at u6
        have h6 := h5.at u6
        refine swp_fit [(0, .slice (some ⟨b1, o1, none⟩) ls.length c0), (3, .pointer (some ⟨bd, 0, none⟩)), (4, .slice av IN.length cv), (5, vo), (6, .bool begun), (7, .int .i64 mark), (8, .int .i64 (i : Nat)), (9, .pointer (some ⟨b9, 0, none⟩)), (10, .bool ok), (54, .bool false)] ⟨rfl, rfl, rfl, rfl, rfl, rfl, rfl, rfl, rfl, rfl, trivial⟩ fun ρ => ?_
        (repeat (first | refine swp_seq ?_ | refine swp_block ?_))
        refine swp_false (by rfl) (swp_skip ?_)
        (repeat (first | refine swp_seq ?_ | refine swp_block ?_)); refine swp_region (by kernel_rfl) ?_
        repeat (first | refine x_move (by rfl) ?_ | refine x_as (by rfl) (by rfl) ?_ | refine x_skip (by rfl) ?_ | refine x_fld (by rfl) (by rfl) FldO.h ?_ | refine x_nilck (by rfl) (by rfl) ?_ | refine x_len (by rfl) (by rfl) ElOf.some ?_ | refine x_ext (by rfl) (by rfl) (by rfl) ?_ | refine x_pickT (by rfl) (by rfl) (by rfl) ?_ | refine x_pickF (by rfl) (by rfl) (by rfl) ?_ | refine x_add (by rfl) (by rfl) (by rfl) (by omega) ?_ | refine x_sub (by rfl) (by rfl) (by rfl) (by omega) ?_ | refine x_not (by rfl) (by rfl) ?_)
        refine x_nilw ?_
        cases hc : ok with
        | false =>
          rw [hc] at hP5
          (repeat (first | refine swp_seq ?_ | refine swp_block ?_))
          refine swp_false (by rfl) (swp_skip ?_)
          exact ⟨rfl, G', _, S', IN, N', at_ ⟨rfl, rfl, rfl, rfl, rfl, rfl, rfl, rfl, trivial⟩, hM6, hP5, by omega, hN', h6, hg5, hn9.2.1⟩
        | true =>
          rw [hc] at hP5
          (repeat (first | refine swp_seq ?_ | refine swp_block ?_))
          refine swp_true (by rfl) ?_
          (repeat (first | refine swp_seq ?_ | refine swp_block ?_)); refine swp_region (by kernel_rfl) ?_
          repeat (first | refine x_move (by rfl) ?_ | refine x_as (by rfl) (by rfl) ?_ | refine x_skip (by rfl) ?_ | refine x_fld (by rfl) (by rfl) FldO.h ?_ | refine x_nilck (by rfl) (by rfl) ?_ | refine x_len (by rfl) (by rfl) ElOf.some ?_ | refine x_ext (by rfl) (by rfl) (by rfl) ?_ | refine x_pickT (by rfl) (by rfl) (by rfl) ?_ | refine x_pickF (by rfl) (by rfl) (by rfl) ?_ | refine x_add (by rfl) (by rfl) (by rfl) (by omega) ?_ | refine x_sub (by rfl) (by rfl) (by rfl) (by omega) ?_ | refine x_not (by rfl) (by rfl) ?_)
          refine w_load (by rfl) (by rfl) (load_agg (xs := o.wt.cells) AggT.h h6 (by rfl) (by rfl)) ?_
          refine w_bslice (e := 40) (cs := o.wt.cells) (by rfl) (by rfl) (by rfl) (by kernel_rfl) ?_
          intro b7 w7 e7 u7 h7
          refine w_append (more := []) (news := o.wt.cells) (by rfl) (by rfl) (by rfl) (by rfl) SlC.h (hM6.own.at u7) (by rw [List.append_nil]; exact h7) (wt_len _) (wt_one _) (by omega) (hr104.le (by omega)) ?_
          intro sv' w8 own8 u8 in8
          repeat (first | refine x_move (by rfl) ?_ | refine x_as (by rfl) (by rfl) ?_ | refine x_skip (by rfl) ?_ | refine x_fld (by rfl) (by rfl) FldO.h ?_ | refine x_nilck (by rfl) (by rfl) ?_ | refine x_len (by rfl) (by rfl) ElOf.some ?_ | refine x_ext (by rfl) (by rfl) (by rfl) ?_ | refine x_pickT (by rfl) (by rfl) (by rfl) ?_ | refine x_pickF (by rfl) (by rfl) (by rfl) ?_ | refine x_add (by rfl) (by rfl) (by rfl) (by omega) ?_ | refine x_sub (by rfl) (by rfl) (by rfl) (by omega) ?_ | refine x_not (by rfl) (by rfl) ?_)
          refine x_nilw ?_
          have s7 := u7.size; have s8 := u8.size
          have hM7 := hM6.at u7
          have lo7 := hM7.lst.own
          have hfr : ∀ b, w7.heap.size ≤ b → b < w7.heap.size → False := fun b h1 h2 => by omega
          refine ⟨rfl, G', sv', S', IN ++ [o.wt], N', at_ ⟨rfl, rfl, rfl, rfl, rfl, rfl, rfl, rfl, trivial⟩, ⟨hM7.dv.get u8 fun b _ hb h => (hM7.inb b h).2 hb, fun b hb => ⟨(hM7.gb b hb).1, by have := (hM7.gb b hb).2; omega⟩, ?_, fun b hb => ?_, ⟨lo7.get u8 fun b hb h => (hM7.ob b hb).2 h, fun z hz => (hM7.lst.each z hz).get u8 fun b hb h => (hM7.oe z hz b hb).2 h, hM7.lst.new, hM7.lst.newE, hM7.lst.ap⟩, fun b hb => ⟨(hM7.ob b hb).1, fun h => ?_⟩, fun z hz b hb => ⟨(hM7.oe z hz b hb).1, fun h => ?_⟩, hM7.ext.trans' u8 fun b hb h => by have := (hM7.inb b h).1; omega, fun y hy => ?_⟩, hP5, by simp; omega, hN', (h6.at u7).get u8 fun h => hn9.2.1 h, hg5, fun h => ?_⟩
          · rw [List.length_append, List.length_singleton, fl_append, fl_one]
            exact own8
          · rcases in8 b hb with h | h
            · exact hM7.inb b h
            · exact ⟨by have := hM7.ext.size; omega, fun hg => by have := (hM7.gb b hg).2; omega⟩
          · rcases in8 b h with h | h
            · exact (hM7.ob b hb).2 h
            · exact hfr b h (lo7.lt hb)
          · rcases in8 b h with h | h
            · exact (hM7.oe z hz b hb).2 h
            · exact hfr b h (tWt.lt (hM7.lst.each z hz) hb)
          · rcases List.mem_append.1 hy with hy | hy
            · exact hM7.rdy y hy
            · rw [List.mem_singleton.1 hy]; exact hoR
          · rcases in8 b9 h with h | h
            · exact hn9.2.1 h
            · exact hfr b9 h (h6.at u7).lt
      · exact ⟨rfl, G, vin, S, IN, N, at_ ⟨rfl, rfl, rfl, rfl, rfl, rfl, rfl, rfl, trivial⟩, hM4, hP, by omega, by omega, h4, hn9.1, hn9.2.1⟩
    rintro σ w5 ⟨G, vin, S, IN, N, ⟨ρ, rfl⟩, hM, hP, hIl, hNl, h9, hn9, hv9⟩
    refine n_then ?_
    refine PEv.swp_cutQ (fun σ w6 => ∃ vo' S' out' begun' mark', At σ [(0, .slice (some ⟨b1, o1, none⟩) ls.length c0), (3, .pointer (some ⟨bd, 0, none⟩)), (4, vin), (5, vo'), (6, .bool begun'), (7, .int .i64 mark'), (8, .int .i64 (i : Nat))] ∧ Fm w w6 bd G vin vo' S' IN out' N ∧ Fp begun' mark' S' IN out') ?_ ?_
    · (repeat (first | refine swp_seq ?_ | refine swp_block ?_))
      refine PEv.swp_cutQ (fun σ w' => At σ [(0, .slice (some ⟨b1, o1, none⟩) ls.length c0), (3, .pointer (some ⟨bd, 0, none⟩)), (4, vin), (5, vo), (6, .bool begun), (7, .int .i64 mark), (8, .int .i64 (i : Nat)), (9, .pointer (some ⟨b9, 0, none⟩)), (73, .bool (decide (o.kind = 2 ∧ (begun = true → mark ≤ o.mark))))] ∧ w5 = w') ?_ ?_
      · by_cases hk : o.kind = 2
        · cases hbg : begun with
          | false =>
            rw [show decide (o.kind = 2 ∧ (false = true → mark ≤ o.mark)) = true from decide_eq_true ⟨hk, fun h => by cases h⟩]
            (repeat (first | refine swp_seq ?_ | refine swp_block ?_)); refine swp_region (by kernel_rfl) ?_
            repeat (first | refine x_move (by rfl) ?_ | refine x_as (by rfl) (by rfl) ?_ | refine x_skip (by rfl) ?_ | refine x_fld (by rfl) (by rfl) FldO.h ?_ | refine x_nilck (by rfl) (by rfl) ?_ | refine x_len (by rfl) (by rfl) ElOf.some ?_ | refine x_ext (by rfl) (by rfl) (by rfl) ?_ | refine x_pickT (by rfl) (by rfl) (by rfl) ?_ | refine x_pickF (by rfl) (by rfl) (by rfl) ?_ | refine x_add (by rfl) (by rfl) (by rfl) (by omega) ?_ | refine x_sub (by rfl) (by rfl) (by rfl) (by omega) ?_ | refine x_not (by rfl) (by rfl) ?_)
            refine w_load (by rfl) (by rfl) (load_one (v := .int .i64 o.kind) OneT.h h9 (by rfl)) ?_
            refine x_eqlT (by rfl) (by rfl) (by rfl) hk ?_
            repeat (first | refine x_move (by rfl) ?_ | refine x_as (by rfl) (by rfl) ?_ | refine x_skip (by rfl) ?_ | refine x_fld (by rfl) (by rfl) FldO.h ?_ | refine x_nilck (by rfl) (by rfl) ?_ | refine x_len (by rfl) (by rfl) ElOf.some ?_ | refine x_ext (by rfl) (by rfl) (by rfl) ?_ | refine x_pickT (by rfl) (by rfl) (by rfl) ?_ | refine x_pickF (by rfl) (by rfl) (by rfl) ?_ | refine x_add (by rfl) (by rfl) (by rfl) (by omega) ?_ | refine x_sub (by rfl) (by rfl) (by rfl) (by omega) ?_ | refine x_not (by rfl) (by rfl) ?_)
            refine x_nilw ?_
            exact ⟨rfl, at_ ⟨rfl, rfl, rfl, rfl, rfl, rfl, rfl, rfl, rfl, trivial⟩, rfl⟩
          | true =>
            by_cases hd : mark ≤ o.mark
            · rw [show decide (o.kind = 2 ∧ (true = true → mark ≤ o.mark)) = true from decide_eq_true ⟨hk, fun _ => hd⟩]
              (repeat (first | refine swp_seq ?_ | refine swp_block ?_)); refine swp_region (by kernel_rfl) ?_
              repeat (first | refine x_move (by rfl) ?_ | refine x_as (by rfl) (by rfl) ?_ | refine x_skip (by rfl) ?_ | refine x_fld (by rfl) (by rfl) FldO.h ?_ | refine x_nilck (by rfl) (by rfl) ?_ | refine x_len (by rfl) (by rfl) ElOf.some ?_ | refine x_ext (by rfl) (by rfl) (by rfl) ?_ | refine x_pickT (by rfl) (by rfl) (by rfl) ?_ | refine x_pickF (by rfl) (by rfl) (by rfl) ?_ | refine x_add (by rfl) (by rfl) (by rfl) (by omega) ?_ | refine x_sub (by rfl) (by rfl) (by rfl) (by omega) ?_ | refine x_not (by rfl) (by rfl) ?_)
              refine w_load (by rfl) (by rfl) (load_one (v := .int .i64 o.kind) OneT.h h9 (by rfl)) ?_
              refine x_eqlT (by rfl) (by rfl) (by rfl) hk ?_
              repeat (first | refine x_move (by rfl) ?_ | refine x_as (by rfl) (by rfl) ?_ | refine x_skip (by rfl) ?_ | refine x_fld (by rfl) (by rfl) FldO.h ?_ | refine x_nilck (by rfl) (by rfl) ?_ | refine x_len (by rfl) (by rfl) ElOf.some ?_ | refine x_ext (by rfl) (by rfl) (by rfl) ?_ | refine x_pickT (by rfl) (by rfl) (by rfl) ?_ | refine x_pickF (by rfl) (by rfl) (by rfl) ?_ | refine x_add (by rfl) (by rfl) (by rfl) (by omega) ?_ | refine x_sub (by rfl) (by rfl) (by rfl) (by omega) ?_ | refine x_not (by rfl) (by rfl) ?_)
              refine w_load (by rfl) (by rfl) (load_one (v := .int .i64 o.mark) OneT.h h9 (by rfl)) ?_
              repeat (first | refine x_move (by rfl) ?_ | refine x_as (by rfl) (by rfl) ?_ | refine x_skip (by rfl) ?_ | refine x_fld (by rfl) (by rfl) FldO.h ?_ | refine x_nilck (by rfl) (by rfl) ?_ | refine x_len (by rfl) (by rfl) ElOf.some ?_ | refine x_ext (by rfl) (by rfl) (by rfl) ?_ | refine x_pickT (by rfl) (by rfl) (by rfl) ?_ | refine x_pickF (by rfl) (by rfl) (by rfl) ?_ | refine x_add (by rfl) (by rfl) (by rfl) (by omega) ?_ | refine x_sub (by rfl) (by rfl) (by rfl) (by omega) ?_ | refine x_not (by rfl) (by rfl) ?_)
              refine x_geqT (by rfl) (by rfl) (by rfl) hd ?_
              repeat (first | refine x_move (by rfl) ?_ | refine x_as (by rfl) (by rfl) ?_ | refine x_skip (by rfl) ?_ | refine x_fld (by rfl) (by rfl) FldO.h ?_ | refine x_nilck (by rfl) (by rfl) ?_ | refine x_len (by rfl) (by rfl) ElOf.some ?_ | refine x_ext (by rfl) (by rfl) (by rfl) ?_ | refine x_pickT (by rfl) (by rfl) (by rfl) ?_ | refine x_pickF (by rfl) (by rfl) (by rfl) ?_ | refine x_add (by rfl) (by rfl) (by rfl) (by omega) ?_ | refine x_sub (by rfl) (by rfl) (by rfl) (by omega) ?_ | refine x_not (by rfl) (by rfl) ?_)
              refine x_nilw ?_
              exact ⟨rfl, at_ ⟨rfl, rfl, rfl, rfl, rfl, rfl, rfl, rfl, rfl, trivial⟩, rfl⟩
            · rw [show decide (o.kind = 2 ∧ (true = true → mark ≤ o.mark)) = false from decide_eq_false fun h => hd (h.2 rfl)]
              (repeat (first | refine swp_seq ?_ | refine swp_block ?_)); refine swp_region (by kernel_rfl) ?_
              repeat (first | refine x_move (by rfl) ?_ | refine x_as (by rfl) (by rfl) ?_ | refine x_skip (by rfl) ?_ | refine x_fld (by rfl) (by rfl) FldO.h ?_ | refine x_nilck (by rfl) (by rfl) ?_ | refine x_len (by rfl) (by rfl) ElOf.some ?_ | refine x_ext (by rfl) (by rfl) (by rfl) ?_ | refine x_pickT (by rfl) (by rfl) (by rfl) ?_ | refine x_pickF (by rfl) (by rfl) (by rfl) ?_ | refine x_add (by rfl) (by rfl) (by rfl) (by omega) ?_ | refine x_sub (by rfl) (by rfl) (by rfl) (by omega) ?_ | refine x_not (by rfl) (by rfl) ?_)
              refine w_load (by rfl) (by rfl) (load_one (v := .int .i64 o.kind) OneT.h h9 (by rfl)) ?_
              refine x_eqlT (by rfl) (by rfl) (by rfl) hk ?_
              repeat (first | refine x_move (by rfl) ?_ | refine x_as (by rfl) (by rfl) ?_ | refine x_skip (by rfl) ?_ | refine x_fld (by rfl) (by rfl) FldO.h ?_ | refine x_nilck (by rfl) (by rfl) ?_ | refine x_len (by rfl) (by rfl) ElOf.some ?_ | refine x_ext (by rfl) (by rfl) (by rfl) ?_ | refine x_pickT (by rfl) (by rfl) (by rfl) ?_ | refine x_pickF (by rfl) (by rfl) (by rfl) ?_ | refine x_add (by rfl) (by rfl) (by rfl) (by omega) ?_ | refine x_sub (by rfl) (by rfl) (by rfl) (by omega) ?_ | refine x_not (by rfl) (by rfl) ?_)
              refine w_load (by rfl) (by rfl) (load_one (v := .int .i64 o.mark) OneT.h h9 (by rfl)) ?_
              repeat (first | refine x_move (by rfl) ?_ | refine x_as (by rfl) (by rfl) ?_ | refine x_skip (by rfl) ?_ | refine x_fld (by rfl) (by rfl) FldO.h ?_ | refine x_nilck (by rfl) (by rfl) ?_ | refine x_len (by rfl) (by rfl) ElOf.some ?_ | refine x_ext (by rfl) (by rfl) (by rfl) ?_ | refine x_pickT (by rfl) (by rfl) (by rfl) ?_ | refine x_pickF (by rfl) (by rfl) (by rfl) ?_ | refine x_add (by rfl) (by rfl) (by rfl) (by omega) ?_ | refine x_sub (by rfl) (by rfl) (by rfl) (by omega) ?_ | refine x_not (by rfl) (by rfl) ?_)
              refine x_geqF (by rfl) (by rfl) (by rfl) hd ?_
              repeat (first | refine x_move (by rfl) ?_ | refine x_as (by rfl) (by rfl) ?_ | refine x_skip (by rfl) ?_ | refine x_fld (by rfl) (by rfl) FldO.h ?_ | refine x_nilck (by rfl) (by rfl) ?_ | refine x_len (by rfl) (by rfl) ElOf.some ?_ | refine x_ext (by rfl) (by rfl) (by rfl) ?_ | refine x_pickT (by rfl) (by rfl) (by rfl) ?_ | refine x_pickF (by rfl) (by rfl) (by rfl) ?_ | refine x_add (by rfl) (by rfl) (by rfl) (by omega) ?_ | refine x_sub (by rfl) (by rfl) (by rfl) (by omega) ?_ | refine x_not (by rfl) (by rfl) ?_)
              refine x_nilw ?_
              exact ⟨rfl, at_ ⟨rfl, rfl, rfl, rfl, rfl, rfl, rfl, rfl, rfl, trivial⟩, rfl⟩
        · rw [show decide (o.kind = 2 ∧ (begun = true → mark ≤ o.mark)) = false from decide_eq_false fun h => hk h.1]
          (repeat (first | refine swp_seq ?_ | refine swp_block ?_)); refine swp_region (by kernel_rfl) ?_
          repeat (first | refine x_move (by rfl) ?_ | refine x_as (by rfl) (by rfl) ?_ | refine x_skip (by rfl) ?_ | refine x_fld (by rfl) (by rfl) FldO.h ?_ | refine x_nilck (by rfl) (by rfl) ?_ | refine x_len (by rfl) (by rfl) ElOf.some ?_ | refine x_ext (by rfl) (by rfl) (by rfl) ?_ | refine x_pickT (by rfl) (by rfl) (by rfl) ?_ | refine x_pickF (by rfl) (by rfl) (by rfl) ?_ | refine x_add (by rfl) (by rfl) (by rfl) (by omega) ?_ | refine x_sub (by rfl) (by rfl) (by rfl) (by omega) ?_ | refine x_not (by rfl) (by rfl) ?_)
          refine w_load (by rfl) (by rfl) (load_one (v := .int .i64 o.kind) OneT.h h9 (by rfl)) ?_
          refine x_eqlF (by rfl) (by rfl) (by rfl) hk ?_
          repeat (first | refine x_move (by rfl) ?_ | refine x_as (by rfl) (by rfl) ?_ | refine x_skip (by rfl) ?_ | refine x_fld (by rfl) (by rfl) FldO.h ?_ | refine x_nilck (by rfl) (by rfl) ?_ | refine x_len (by rfl) (by rfl) ElOf.some ?_ | refine x_ext (by rfl) (by rfl) (by rfl) ?_ | refine x_pickT (by rfl) (by rfl) (by rfl) ?_ | refine x_pickF (by rfl) (by rfl) (by rfl) ?_ | refine x_add (by rfl) (by rfl) (by rfl) (by omega) ?_ | refine x_sub (by rfl) (by rfl) (by rfl) (by omega) ?_ | refine x_not (by rfl) (by rfl) ?_)
          refine x_nilw ?_
          exact ⟨rfl, at_ ⟨rfl, rfl, rfl, rfl, rfl, rfl, rfl, rfl, rfl, trivial⟩, rfl⟩
      rintro σ w' ⟨⟨ρ, rfl⟩, rfl⟩
      refine n_then ?_
      (repeat (first | refine swp_seq ?_ | refine swp_block ?_))
      refine swp_if (by rfl) (fun htk => ?_) (fun _ => swp_skip ?_)
      · have hlen := hP.len
        (repeat (first | refine swp_seq ?_ | refine swp_block ?_)); refine swp_region (by kernel_rfl) ?_
        repeat (first | refine x_move (by rfl) ?_ | refine x_as (by rfl) (by rfl) ?_ | refine x_skip (by rfl) ?_ | refine x_fld (by rfl) (by rfl) FldO.h ?_ | refine x_nilck (by rfl) (by rfl) ?_ | refine x_len (by rfl) (by rfl) ElOf.some ?_ | refine x_ext (by rfl) (by rfl) (by rfl) ?_ | refine x_pickT (by rfl) (by rfl) (by rfl) ?_ | refine x_pickF (by rfl) (by rfl) (by rfl) ?_ | refine x_add (by rfl) (by rfl) (by rfl) (by omega) ?_ | refine x_sub (by rfl) (by rfl) (by rfl) (by omega) ?_ | refine x_not (by rfl) (by rfl) ?_)
        refine x_nilw ?_
        (repeat (first | refine swp_seq ?_ | refine swp_block ?_)); refine swp_region (by kernel_rfl) ?_
        repeat (first | refine x_move (by rfl) ?_ | refine x_as (by rfl) (by rfl) ?_ | refine x_skip (by rfl) ?_ | refine x_fld (by rfl) (by rfl) FldO.h ?_ | refine x_nilck (by rfl) (by rfl) ?_ | refine x_len (by rfl) (by rfl) ElOf.some ?_ | refine x_ext (by rfl) (by rfl) (by rfl) ?_ | refine x_pickT (by rfl) (by rfl) (by rfl) ?_ | refine x_pickF (by rfl) (by rfl) (by rfl) ?_ | refine x_add (by rfl) (by rfl) (by rfl) (by omega) ?_ | refine x_sub (by rfl) (by rfl) (by rfl) (by omega) ?_ | refine x_not (by rfl) (by rfl) ?_)
        refine w_load (by rfl) (by rfl) (load_one (v := .int .i64 o.mark) OneT.h h9 (by rfl)) ?_
        repeat (first | refine x_move (by rfl) ?_ | refine x_as (by rfl) (by rfl) ?_ | refine x_skip (by rfl) ?_ | refine x_fld (by rfl) (by rfl) FldO.h ?_ | refine x_nilck (by rfl) (by rfl) ?_ | refine x_len (by rfl) (by rfl) ElOf.some ?_ | refine x_ext (by rfl) (by rfl) (by rfl) ?_ | refine x_pickT (by rfl) (by rfl) (by rfl) ?_ | refine x_pickF (by rfl) (by rfl) (by rfl) ?_ | refine x_add (by rfl) (by rfl) (by rfl) (by omega) ?_ | refine x_sub (by rfl) (by rfl) (by rfl) (by omega) ?_ | refine x_not (by rfl) (by rfl) ?_)
        refine x_nilw ?_
        refine swp_fit [(0, .slice (some ⟨b1, o1, none⟩) ls.length c0), (3, .pointer (some ⟨bd, 0, none⟩)), (4, vin), (5, vo), (6, .bool true), (7, .int .i64 o.mark), (8, .int .i64 (i : Nat))] ⟨rfl, rfl, rfl, rfl, rfl, rfl, rfl, trivial⟩ fun ρ => ?_
        (repeat (first | refine swp_seq ?_ | refine swp_block ?_)); refine swp_region (by kernel_rfl) ?_
        repeat (first | refine x_move (by rfl) ?_ | refine x_as (by rfl) (by rfl) ?_ | refine x_skip (by rfl) ?_ | refine x_fld (by rfl) (by rfl) FldO.h ?_ | refine x_nilck (by rfl) (by rfl) ?_ | refine x_len (by rfl) (by rfl) ElOf.some ?_ | refine x_ext (by rfl) (by rfl) (by rfl) ?_ | refine x_pickT (by rfl) (by rfl) (by rfl) ?_ | refine x_pickF (by rfl) (by rfl) (by rfl) ?_ | refine x_add (by rfl) (by rfl) (by rfl) (by omega) ?_ | refine x_sub (by rfl) (by rfl) (by rfl) (by omega) ?_ | refine x_not (by rfl) (by rfl) ?_)
        refine w_call (by rfl) (by rfl) (by rfl) (due_take o.mark hM.dv (hr112.le (by omega)) (by omega)) ?_
        rintro vl w6 ⟨l, hL, hLs, hd6, u6, -⟩
        repeat (first | refine x_move (by rfl) ?_ | refine x_as (by rfl) (by rfl) ?_ | refine x_skip (by rfl) ?_ | refine x_fld (by rfl) (by rfl) FldO.h ?_ | refine x_nilck (by rfl) (by rfl) ?_ | refine x_len (by rfl) (by rfl) ElOf.some ?_ | refine x_ext (by rfl) (by rfl) (by rfl) ?_ | refine x_pickT (by rfl) (by rfl) (by rfl) ?_ | refine x_pickF (by rfl) (by rfl) (by rfl) ?_ | refine x_add (by rfl) (by rfl) (by rfl) (by omega) ?_ | refine x_sub (by rfl) (by rfl) (by rfl) (by omega) ?_ | refine x_not (by rfl) (by rfl) ?_)
        refine x_nilw ?_
        have hP6 := hP.take htk.2 hLs
        have hlen6 := hP6.len
        rw [List.length_append] at hlen6
        have s5 := hM.ext.size
        have s6 := u6.size
        have hM6 : Fm w w6 bd G vin vo (S.dropWhile (by_ o.mark)) IN out N := ⟨hd6, fun b hb => ⟨(hM.gb b hb).1, by have := (hM.gb b hb).2; omega⟩, hM.own.get u6 fun b hb h => (hM.inb b hb).2 h, hM.inb, ⟨hM.lst.own.get u6 fun b hb h => (hM.ob b hb).1 h, fun z hz => (hM.lst.each z hz).get u6 fun b hb h => (hM.oe z hz b hb).1 h, hM.lst.new, hM.lst.newE, hM.lst.ap⟩, hM.ob, hM.oe, hM.ext.trans' u6 fun b hb h => by have := (hM.gb b h).1; omega, hM.rdy⟩
        have lv5 : ∀ b, isIn vo b → b < w5.heap.size := fun b hb => hM.lst.own.lt hb
        have lin5 : ∀ b, isIn vin b → b < w5.heap.size := fun b hb => hM.own.lt hb
        have hlb : ∀ c, isIn vl c → w5.heap.size ≤ c ∧ c < w6.heap.size := fun c hc => ⟨hL.new c hc, hL.own.lt hc⟩
        have hle : ∀ y ∈ l, ∀ c, y.In c → w5.heap.size ≤ c ∧ c < w6.heap.size := fun y hy c hc => ⟨hL.newE y hy c hc, tWt.lt (hL.each y hy) hc⟩
        have hgb5 : ∀ b, G b → b < w5.heap.size := fun b hb => (hM.gb b hb).2
        have rl := hL.rl
        obtain ⟨al, cl, rfl⟩ := rl.rd.slice
        refine swp_fit [(0, .slice (some ⟨b1, o1, none⟩) ls.length c0), (3, .pointer (some ⟨bd, 0, none⟩)), (4, vin), (5, vo), (6, .bool true), (7, .int .i64 o.mark), (8, .int .i64 (i : Nat)), (11, .slice al l.length cl)] ⟨rfl, rfl, rfl, rfl, rfl, rfl, rfl, rfl, trivial⟩ fun ρ => ?_
        (repeat (first | refine swp_seq ?_ | refine swp_block ?_)); refine swp_region (by kernel_rfl) ?_
        repeat (first | refine x_move (by rfl) ?_ | refine x_as (by rfl) (by rfl) ?_ | refine x_skip (by rfl) ?_ | refine x_fld (by rfl) (by rfl) FldO.h ?_ | refine x_nilck (by rfl) (by rfl) ?_ | refine x_len (by rfl) (by rfl) ElOf.some ?_ | refine x_ext (by rfl) (by rfl) (by rfl) ?_ | refine x_pickT (by rfl) (by rfl) (by rfl) ?_ | refine x_pickF (by rfl) (by rfl) (by rfl) ?_ | refine x_add (by rfl) (by rfl) (by rfl) (by omega) ?_ | refine x_sub (by rfl) (by rfl) (by rfl) (by omega) ?_ | refine x_not (by rfl) (by rfl) ?_)
        refine x_nilw ?_
        (repeat (first | refine swp_seq ?_ | refine swp_block ?_))
        refine swp_loop (fun (j : Nat) σ w7 => ∃ sv, At σ [(0, .slice (some ⟨b1, o1, none⟩) ls.length c0), (3, .pointer (some ⟨bd, 0, none⟩)), (4, vin), (5, sv), (6, .bool true), (7, .int .i64 o.mark), (8, .int .i64 (i : Nat)), (11, .slice al l.length cl), (12, .int .i64 (j : Nat))] ∧ j ≤ l.length ∧ Fm w w7 bd G vin sv (S.dropWhile (by_ o.mark)) IN (out ++ l.take j) N ∧ (∀ b, isIn sv b → b < w5.heap.size ∨ w6.heap.size ≤ b) ∧ Upd (fun b => b < w5.heap.size ∨ w6.heap.size ≤ b) w6 w7) (fun j => l.length - j) 0 ⟨vo, at_ ⟨rfl, rfl, rfl, rfl, rfl, rfl, rfl, rfl, rfl, trivial⟩, by omega, by simpa using hM6, fun b hb => .inl (lv5 b hb), Upd.refl _ _⟩ ?_
        rintro j σ w7 ⟨sv, ⟨ρ, rfl⟩, hj, hM7, hsb, u7⟩
        have s7 := u7.size
        have rl7 : RL w7 (.slice al l.length cl) l := ⟨rl.rd.get0 u7 fun c _ hc h => by have := hlb c hc; omega, fun y hy => (rl.each y hy).get u7 fun c hc h => by have := hle y hy c hc; omega⟩
        (repeat (first | refine swp_seq ?_ | refine swp_block ?_)); refine swp_region (by kernel_rfl) ?_
        repeat (first | refine x_move (by rfl) ?_ | refine x_as (by rfl) (by rfl) ?_ | refine x_skip (by rfl) ?_ | refine x_fld (by rfl) (by rfl) FldO.h ?_ | refine w_load (by rfl) (by rfl) (load_one OneT.h (by assumption) (by rfl)) ?_ | refine x_nilck (by rfl) (by rfl) ?_ | refine x_len (by rfl) (by rfl) ElOf.some ?_ | refine x_iface (by rfl) (by rfl) NIf.h ?_ | refine x_ext (by rfl) (by rfl) (by rfl) ?_ | refine x_pickT (by rfl) (by rfl) (by rfl) ?_ | refine x_pickF (by rfl) (by rfl) (by rfl) ?_ | refine x_add (by rfl) (by rfl) (by rfl) (by omega) ?_ | refine x_sub (by rfl) (by rfl) (by rfl) (by omega) ?_ | refine x_lss (by rfl) (by rfl) (by rfl) ?_ | refine x_geq (by rfl) (by rfl) (by rfl) ?_ | refine x_leq (by rfl) (by rfl) (by rfl) ?_ | refine x_gtr (by rfl) (by rfl) (by rfl) ?_ | refine x_eql (by rfl) (by rfl) (by rfl) ?_ | refine x_neq (by rfl) (by rfl) (by rfl) ?_ | refine x_not (by rfl) (by rfl) ?_)
        refine x_nilw ?_
        (repeat (first | refine swp_seq ?_ | refine swp_block ?_))
        refine swp_if (by rfl) (fun h0 => swp_skip ?_) (fun h0 => ?_)
        · have hj' : j < l.length := by omega
          obtain ⟨y, hy⟩ := nthE hj'
          have hym := List.mem_of_getElem? hy
          obtain ⟨b2, o2, d2, he2, -, -⟩ := rl7.rd.pos (by omega)
          simp only [Value.slice.injEq] at he2
          obtain ⟨rfl, _, rfl⟩ := he2
          have hll : (out ++ l.take j).length = out.length + j := by rw [List.length_append, List.length_take]; omega
          (repeat (first | with_reducible refine n_then ?_ | with_reducible refine n_block ?_ | with_reducible refine n_jump ?_))
          (repeat (first | refine swp_seq ?_ | refine swp_block ?_)); refine swp_region (by kernel_rfl) ?_
          repeat (first | refine x_move (by rfl) ?_ | refine x_as (by rfl) (by rfl) ?_ | refine x_skip (by rfl) ?_ | refine x_fld (by rfl) (by rfl) FldO.h ?_ | refine x_nilck (by rfl) (by rfl) ?_ | refine x_len (by rfl) (by rfl) ElOf.some ?_ | refine x_ext (by rfl) (by rfl) (by rfl) ?_ | refine x_pickT (by rfl) (by rfl) (by rfl) ?_ | refine x_pickF (by rfl) (by rfl) (by rfl) ?_ | refine x_add (by rfl) (by rfl) (by rfl) (by omega) ?_ | refine x_sub (by rfl) (by rfl) (by rfl) (by omega) ?_ | refine x_not (by rfl) (by rfl) ?_)
          refine x_idx j (by rfl) (by rfl) (by rfl) ElSz.h rfl hj' ?_
          refine w_load (by rfl) (by rfl) (rd_load wt_len AggT.h rl7.rd hy rfl rfl) ?_
          refine w_bslice (e := 40) (cs := y.cells) (by rfl) (by rfl) (by rfl) (by kernel_rfl) ?_
          intro b8 w8 e8 u8 h8
          refine w_append (more := []) (news := y.cells) (by rfl) (by rfl) (by rfl) (by rfl) SlC.h (hM7.lst.own.at u8) (by rw [List.append_nil]; exact h8) (wt_len _) (wt_one _) (by omega) (hr104.le (by rw [hll]; omega)) ?_
          intro sv' w9 own9 u9 in9
          repeat (first | refine x_move (by rfl) ?_ | refine x_as (by rfl) (by rfl) ?_ | refine x_skip (by rfl) ?_ | refine x_fld (by rfl) (by rfl) FldO.h ?_ | refine x_nilck (by rfl) (by rfl) ?_ | refine x_len (by rfl) (by rfl) ElOf.some ?_ | refine x_ext (by rfl) (by rfl) (by rfl) ?_ | refine x_pickT (by rfl) (by rfl) (by rfl) ?_ | refine x_pickF (by rfl) (by rfl) (by rfl) ?_ | refine x_add (by rfl) (by rfl) (by rfl) (by omega) ?_ | refine x_sub (by rfl) (by rfl) (by rfl) (by omega) ?_ | refine x_not (by rfl) (by rfl) ?_)
          refine x_nilw ?_
          have s8 := u8.size
          have hM8 := hM7.at u8
          have s07 := hM7.ext.size
          have hL9 := hM7.lst.push2 (T := tWt) (r := y) s07 ((rl7.each y hym).at u8) (fun c hc => ⟨by have := (hle y hym c hc).1; omega, fun h => by have := hle y hym c hc; have := hsb c h; omega⟩) u8 own9 u9 in9
          (repeat (first | with_reducible refine n_then ?_ | with_reducible refine n_block ?_ | with_reducible refine n_jump ?_))
          (repeat (first | refine swp_seq ?_ | refine swp_block ?_)); refine swp_region (by kernel_rfl) ?_
          repeat (first | refine x_move (by rfl) ?_ | refine x_as (by rfl) (by rfl) ?_ | refine x_skip (by rfl) ?_ | refine x_fld (by rfl) (by rfl) FldO.h ?_ | refine w_load (by rfl) (by rfl) (load_one OneT.h (by assumption) (by rfl)) ?_ | refine x_nilck (by rfl) (by rfl) ?_ | refine x_len (by rfl) (by rfl) ElOf.some ?_ | refine x_iface (by rfl) (by rfl) NIf.h ?_ | refine x_ext (by rfl) (by rfl) (by rfl) ?_ | refine x_pickT (by rfl) (by rfl) (by rfl) ?_ | refine x_pickF (by rfl) (by rfl) (by rfl) ?_ | refine x_add (by rfl) (by rfl) (by rfl) (by omega) ?_ | refine x_sub (by rfl) (by rfl) (by rfl) (by omega) ?_ | refine x_lss (by rfl) (by rfl) (by rfl) ?_ | refine x_geq (by rfl) (by rfl) (by rfl) ?_ | refine x_leq (by rfl) (by rfl) (by rfl) ?_ | refine x_gtr (by rfl) (by rfl) (by rfl) ?_ | refine x_eql (by rfl) (by rfl) (by rfl) ?_ | refine x_neq (by rfl) (by rfl) (by rfl) ?_ | refine x_not (by rfl) (by rfl) ?_)
          refine x_nilw ?_
          refine ⟨j + 1, ⟨sv', at_ ⟨rfl, rfl, rfl, rfl, rfl, rfl, rfl, rfl, rfl, trivial⟩, hj', ⟨hM8.dv.get u9 fun b _ hb h => (hM8.ob b h).1 hb, fun b hb => ⟨(hM8.gb b hb).1, by have := (hM8.gb b hb).2; have := u9.size; omega⟩, hM8.own.get u9 fun b hb h => (hM8.ob b h).2 hb, hM8.inb, by rw [take_succ' hy, ← List.append_assoc]; exact hL9, fun b hb => ?_, fun z hz b hb => ?_, hM8.ext.trans' u9 fun b hb h => by have := hM8.lst.new b h; omega, hM8.rdy⟩, fun b hb => ?_, (u7.ext u8).trans' u9 fun b hb h => hsb b h⟩, by omega⟩
          · rcases in9 b hb with h | h
            · exact hM8.ob b h
            · exact ⟨fun hg => by have := hgb5 b hg; omega, fun hi => by have := lin5 b hi; omega⟩
          · rw [take_succ' hy, ← List.append_assoc] at hz
            rcases List.mem_append.1 hz with hz | hz
            · exact hM8.oe z hz b hb
            · rw [List.mem_singleton.1 hz] at hb
              have := hle y hym b hb
              exact ⟨fun hg => by have := hgb5 b hg; omega, fun hi => by have := lin5 b hi; omega⟩
          · rcases in9 b hb with h | h
            · exact hsb b h
            · exact .inr (by omega)
        · have hjn : j = l.length := by omega
          subst hjn
          rw [List.take_length] at hM7
          refine swp_exit ?_; (repeat (first | with_reducible refine e_then ?_ | with_reducible refine e_jump ?_)); refine e_block ?_; (repeat (first | with_reducible refine n_then ?_ | with_reducible refine n_block ?_ | with_reducible refine n_jump ?_))
          exact ⟨rfl, sv, _, _, true, o.mark, at_ ⟨rfl, rfl, rfl, rfl, rfl, rfl, rfl, trivial⟩, hM7, hP6⟩
      · exact ⟨rfl, vo, S, out, begun, mark, at_ ⟨rfl, rfl, rfl, rfl, rfl, rfl, rfl, trivial⟩, hM, hP⟩
    rintro σ w6 ⟨vo', S', out', begun', mark', ⟨ρ, rfl⟩, hM6, hP6⟩
    (repeat (first | with_reducible refine n_then ?_ | with_reducible refine n_block ?_ | with_reducible refine n_jump ?_))
    (repeat (first | refine swp_seq ?_ | refine swp_block ?_)); refine swp_region (by kernel_rfl) ?_
    repeat (first | refine x_move (by rfl) ?_ | refine x_as (by rfl) (by rfl) ?_ | refine x_skip (by rfl) ?_ | refine x_fld (by rfl) (by rfl) FldO.h ?_ | refine w_load (by rfl) (by rfl) (load_one OneT.h (by assumption) (by rfl)) ?_ | refine x_nilck (by rfl) (by rfl) ?_ | refine x_len (by rfl) (by rfl) ElOf.some ?_ | refine x_iface (by rfl) (by rfl) NIf.h ?_ | refine x_ext (by rfl) (by rfl) (by rfl) ?_ | refine x_pickT (by rfl) (by rfl) (by rfl) ?_ | refine x_pickF (by rfl) (by rfl) (by rfl) ?_ | refine x_add (by rfl) (by rfl) (by rfl) (by omega) ?_ | refine x_sub (by rfl) (by rfl) (by rfl) (by omega) ?_ | refine x_lss (by rfl) (by rfl) (by rfl) ?_ | refine x_geq (by rfl) (by rfl) (by rfl) ?_ | refine x_leq (by rfl) (by rfl) (by rfl) ?_ | refine x_gtr (by rfl) (by rfl) (by rfl) ?_ | refine x_eql (by rfl) (by rfl) (by rfl) ?_ | refine x_neq (by rfl) (by rfl) (by rfl) ?_ | refine x_not (by rfl) (by rfl) ?_)
    refine x_nilw ?_
    exact ⟨i + 1, ⟨G, vin, vo', S', IN, out', N, begun', mark', at_ ⟨rfl, rfl, rfl, rfl, rfl, rfl, rfl, trivial⟩, hi', hM6, hP6, by omega, by omega⟩, by omega⟩
  · have hin : i = ls.length := by omega
    subst hin
    refine swp_exit ?_; (repeat (first | with_reducible refine e_then ?_ | with_reducible refine e_jump ?_)); refine e_block ?_; (repeat (first | with_reducible refine n_then ?_ | with_reducible refine n_block ?_ | with_reducible refine n_jump ?_))
    have hlen := hP.len
    have hcnt := hP.count
    refine swp_fit [(3, .pointer (some ⟨bd, 0, none⟩)), (4, vin), (5, vo), (6, .bool begun), (7, .int .i64 mark)] ⟨rfl, rfl, rfl, rfl, rfl, trivial⟩ fun ρ => ?_
    have rI := hM.rin
    obtain ⟨ai, ci, rfl⟩ := rI.rd.slice
    (repeat (first | refine swp_seq ?_ | refine swp_block ?_)); refine swp_region (by kernel_rfl) ?_
    repeat (first | refine x_move (by rfl) ?_ | refine x_as (by rfl) (by rfl) ?_ | refine x_skip (by rfl) ?_ | refine x_fld (by rfl) (by rfl) FldO.h ?_ | refine x_nilck (by rfl) (by rfl) ?_ | refine x_len (by rfl) (by rfl) ElOf.some ?_ | refine x_ext (by rfl) (by rfl) (by rfl) ?_ | refine x_pickT (by rfl) (by rfl) (by rfl) ?_ | refine x_pickF (by rfl) (by rfl) (by rfl) ?_ | refine x_add (by rfl) (by rfl) (by rfl) (by omega) ?_ | refine x_sub (by rfl) (by rfl) (by rfl) (by omega) ?_ | refine x_not (by rfl) (by rfl) ?_)
    refine x_nilw ?_
    (repeat (first | refine swp_seq ?_ | refine swp_block ?_)); refine swp_region (by kernel_rfl) ?_
    repeat (first | refine x_move (by rfl) ?_ | refine x_as (by rfl) (by rfl) ?_ | refine x_skip (by rfl) ?_ | refine x_fld (by rfl) (by rfl) FldO.h ?_ | refine x_nilck (by rfl) (by rfl) ?_ | refine x_len (by rfl) (by rfl) ElOf.some ?_ | refine x_ext (by rfl) (by rfl) (by rfl) ?_ | refine x_pickT (by rfl) (by rfl) (by rfl) ?_ | refine x_pickF (by rfl) (by rfl) (by rfl) ?_ | refine x_add (by rfl) (by rfl) (by rfl) (by omega) ?_ | refine x_sub (by rfl) (by rfl) (by rfl) (by omega) ?_ | refine x_not (by rfl) (by rfl) ?_)
    refine x_nilw ?_
    refine swp_fit [(3, .pointer (some ⟨bd, 0, none⟩)), (4, .slice ai IN.length ci), (5, vo), (6, .bool begun), (7, .int .i64 mark), (13, .int .i64 ((0 : Nat) : Int)), (14, .int .i64 ((0 : Nat) : Int))] ⟨rfl, rfl, rfl, rfl, rfl, rfl, rfl, trivial⟩ fun ρ => ?_
    (repeat (first | refine swp_seq ?_ | refine swp_block ?_))
    refine swp_loop (fun (j : Nat) σ w3 => At σ [(3, .pointer (some ⟨bd, 0, none⟩)), (4, .slice ai IN.length ci), (5, vo), (6, .bool begun), (7, .int .i64 mark), (13, .int .i64 (cnt begun mark (IN.take j) : Nat)), (14, .int .i64 (j : Nat))] ∧ j ≤ IN.length ∧ w2 = w3) (fun j => IN.length - j) 0 ⟨at_ ⟨rfl, rfl, rfl, rfl, rfl, by rw [List.take_zero]; cases begun <;> rfl, rfl, trivial⟩, by omega, rfl⟩ ?_
    rintro j σ w3 ⟨⟨ρ, rfl⟩, hj, rfl⟩
    have hcl : cnt begun mark (IN.take j) ≤ j := by
      unfold cnt
      split
      · have := List.countP_le_length (p := by_ mark) (l := IN.take j)
        rw [List.length_take] at this
        omega
      · omega
    (repeat (first | refine swp_seq ?_ | refine swp_block ?_)); refine swp_region (by kernel_rfl) ?_
    repeat (first | refine x_move (by rfl) ?_ | refine x_as (by rfl) (by rfl) ?_ | refine x_skip (by rfl) ?_ | refine x_fld (by rfl) (by rfl) FldO.h ?_ | refine w_load (by rfl) (by rfl) (load_one OneT.h (by assumption) (by rfl)) ?_ | refine x_nilck (by rfl) (by rfl) ?_ | refine x_len (by rfl) (by rfl) ElOf.some ?_ | refine x_iface (by rfl) (by rfl) NIf.h ?_ | refine x_ext (by rfl) (by rfl) (by rfl) ?_ | refine x_pickT (by rfl) (by rfl) (by rfl) ?_ | refine x_pickF (by rfl) (by rfl) (by rfl) ?_ | refine x_add (by rfl) (by rfl) (by rfl) (by omega) ?_ | refine x_sub (by rfl) (by rfl) (by rfl) (by omega) ?_ | refine x_lss (by rfl) (by rfl) (by rfl) ?_ | refine x_geq (by rfl) (by rfl) (by rfl) ?_ | refine x_leq (by rfl) (by rfl) (by rfl) ?_ | refine x_gtr (by rfl) (by rfl) (by rfl) ?_ | refine x_eql (by rfl) (by rfl) (by rfl) ?_ | refine x_neq (by rfl) (by rfl) (by rfl) ?_ | refine x_not (by rfl) (by rfl) ?_)
    refine x_nilw ?_
    (repeat (first | refine swp_seq ?_ | refine swp_block ?_))
    refine swp_if (by rfl) (fun h0 => swp_skip ?_) (fun h0 => ?_)
    · have hj' : j < IN.length := by omega
      obtain ⟨x, hx⟩ := nthE hj'
      obtain ⟨b2, o2, d2, he2, -, -⟩ := rI.rd.pos (by omega)
      simp only [Value.slice.injEq] at he2
      obtain ⟨rfl, _, rfl⟩ := he2
      have hst := cnt_step (begun := begun) (mark := mark) hx
      (repeat (first | with_reducible refine n_then ?_ | with_reducible refine n_block ?_ | with_reducible refine n_jump ?_))
      refine swp_seq ?_
      refine PEv.swp_cutQ (fun σ w4 => At σ [(3, .pointer (some ⟨bd, 0, none⟩)), (4, .slice (some ⟨b2, o2, none⟩) IN.length ci), (5, vo), (6, .bool begun), (7, .int .i64 mark), (13, .int .i64 (cnt begun mark (IN.take (j + 1)) : Nat)), (14, .int .i64 (j : Nat))] ∧ w2 = w4) ?_ ?_
      · cases hbg : begun with
        | false =>
          rw [hbg] at hst
          (repeat (first | refine swp_seq ?_ | refine swp_block ?_)); refine swp_region (by kernel_rfl) ?_
          repeat (first | refine x_move (by rfl) ?_ | refine x_as (by rfl) (by rfl) ?_ | refine x_skip (by rfl) ?_ | refine x_fld (by rfl) (by rfl) FldO.h ?_ | refine x_nilck (by rfl) (by rfl) ?_ | refine x_len (by rfl) (by rfl) ElOf.some ?_ | refine x_ext (by rfl) (by rfl) (by rfl) ?_ | refine x_pickT (by rfl) (by rfl) (by rfl) ?_ | refine x_pickF (by rfl) (by rfl) (by rfl) ?_ | refine x_add (by rfl) (by rfl) (by rfl) (by omega) ?_ | refine x_sub (by rfl) (by rfl) (by rfl) (by omega) ?_ | refine x_not (by rfl) (by rfl) ?_)
          refine x_nilw ?_
          (repeat (first | refine swp_seq ?_ | refine swp_block ?_))
          refine swp_false (by rfl) ?_
          refine swp_skip ?_
          refine n_block ?_
          exact ⟨rfl, at_ ⟨rfl, rfl, rfl, rfl, rfl, by rw [hst]; rfl, rfl, trivial⟩, rfl⟩
        | true =>
          rw [hbg] at hst hcl
          by_cases hd : x.m.dec ≤ mark
          · (repeat (first | refine swp_seq ?_ | refine swp_block ?_)); refine swp_region (by kernel_rfl) ?_
            repeat (first | refine x_move (by rfl) ?_ | refine x_as (by rfl) (by rfl) ?_ | refine x_skip (by rfl) ?_ | refine x_fld (by rfl) (by rfl) FldO.h ?_ | refine x_nilck (by rfl) (by rfl) ?_ | refine x_len (by rfl) (by rfl) ElOf.some ?_ | refine x_ext (by rfl) (by rfl) (by rfl) ?_ | refine x_pickT (by rfl) (by rfl) (by rfl) ?_ | refine x_pickF (by rfl) (by rfl) (by rfl) ?_ | refine x_add (by rfl) (by rfl) (by rfl) (by omega) ?_ | refine x_sub (by rfl) (by rfl) (by rfl) (by omega) ?_ | refine x_not (by rfl) (by rfl) ?_)
            refine x_idx j (by rfl) (by rfl) (by rfl) ElSz.h rfl hj' ?_
            repeat (first | refine x_move (by rfl) ?_ | refine x_as (by rfl) (by rfl) ?_ | refine x_skip (by rfl) ?_ | refine x_fld (by rfl) (by rfl) FldO.h ?_ | refine x_nilck (by rfl) (by rfl) ?_ | refine x_len (by rfl) (by rfl) ElOf.some ?_ | refine x_ext (by rfl) (by rfl) (by rfl) ?_ | refine x_pickT (by rfl) (by rfl) (by rfl) ?_ | refine x_pickF (by rfl) (by rfl) (by rfl) ?_ | refine x_add (by rfl) (by rfl) (by rfl) (by omega) ?_ | refine x_sub (by rfl) (by rfl) (by rfl) (by omega) ?_ | refine x_not (by rfl) (by rfl) ?_)
            refine w_load (by rfl) (by rfl) (load_one_cell OneT.h (rd_cell (v := .int .i64 x.m.dec) (j := 0) wt_len rI.rd hx rfl rfl rfl)) ?_
            repeat (first | refine x_move (by rfl) ?_ | refine x_as (by rfl) (by rfl) ?_ | refine x_skip (by rfl) ?_ | refine x_fld (by rfl) (by rfl) FldO.h ?_ | refine x_nilck (by rfl) (by rfl) ?_ | refine x_len (by rfl) (by rfl) ElOf.some ?_ | refine x_ext (by rfl) (by rfl) (by rfl) ?_ | refine x_pickT (by rfl) (by rfl) (by rfl) ?_ | refine x_pickF (by rfl) (by rfl) (by rfl) ?_ | refine x_add (by rfl) (by rfl) (by rfl) (by omega) ?_ | refine x_sub (by rfl) (by rfl) (by rfl) (by omega) ?_ | refine x_not (by rfl) (by rfl) ?_)
            refine x_leqT (by rfl) (by rfl) (by rfl) hd ?_
            repeat (first | refine x_move (by rfl) ?_ | refine x_as (by rfl) (by rfl) ?_ | refine x_skip (by rfl) ?_ | refine x_fld (by rfl) (by rfl) FldO.h ?_ | refine x_nilck (by rfl) (by rfl) ?_ | refine x_len (by rfl) (by rfl) ElOf.some ?_ | refine x_ext (by rfl) (by rfl) (by rfl) ?_ | refine x_pickT (by rfl) (by rfl) (by rfl) ?_ | refine x_pickF (by rfl) (by rfl) (by rfl) ?_ | refine x_add (by rfl) (by rfl) (by rfl) (by omega) ?_ | refine x_sub (by rfl) (by rfl) (by rfl) (by omega) ?_ | refine x_not (by rfl) (by rfl) ?_)
            refine x_nilw ?_
            (repeat (first | refine swp_seq ?_ | refine swp_block ?_))
            refine swp_true (by rfl) ?_
            (repeat (first | refine swp_seq ?_ | refine swp_block ?_)); refine swp_region (by kernel_rfl) ?_
            repeat (first | refine x_move (by rfl) ?_ | refine x_as (by rfl) (by rfl) ?_ | refine x_skip (by rfl) ?_ | refine x_fld (by rfl) (by rfl) FldO.h ?_ | refine x_nilck (by rfl) (by rfl) ?_ | refine x_len (by rfl) (by rfl) ElOf.some ?_ | refine x_ext (by rfl) (by rfl) (by rfl) ?_ | refine x_pickT (by rfl) (by rfl) (by rfl) ?_ | refine x_pickF (by rfl) (by rfl) (by rfl) ?_ | refine x_add (by rfl) (by rfl) (by rfl) (by omega) ?_ | refine x_sub (by rfl) (by rfl) (by rfl) (by omega) ?_ | refine x_not (by rfl) (by rfl) ?_)
            refine x_nilw ?_
            refine n_block ?_
            refine ⟨rfl, at_ ⟨rfl, rfl, rfl, rfl, rfl, ?_, rfl, trivial⟩, rfl⟩
            rw [hst]
            simp only [by_, hd, decide_true, Bool.and_self, if_true]
            rfl
          · (repeat (first | refine swp_seq ?_ | refine swp_block ?_)); refine swp_region (by kernel_rfl) ?_
            repeat (first | refine x_move (by rfl) ?_ | refine x_as (by rfl) (by rfl) ?_ | refine x_skip (by rfl) ?_ | refine x_fld (by rfl) (by rfl) FldO.h ?_ | refine x_nilck (by rfl) (by rfl) ?_ | refine x_len (by rfl) (by rfl) ElOf.some ?_ | refine x_ext (by rfl) (by rfl) (by rfl) ?_ | refine x_pickT (by rfl) (by rfl) (by rfl) ?_ | refine x_pickF (by rfl) (by rfl) (by rfl) ?_ | refine x_add (by rfl) (by rfl) (by rfl) (by omega) ?_ | refine x_sub (by rfl) (by rfl) (by rfl) (by omega) ?_ | refine x_not (by rfl) (by rfl) ?_)
            refine x_idx j (by rfl) (by rfl) (by rfl) ElSz.h rfl hj' ?_
            repeat (first | refine x_move (by rfl) ?_ | refine x_as (by rfl) (by rfl) ?_ | refine x_skip (by rfl) ?_ | refine x_fld (by rfl) (by rfl) FldO.h ?_ | refine x_nilck (by rfl) (by rfl) ?_ | refine x_len (by rfl) (by rfl) ElOf.some ?_ | refine x_ext (by rfl) (by rfl) (by rfl) ?_ | refine x_pickT (by rfl) (by rfl) (by rfl) ?_ | refine x_pickF (by rfl) (by rfl) (by rfl) ?_ | refine x_add (by rfl) (by rfl) (by rfl) (by omega) ?_ | refine x_sub (by rfl) (by rfl) (by rfl) (by omega) ?_ | refine x_not (by rfl) (by rfl) ?_)
            refine w_load (by rfl) (by rfl) (load_one_cell OneT.h (rd_cell (v := .int .i64 x.m.dec) (j := 0) wt_len rI.rd hx rfl rfl rfl)) ?_
            repeat (first | refine x_move (by rfl) ?_ | refine x_as (by rfl) (by rfl) ?_ | refine x_skip (by rfl) ?_ | refine x_fld (by rfl) (by rfl) FldO.h ?_ | refine x_nilck (by rfl) (by rfl) ?_ | refine x_len (by rfl) (by rfl) ElOf.some ?_ | refine x_ext (by rfl) (by rfl) (by rfl) ?_ | refine x_pickT (by rfl) (by rfl) (by rfl) ?_ | refine x_pickF (by rfl) (by rfl) (by rfl) ?_ | refine x_add (by rfl) (by rfl) (by rfl) (by omega) ?_ | refine x_sub (by rfl) (by rfl) (by rfl) (by omega) ?_ | refine x_not (by rfl) (by rfl) ?_)
            refine x_leqF (by rfl) (by rfl) (by rfl) hd ?_
            repeat (first | refine x_move (by rfl) ?_ | refine x_as (by rfl) (by rfl) ?_ | refine x_skip (by rfl) ?_ | refine x_fld (by rfl) (by rfl) FldO.h ?_ | refine x_nilck (by rfl) (by rfl) ?_ | refine x_len (by rfl) (by rfl) ElOf.some ?_ | refine x_ext (by rfl) (by rfl) (by rfl) ?_ | refine x_pickT (by rfl) (by rfl) (by rfl) ?_ | refine x_pickF (by rfl) (by rfl) (by rfl) ?_ | refine x_add (by rfl) (by rfl) (by rfl) (by omega) ?_ | refine x_sub (by rfl) (by rfl) (by rfl) (by omega) ?_ | refine x_not (by rfl) (by rfl) ?_)
            refine x_nilw ?_
            (repeat (first | refine swp_seq ?_ | refine swp_block ?_))
            refine swp_false (by rfl) ?_
            refine swp_skip ?_
            refine n_block ?_
            refine ⟨rfl, at_ ⟨rfl, rfl, rfl, rfl, rfl, ?_, rfl, trivial⟩, rfl⟩
            rw [hst]
            simp only [by_, hd, decide_false, Bool.and_false, Bool.false_eq_true, if_false]
            rfl
      rintro σ w4 ⟨⟨ρ, rfl⟩, rfl⟩
      refine n_then ?_
      (repeat (first | refine swp_seq ?_ | refine swp_block ?_)); refine swp_region (by kernel_rfl) ?_
      repeat (first | refine x_move (by rfl) ?_ | refine x_as (by rfl) (by rfl) ?_ | refine x_skip (by rfl) ?_ | refine x_fld (by rfl) (by rfl) FldO.h ?_ | refine w_load (by rfl) (by rfl) (load_one OneT.h (by assumption) (by rfl)) ?_ | refine x_nilck (by rfl) (by rfl) ?_ | refine x_len (by rfl) (by rfl) ElOf.some ?_ | refine x_iface (by rfl) (by rfl) NIf.h ?_ | refine x_ext (by rfl) (by rfl) (by rfl) ?_ | refine x_pickT (by rfl) (by rfl) (by rfl) ?_ | refine x_pickF (by rfl) (by rfl) (by rfl) ?_ | refine x_add (by rfl) (by rfl) (by rfl) (by omega) ?_ | refine x_sub (by rfl) (by rfl) (by rfl) (by omega) ?_ | refine x_lss (by rfl) (by rfl) (by rfl) ?_ | refine x_geq (by rfl) (by rfl) (by rfl) ?_ | refine x_leq (by rfl) (by rfl) (by rfl) ?_ | refine x_gtr (by rfl) (by rfl) (by rfl) ?_ | refine x_eql (by rfl) (by rfl) (by rfl) ?_ | refine x_neq (by rfl) (by rfl) (by rfl) ?_ | refine x_not (by rfl) (by rfl) ?_)
      refine x_nilw ?_
      exact ⟨j + 1, ⟨at_ ⟨rfl, rfl, rfl, rfl, rfl, rfl, rfl, trivial⟩, hj', rfl⟩, by omega⟩
    have hjn : j = IN.length := by omega
    rw [show (cnt begun mark (IN.take j) : Nat) = out.length by rw [hjn, List.take_length, hcnt]]
    refine swp_exit ?_; (repeat (first | with_reducible refine e_then ?_ | with_reducible refine e_jump ?_)); refine e_block ?_; (repeat (first | with_reducible refine n_then ?_ | with_reducible refine n_block ?_ | with_reducible refine n_jump ?_))
    have rO := hM.lst.rl
    obtain ⟨ao, co, rfl⟩ := rO.rd.slice
    refine swp_fit [(3, .pointer (some ⟨bd, 0, none⟩)), (4, .slice ai IN.length ci), (5, .slice ao out.length co), (13, .int .i64 (out.length : Nat))] ⟨rfl, rfl, rfl, rfl, trivial⟩ fun ρ => ?_
    (repeat (first | refine swp_seq ?_ | refine swp_block ?_)); refine swp_region (by kernel_rfl) ?_
    repeat (first | refine x_move (by rfl) ?_ | refine x_as (by rfl) (by rfl) ?_ | refine x_skip (by rfl) ?_ | refine x_fld (by rfl) (by rfl) FldO.h ?_ | refine x_nilck (by rfl) (by rfl) ?_ | refine x_len (by rfl) (by rfl) ElOf.some ?_ | refine x_ext (by rfl) (by rfl) (by rfl) ?_ | refine x_pickT (by rfl) (by rfl) (by rfl) ?_ | refine x_pickF (by rfl) (by rfl) (by rfl) ?_ | refine x_add (by rfl) (by rfl) (by rfl) (by omega) ?_ | refine x_sub (by rfl) (by rfl) (by rfl) (by omega) ?_ | refine x_not (by rfl) (by rfl) ?_)
    refine w_call (by rfl) (by rfl) (by rfl) (due_list hM.dv (hr112.le (by omega)) (by omega)) ?_
    rintro vl w3 ⟨left, hL, hLs, u3⟩
    repeat (first | refine x_move (by rfl) ?_ | refine x_as (by rfl) (by rfl) ?_ | refine x_skip (by rfl) ?_ | refine x_fld (by rfl) (by rfl) FldO.h ?_ | refine x_nilck (by rfl) (by rfl) ?_ | refine x_len (by rfl) (by rfl) ElOf.some ?_ | refine x_ext (by rfl) (by rfl) (by rfl) ?_ | refine x_pickT (by rfl) (by rfl) (by rfl) ?_ | refine x_pickF (by rfl) (by rfl) (by rfl) ?_ | refine x_add (by rfl) (by rfl) (by rfl) (by omega) ?_ | refine x_sub (by rfl) (by rfl) (by rfl) (by omega) ?_ | refine x_not (by rfl) (by rfl) ?_)
    refine x_nilw ?_
    obtain ⟨al, cl, rfl⟩ := hL.own.slice
    have lL : left.length = S.length := by simpa using congrArg List.length hLs
    obtain ⟨rO1, rS1, -⟩ := List.pairwise_append.1 hP.rise
    have riL : Rise left := rise_says hLs rS1
    have oO : Of (out ++ S) out := fun x hx => ⟨x, by simp [hx], rfl⟩
    have oI : Of (out ++ S) IN := fun x hx => by
      rcases hP.mem.2 ⟨x, hx, rfl⟩ with ⟨y, hy, hs⟩ | ⟨y, hy, hs⟩
      · exact ⟨y, by simp [hy], hs⟩
      · exact ⟨y, by simp [hy], hs⟩
    have oL : Of (out ++ S) left := of_map hLs fun t ht => by simp [ht]
    have oIO : Of IN out := fun x hx => hP.mem.1 (.inl ⟨x, hx, rfl⟩)
    have oIL : Of IN left := fun x hx => by
      obtain ⟨s, hs, he⟩ := (of_map hLs fun t ht => ht : Of S left) x hx
      exact hP.mem.1 (.inr ⟨s, hs, he⟩)
    have wO := within_of hP.rise oO oI oIO
    have wL := within_of hP.rise oL oI oIL
    refine swp_fit [(4, .slice ai IN.length ci), (5, .slice ao out.length co), (13, .int .i64 (out.length : Nat)), (15, .slice al left.length cl)] ⟨rfl, rfl, rfl, rfl, trivial⟩ fun ρ => ?_
    (repeat (first | refine swp_seq ?_ | refine swp_block ?_)); refine swp_region (by kernel_rfl) ?_
    repeat (first | refine x_move (by rfl) ?_ | refine x_as (by rfl) (by rfl) ?_ | refine x_skip (by rfl) ?_ | refine x_fld (by rfl) (by rfl) FldO.h ?_ | refine x_nilck (by rfl) (by rfl) ?_ | refine x_len (by rfl) (by rfl) ElOf.some ?_ | refine x_ext (by rfl) (by rfl) (by rfl) ?_ | refine x_pickT (by rfl) (by rfl) (by rfl) ?_ | refine x_pickF (by rfl) (by rfl) (by rfl) ?_ | refine x_add (by rfl) (by rfl) (by rfl) (by omega) ?_ | refine x_sub (by rfl) (by rfl) (by rfl) (by omega) ?_ | refine x_not (by rfl) (by rfl) ?_)
    refine w_call (by rfl) (by rfl) (by rfl) (rising_wt (rO.at u3) rO1 (by omega)) ?_
    rintro _ w4 ⟨rfl, u4⟩
    repeat (first | refine x_move (by rfl) ?_ | refine x_as (by rfl) (by rfl) ?_ | refine x_skip (by rfl) ?_ | refine x_fld (by rfl) (by rfl) FldO.h ?_ | refine x_nilck (by rfl) (by rfl) ?_ | refine x_len (by rfl) (by rfl) ElOf.some ?_ | refine x_ext (by rfl) (by rfl) (by rfl) ?_ | refine x_pickT (by rfl) (by rfl) (by rfl) ?_ | refine x_pickF (by rfl) (by rfl) (by rfl) ?_ | refine x_add (by rfl) (by rfl) (by rfl) (by omega) ?_ | refine x_sub (by rfl) (by rfl) (by rfl) (by omega) ?_ | refine x_not (by rfl) (by rfl) ?_)
    refine w_call (by rfl) (by rfl) (by rfl) (within_wt ((rO.at u3).at u4) ((rI.at u3).at u4) wO (by omega) (by omega)) ?_
    rintro _ w5 ⟨rfl, u5⟩
    repeat (first | refine x_move (by rfl) ?_ | refine x_as (by rfl) (by rfl) ?_ | refine x_skip (by rfl) ?_ | refine x_fld (by rfl) (by rfl) FldO.h ?_ | refine x_nilck (by rfl) (by rfl) ?_ | refine x_len (by rfl) (by rfl) ElOf.some ?_ | refine x_ext (by rfl) (by rfl) (by rfl) ?_ | refine x_pickT (by rfl) (by rfl) (by rfl) ?_ | refine x_pickF (by rfl) (by rfl) (by rfl) ?_ | refine x_add (by rfl) (by rfl) (by rfl) (by omega) ?_ | refine x_sub (by rfl) (by rfl) (by rfl) (by omega) ?_ | refine x_not (by rfl) (by rfl) ?_)
    refine x_eqlT (by rfl) (by rfl) (by rfl) rfl ?_
    repeat (first | refine x_move (by rfl) ?_ | refine x_as (by rfl) (by rfl) ?_ | refine x_skip (by rfl) ?_ | refine x_fld (by rfl) (by rfl) FldO.h ?_ | refine x_nilck (by rfl) (by rfl) ?_ | refine x_len (by rfl) (by rfl) ElOf.some ?_ | refine x_ext (by rfl) (by rfl) (by rfl) ?_ | refine x_pickT (by rfl) (by rfl) (by rfl) ?_ | refine x_pickF (by rfl) (by rfl) (by rfl) ?_ | refine x_add (by rfl) (by rfl) (by rfl) (by omega) ?_ | refine x_sub (by rfl) (by rfl) (by rfl) (by omega) ?_ | refine x_not (by rfl) (by rfl) ?_)
    have u35 := u4.trans u5
    refine w_call (by rfl) (by rfl) (by rfl) (rising_wt (hL.at u35).rl riL (by omega)) ?_
    rintro _ w6 ⟨rfl, u6⟩
    repeat (first | refine x_move (by rfl) ?_ | refine x_as (by rfl) (by rfl) ?_ | refine x_skip (by rfl) ?_ | refine x_fld (by rfl) (by rfl) FldO.h ?_ | refine x_nilck (by rfl) (by rfl) ?_ | refine x_len (by rfl) (by rfl) ElOf.some ?_ | refine x_ext (by rfl) (by rfl) (by rfl) ?_ | refine x_pickT (by rfl) (by rfl) (by rfl) ?_ | refine x_pickF (by rfl) (by rfl) (by rfl) ?_ | refine x_add (by rfl) (by rfl) (by rfl) (by omega) ?_ | refine x_sub (by rfl) (by rfl) (by rfl) (by omega) ?_ | refine x_not (by rfl) (by rfl) ?_)
    have u36 := u35.trans u6
    refine w_call (by rfl) (by rfl) (by rfl) (within_wt (hL.at u36).rl ((rI.at u3).at u36) wL (by omega) (by omega)) ?_
    rintro _ w7 ⟨rfl, u7⟩
    repeat (first | refine x_move (by rfl) ?_ | refine x_as (by rfl) (by rfl) ?_ | refine x_skip (by rfl) ?_ | refine x_fld (by rfl) (by rfl) FldO.h ?_ | refine x_nilck (by rfl) (by rfl) ?_ | refine x_len (by rfl) (by rfl) ElOf.some ?_ | refine x_ext (by rfl) (by rfl) (by rfl) ?_ | refine x_pickT (by rfl) (by rfl) (by rfl) ?_ | refine x_pickF (by rfl) (by rfl) (by rfl) ?_ | refine x_add (by rfl) (by rfl) (by rfl) (by omega) ?_ | refine x_sub (by rfl) (by rfl) (by rfl) (by omega) ?_ | refine x_not (by rfl) (by rfl) ?_)
    refine x_eqlT (by rfl) (by rfl) (by rfl) (by omega) ?_
    repeat (first | refine x_move (by rfl) ?_ | refine x_as (by rfl) (by rfl) ?_ | refine x_skip (by rfl) ?_ | refine x_fld (by rfl) (by rfl) FldO.h ?_ | refine x_nilck (by rfl) (by rfl) ?_ | refine x_len (by rfl) (by rfl) ElOf.some ?_ | refine x_ext (by rfl) (by rfl) (by rfl) ?_ | refine x_pickT (by rfl) (by rfl) (by rfl) ?_ | refine x_pickF (by rfl) (by rfl) (by rfl) ?_ | refine x_add (by rfl) (by rfl) (by rfl) (by omega) ?_ | refine x_sub (by rfl) (by rfl) (by rfl) (by omega) ?_ | refine x_not (by rfl) (by rfl) ?_)
    refine x_nilw ?_
    refine swp_ret ?_; (repeat (first | with_reducible refine r_then ?_ | with_reducible refine r_block ?_ | with_reducible refine r_jump ?_))
    exact post1 rfl rfl ⟨_, rfl, rfl, ((hM.ext.trans u3).trans u36).trans u7⟩
end Go.Proofs.Ytpnigekkbmanlaa
