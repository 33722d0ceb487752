/- GateRestores' walk: it answers true. Conditions: fewer than 2^60 events; room. -/
import Derived.Test.YtnhecopgecoloaaGv
namespace Go.Proofs.Ytnhecopgecoloaa
open Hp Sx
section
variable {dr : Bool} {P : Program} {ops : Array Oper} {W : List Nat} {Q : Fr → World → Prop} {k : Nat} {rest : List Oper} {σ : Fr} {C : World → Prop} {d : Nat} {ty : TypeId} {pos : String} {after : Array Edge} {guard : Option (Nat × Bool)}
theorem x_convU {t t' : TypeId} {n : Int} {x : Operand} (hs : (P.underlying t).isSome = true) (hd : P.underlying t' = some (.int .u64)) (hw : wantS ops σ ⟨some d, .convert t t' x, ty, pos, after, guard⟩ = true) (hx : ev σ x = .int .i64 n) (hb : 0 ≤ n ∧ n ≤ 9223372036854775807)
    (h : xw dr P ops W Q (k + 1) rest (upd σ d (.int .u64 n)) C) : xw dr P ops W Q k (⟨some d, .convert t t' x, ty, pos, after, guard⟩ :: rest) σ C :=
  x_p hw rfl (fun w => by
    have hk : P.intKind t' = .u64 := by simp [Program.intKind, hd]
    have hr := run_convert_int w t t' .i64 n hs (by rw [hk]; exact hd)
    rw [hk, IntWalk.u64_in _ (show 0 ≤ n ∧ n ≤ 18446744073709551615 by omega)] at hr
    simp only [execOp, hx, Sem.run_bind, hr, Result.andThen_ok, Sem.run_pure]) h
/-- The empty literal. -/
theorem w_bslice0 {w : World} {t e : TypeId} (hW : isW dr W k (.buildSlice t 0 #[]) = true) (hw : wantS ops σ ⟨some d, .buildSlice t 0 #[], ty, pos, after, guard⟩ = true) (hu : P.underlying t = some (.slice e)) (hi : (P.info? e).isSome = true)
    (h : ∀ b w', b = w.heap.size → Ext w w' → Blk w' b e [] → xw dr P ops W Q (k + 1) rest (upd σ d (.slice (some ⟨b, 0, none⟩) 0 0)) (Eq w')) : xw dr P ops W Q k (⟨some d, .buildSlice t 0 #[], ty, pos, after, guard⟩ :: rest) σ (Eq w) := by
  obtain ⟨i, hi⟩ := Option.isSome_iff_exists.1 hi
  refine x_w hw rfl hW ?_
  unfold stepsTo
  simp [execOp, Instr.buildSlice, run_underlying hu, sizeOf, typeInfo, hi, newRow, newObj, Sem.run, Instr.fill]
  refine h w.heap.size _ rfl (ext_alloc _ _) ?_
  rw [show Array.map (fun _ => (default : Value)) (Array.range 0) = #[] from Array.eq_empty_of_size_eq_zero (by simp)]
  exact blk_alloc (w := w) [] e
end
/-- what is laid behind -/
def ev9 (i : Nat) : Ev := ⟨-9, (i : Nat), 0, 0, 0, 0, 0, 0, 0, 0, 0⟩
def evs9 (n : Nat) : List Ev := (List.range n).map ev9
theorem evs9_succ (n : Nat) : evs9 (n + 1) = evs9 n ++ [ev9 n] := by simp [evs9, List.range_succ]
theorem evs9_len (n : Nat) : (evs9 n).length = n := by simp [evs9]
theorem evs9_get {n i : Nat} (h : i < n) : (evs9 n)[i]? = some (ev9 i) := by
  unfold evs9
  rw [List.getElem?_map, List.getElem?_range h]
  rfl
def script8 (e : Ev) (to : Int) : List Gop := [⟨4, 0, Ev.zero, 0⟩, ⟨5, 0, Ev.zero, 0⟩, ⟨6, 0, Ev.zero, 0⟩, ⟨1, 0, e, 0⟩, ⟨2, 0, Ev.zero, to⟩, ⟨6, 0, Ev.zero, 0⟩, ⟨3, 0, Ev.zero, 0⟩, ⟨4, 0, Ev.zero, 0⟩]

set_option maxHeartbeats 4000000 in
set_option maxRecDepth 100000 in
theorem walk10 {w : World} {sv : Value} {held : List Ev} (cap mark : Int) (shut : Bool) (next : Ev) (to : Int) (h : Rd w 11 sv held.length (fl Ev.cells held)) (hr : Room (held.length + 9) 88) (hl : held.length ≤ 1152921504606846975) :
    Gets Try.prog 10 [.int .i64 cap, .int .i64 mark, .bool shut, sv, next.v, .int .i64 to] w fun v w' => v = .bool true ∧ Ext w w' := by
  obtain ⟨a0, c0, rfl⟩ := h.slice
  refine ⟨GoFn.h, calls_of_swp 124 Try.func10 Try.ntmps10 rfl (Nat.le_of_ble_eq_true rfl) ?_⟩
  (repeat (first | refine swp_seq ?_ | refine swp_block ?_)); refine swp_region (by kernel_rfl) ?_
  refine w_boxA (by rfl) (by rfl) (by rfl) ?_; intro b0 w0 e0 u0 h0
  repeat (first | refine x_move (by rfl) ?_ | refine x_as (by rfl) (by rfl) ?_ | refine x_skip (by rfl) ?_ | refine x_fld (by rfl) (by rfl) FldO.h ?_ | refine x_nilck (by rfl) (by rfl) ?_ | refine x_len (by rfl) (by rfl) ElOf.some ?_ | refine x_ext (by rfl) (by rfl) (by rfl) ?_ | refine x_pickT (by rfl) (by rfl) (by rfl) ?_ | refine x_pickF (by rfl) (by rfl) (by rfl) ?_ | refine x_add (by rfl) (by rfl) (by rfl) (by omega) ?_ | refine x_sub (by rfl) (by rfl) (by rfl) (by omega) ?_ | refine x_not (by rfl) (by rfl) ?_)
  refine x_nilw ?_
  replace h0 : Blk w0 b0 30 next.cells := h0
  have hlt0 := h0.lt
  have s0 := u0.size
  (repeat (first | refine swp_seq ?_ | refine swp_block ?_)); refine swp_region (by kernel_rfl) ?_
  repeat (first | refine x_move (by rfl) ?_ | refine x_as (by rfl) (by rfl) ?_ | refine x_skip (by rfl) ?_ | refine x_fld (by rfl) (by rfl) FldO.h ?_ | refine x_nilck (by rfl) (by rfl) ?_ | refine x_len (by rfl) (by rfl) ElOf.some ?_ | refine x_ext (by rfl) (by rfl) (by rfl) ?_ | refine x_pickT (by rfl) (by rfl) (by rfl) ?_ | refine x_pickF (by rfl) (by rfl) (by rfl) ?_ | refine x_add (by rfl) (by rfl) (by rfl) (by omega) ?_ | refine x_sub (by rfl) (by rfl) (by rfl) (by omega) ?_ | refine x_not (by rfl) (by rfl) ?_)
  refine x_nilw ?_
  (repeat (first | refine swp_seq ?_ | refine swp_block ?_)); refine swp_region (by kernel_rfl) ?_
  repeat (first | refine x_move (by rfl) ?_ | refine x_as (by rfl) (by rfl) ?_ | refine x_skip (by rfl) ?_ | refine x_fld (by rfl) (by rfl) FldO.h ?_ | refine x_nilck (by rfl) (by rfl) ?_ | refine x_len (by rfl) (by rfl) ElOf.some ?_ | refine x_ext (by rfl) (by rfl) (by rfl) ?_ | refine x_pickT (by rfl) (by rfl) (by rfl) ?_ | refine x_pickF (by rfl) (by rfl) (by rfl) ?_ | refine x_add (by rfl) (by rfl) (by rfl) (by omega) ?_ | refine x_sub (by rfl) (by rfl) (by rfl) (by omega) ?_ | refine x_not (by rfl) (by rfl) ?_)
  refine w_appendR (by rfl) (by rfl) (by rfl) (by rfl) SlC.h (Own.nil _ _ _) (h.at u0) (PEv.fl_one' ev_one held) (hr.le (by omega)) ?_
  intro tv w1 own1 u1 hin1
  repeat (first | refine x_move (by rfl) ?_ | refine x_as (by rfl) (by rfl) ?_ | refine x_skip (by rfl) ?_ | refine x_fld (by rfl) (by rfl) FldO.h ?_ | refine x_nilck (by rfl) (by rfl) ?_ | refine x_len (by rfl) (by rfl) ElOf.some ?_ | refine x_ext (by rfl) (by rfl) (by rfl) ?_ | refine x_pickT (by rfl) (by rfl) (by rfl) ?_ | refine x_pickF (by rfl) (by rfl) (by rfl) ?_ | refine x_add (by rfl) (by rfl) (by rfl) (by omega) ?_ | refine x_sub (by rfl) (by rfl) (by rfl) (by omega) ?_ | refine x_not (by rfl) (by rfl) ?_)
  refine x_nilw ?_
  rw [Nat.zero_add, List.nil_append] at own1
  have u01 : Ext w0 w1 := (Upd.refl _ w0).trans' u1 fun b _ h => h
  have s1 := u1.size
  have htv : ∀ b, isIn tv b → w0.heap.size ≤ b := fun b hb => (hin1 b hb).resolve_left id
  refine swp_fit [(0, .int .i64 cap), (1, .int .i64 mark), (2, .bool shut), (3, .slice a0 held.length c0), (5, .int .i64 to), (10, .pointer (some ⟨b0, 0, none⟩)), (13, tv)] ⟨rfl, rfl, rfl, rfl, rfl, rfl, rfl, trivial⟩ fun ρ => ?_
  (repeat (first | refine swp_seq ?_ | refine swp_block ?_)); refine swp_region (by kernel_rfl) ?_
  refine w_bslice0 (e := 30) (by rfl) (by rfl) Try.underlying32 (by kernel_rfl) ?_
  intro b2 w2 e2 u2 h2
  repeat (first | refine x_move (by rfl) ?_ | refine x_as (by rfl) (by rfl) ?_ | refine x_skip (by rfl) ?_ | refine x_fld (by rfl) (by rfl) FldO.h ?_ | refine x_nilck (by rfl) (by rfl) ?_ | refine x_len (by rfl) (by rfl) ElOf.some ?_ | refine x_ext (by rfl) (by rfl) (by rfl) ?_ | refine x_pickT (by rfl) (by rfl) (by rfl) ?_ | refine x_pickF (by rfl) (by rfl) (by rfl) ?_ | refine x_add (by rfl) (by rfl) (by rfl) (by omega) ?_ | refine x_sub (by rfl) (by rfl) (by rfl) (by omega) ?_ | refine x_not (by rfl) (by rfl) ?_)
  have own2 : Own w2 30 11 (.slice (some ⟨b2, 0, none⟩) 0 0) 0 [] := Own.of (rest := []) rfl h2 (by omega) (by simp [maxLen]) rfl
  refine w_appendR (by rfl) (by rfl) (by rfl) (by rfl) SlC.h own2 (h.at ((u0.trans u01).trans u2)) (PEv.fl_one' ev_one held) (hr.le (by omega)) ?_
  intro rv w3 own3 u3 hin3
  repeat (first | refine x_move (by rfl) ?_ | refine x_as (by rfl) (by rfl) ?_ | refine x_skip (by rfl) ?_ | refine x_fld (by rfl) (by rfl) FldO.h ?_ | refine x_nilck (by rfl) (by rfl) ?_ | refine x_len (by rfl) (by rfl) ElOf.some ?_ | refine x_ext (by rfl) (by rfl) (by rfl) ?_ | refine x_pickT (by rfl) (by rfl) (by rfl) ?_ | refine x_pickF (by rfl) (by rfl) (by rfl) ?_ | refine x_add (by rfl) (by rfl) (by rfl) (by omega) ?_ | refine x_sub (by rfl) (by rfl) (by rfl) (by omega) ?_ | refine x_not (by rfl) (by rfl) ?_)
  refine x_nilw ?_
  rw [Nat.zero_add, List.nil_append] at own3
  have s2 := u2.size
  have hb2 : ∀ b, isIn (.slice (some ⟨b2, 0, none⟩) 0 0) b → b = b2 := fun b hb => hb
  have hrv : ∀ b, isIn rv b → w1.heap.size ≤ b := fun b hb => (hin3 b hb).elim (fun h => by have := hb2 b h; omega) fun h => by omega
  have u13 : Ext w1 w3 := u2.trans' u3 fun b hb hf => by have := hb2 b hf; omega
  (repeat (first | refine swp_seq ?_ | refine swp_block ?_)); refine swp_region (by kernel_rfl) ?_
  repeat (first | refine x_move (by rfl) ?_ | refine x_as (by rfl) (by rfl) ?_ | refine x_skip (by rfl) ?_ | refine x_fld (by rfl) (by rfl) FldO.h ?_ | refine x_nilck (by rfl) (by rfl) ?_ | refine x_len (by rfl) (by rfl) ElOf.some ?_ | refine x_ext (by rfl) (by rfl) (by rfl) ?_ | refine x_pickT (by rfl) (by rfl) (by rfl) ?_ | refine x_pickF (by rfl) (by rfl) (by rfl) ?_ | refine x_add (by rfl) (by rfl) (by rfl) (by omega) ?_ | refine x_sub (by rfl) (by rfl) (by rfl) (by omega) ?_ | refine x_not (by rfl) (by rfl) ?_)
  refine x_nilw ?_
  (repeat (first | refine swp_seq ?_ | refine swp_block ?_))
  refine swp_loop (fun (i : Nat) σ w4 => ∃ rv, At σ [(0, .int .i64 cap), (1, .int .i64 mark), (2, .bool shut), (3, .slice a0 held.length c0), (5, .int .i64 to), (10, .pointer (some ⟨b0, 0, none⟩)), (13, tv), (14, rv), (15, .int .i64 (i : Nat))] ∧ i ≤ 9 ∧ Own w4 30 11 rv (held.length + i) (fl Ev.cells (held ++ evs9 i)) ∧ (∀ b, isIn rv b → w1.heap.size ≤ b) ∧ Ext w1 w4) (fun i => 9 - i) 0 ⟨rv, at_ ⟨rfl, rfl, rfl, rfl, rfl, rfl, rfl, rfl, rfl, trivial⟩, by omega, by simpa [evs9] using own3, hrv, u13⟩ ?_
  rintro i σ w4 ⟨rv4, ⟨ρ, rfl⟩, hi, own4, hrv4, u14⟩
  (repeat (first | refine swp_seq ?_ | refine swp_block ?_)); refine swp_region (by kernel_rfl) ?_
  repeat (first | refine x_move (by rfl) ?_ | refine x_as (by rfl) (by rfl) ?_ | refine x_skip (by rfl) ?_ | refine x_fld (by rfl) (by rfl) FldO.h ?_ | refine w_load (by rfl) (by rfl) (load_one OneT.h (by assumption) (by rfl)) ?_ | refine x_nilck (by rfl) (by rfl) ?_ | refine x_len (by rfl) (by rfl) ElOf.some ?_ | refine x_iface (by rfl) (by rfl) NIf.h ?_ | refine x_ext (by rfl) (by rfl) (by rfl) ?_ | refine x_pickT (by rfl) (by rfl) (by rfl) ?_ | refine x_pickF (by rfl) (by rfl) (by rfl) ?_ | refine x_add (by rfl) (by rfl) (by rfl) (by omega) ?_ | refine x_sub (by rfl) (by rfl) (by rfl) (by omega) ?_ | refine x_lss (by rfl) (by rfl) (by rfl) ?_ | refine x_geq (by rfl) (by rfl) (by rfl) ?_ | refine x_leq (by rfl) (by rfl) (by rfl) ?_ | refine x_gtr (by rfl) (by rfl) (by rfl) ?_ | refine x_eql (by rfl) (by rfl) (by rfl) ?_ | refine x_neq (by rfl) (by rfl) (by rfl) ?_ | refine x_not (by rfl) (by rfl) ?_)
  refine x_nilw ?_
  (repeat (first | refine swp_seq ?_ | refine swp_block ?_))
  refine swp_if (by rfl) (fun hc => swp_skip ?_) (fun hc => ?_)
  · have hi' : i < 9 := by omega
    (repeat (first | with_reducible refine n_then ?_ | with_reducible refine n_block ?_ | with_reducible refine n_jump ?_))
    (repeat (first | refine swp_seq ?_ | refine swp_block ?_)); refine swp_region (by kernel_rfl) ?_
    repeat (first | refine x_move (by rfl) ?_ | refine x_as (by rfl) (by rfl) ?_ | refine x_skip (by rfl) ?_ | refine x_fld (by rfl) (by rfl) FldO.h ?_ | refine x_nilck (by rfl) (by rfl) ?_ | refine x_len (by rfl) (by rfl) ElOf.some ?_ | refine x_ext (by rfl) (by rfl) (by rfl) ?_ | refine x_pickT (by rfl) (by rfl) (by rfl) ?_ | refine x_pickF (by rfl) (by rfl) (by rfl) ?_ | refine x_add (by rfl) (by rfl) (by rfl) (by omega) ?_ | refine x_sub (by rfl) (by rfl) (by rfl) (by omega) ?_ | refine x_not (by rfl) (by rfl) ?_)
    refine x_convU (by kernel_rfl) Try.underlying27 (by rfl) (by rfl) (by omega) ?_
    refine x_build (v := (ev9 i).v) (by rfl) (by rfl) (fun _ => by kernel_rfl) ?_
    refine w_bslice (e := 30) (cs := (ev9 i).cells) (by rfl) (by rfl) (by rfl) (by kernel_rfl) ?_
    intro b5 w5 e5 u5 h5
    refine w_append (more := []) (news := (ev9 i).cells) (by rfl) (by rfl) (by rfl) (by rfl) SlC.h (own4.at u5) (by rw [List.append_nil]; exact h5) (by rfl) (by rfl) (by omega) (hr.le (by omega)) ?_
    intro rv6 w6 own6 u6 hin6
    repeat (first | refine x_move (by rfl) ?_ | refine x_as (by rfl) (by rfl) ?_ | refine x_skip (by rfl) ?_ | refine x_fld (by rfl) (by rfl) FldO.h ?_ | refine x_nilck (by rfl) (by rfl) ?_ | refine x_len (by rfl) (by rfl) ElOf.some ?_ | refine x_ext (by rfl) (by rfl) (by rfl) ?_ | refine x_pickT (by rfl) (by rfl) (by rfl) ?_ | refine x_pickF (by rfl) (by rfl) (by rfl) ?_ | refine x_add (by rfl) (by rfl) (by rfl) (by omega) ?_ | refine x_sub (by rfl) (by rfl) (by rfl) (by omega) ?_ | refine x_not (by rfl) (by rfl) ?_)
    refine x_nilw ?_
    (repeat (first | with_reducible refine n_then ?_ | with_reducible refine n_block ?_ | with_reducible refine n_jump ?_))
    (repeat (first | refine swp_seq ?_ | refine swp_block ?_)); refine swp_region (by kernel_rfl) ?_
    repeat (first | refine x_move (by rfl) ?_ | refine x_as (by rfl) (by rfl) ?_ | refine x_skip (by rfl) ?_ | refine x_fld (by rfl) (by rfl) FldO.h ?_ | refine x_nilck (by rfl) (by rfl) ?_ | refine x_len (by rfl) (by rfl) ElOf.some ?_ | refine x_ext (by rfl) (by rfl) (by rfl) ?_ | refine x_pickT (by rfl) (by rfl) (by rfl) ?_ | refine x_pickF (by rfl) (by rfl) (by rfl) ?_ | refine x_add (by rfl) (by rfl) (by rfl) (by omega) ?_ | refine x_sub (by rfl) (by rfl) (by rfl) (by omega) ?_ | refine x_not (by rfl) (by rfl) ?_)
    refine x_nilw ?_
    have s5 := u5.size
    have s14 := u14.size
    refine ⟨i + 1, ⟨rv6, at_ ⟨rfl, rfl, rfl, rfl, rfl, rfl, rfl, rfl, rfl, trivial⟩, by omega, ?_, fun b hb => (hin6 b hb).elim (hrv4 b) fun h => by omega, (u14.trans u5).trans' u6 fun b hb hf => by have := hrv4 b hf; omega⟩, by omega⟩
    rw [evs9_succ, ← List.append_assoc, fl_append, fl_one]
    exact own6
  have hin : i = 9 := by omega
  subst hin
  obtain ⟨ra, rc, rfl⟩ := own4.slice
  have s14 := u14.size
  have hlen9 : (held ++ evs9 9).length = held.length + 9 := by rw [List.length_append, evs9_len]
  have rd4 := own4.rd
  obtain ⟨b5, o5, d5, he5, -, -⟩ := rd4.pos (by omega)
  simp only [Value.slice.injEq] at he5
  obtain ⟨rfl, _, rfl⟩ := he5
  have hcap := own_cap own4
  have cutw : ∀ {w' : World}, Rd w' 11 (.slice (some ⟨b5, o5, none⟩) (held.length + 9) rc) (held.length + 9) (fl Ev.cells (held ++ evs9 9)) → Rd w' 11 (.slice (some ⟨b5, o5, none⟩) held.length rc) held.length (fl Ev.cells held) := fun hR => by
    have := hR.cutTo (j := held.length) (by omega)
    rwa [fl_take ev_len, List.take_left] at this
  have t4 := own1.rd.at u14
  have n4 := (h0.at u01).at u14
  have u04 : Ext w w4 := (u0.trans u01).trans u14
  refine swp_exit ?_; (repeat (first | with_reducible refine e_then ?_ | with_reducible refine e_jump ?_)); refine e_block ?_; (repeat (first | with_reducible refine n_then ?_ | with_reducible refine n_block ?_ | with_reducible refine n_jump ?_))
  refine swp_fit [(0, .int .i64 cap), (1, .int .i64 mark), (2, .bool shut), (3, .slice a0 held.length c0), (5, .int .i64 to), (10, .pointer (some ⟨b0, 0, none⟩)), (13, tv), (14, .slice (some ⟨b5, o5, none⟩) (held.length + 9) rc)] ⟨rfl, rfl, rfl, rfl, rfl, rfl, rfl, rfl, trivial⟩ fun ρ => ?_
  (repeat (first | refine swp_seq ?_ | refine swp_block ?_)); refine swp_region (by kernel_rfl) ?_
  repeat (first | refine x_move (by rfl) ?_ | refine x_as (by rfl) (by rfl) ?_ | refine x_skip (by rfl) ?_ | refine x_fld (by rfl) (by rfl) FldO.h ?_ | refine x_nilck (by rfl) (by rfl) ?_ | refine x_len (by rfl) (by rfl) ElOf.some ?_ | refine x_ext (by rfl) (by rfl) (by rfl) ?_ | refine x_pickT (by rfl) (by rfl) (by rfl) ?_ | refine x_pickF (by rfl) (by rfl) (by rfl) ?_ | refine x_add (by rfl) (by rfl) (by rfl) (by omega) ?_ | refine x_sub (by rfl) (by rfl) (by rfl) (by omega) ?_ | refine x_not (by rfl) (by rfl) ?_)
  refine x_cutTo held.length (by rfl) (by rfl) (by rfl) (by kernel_rfl) rfl (by omega) ?_
  refine w_call (by rfl) (by rfl) (by rfl) (g_restore cap mark shut (cutw rd4) (by omega)) ?_
  rintro _ w5 ⟨code, hrc, hres⟩
  rcases hres with ⟨h0, rfl, u45⟩ | ⟨rfl, bg, r, bp, sp, N, rfl, g5, ok5, hN5, hf5, u45⟩
  · repeat (first | refine x_move (by rfl) ?_ | refine x_as (by rfl) (by rfl) ?_ | refine x_skip (by rfl) ?_ | refine x_fld (by rfl) (by rfl) FldO.h ?_ | refine x_nilck (by rfl) (by rfl) ?_ | refine x_len (by rfl) (by rfl) ElOf.some ?_ | refine x_ext (by rfl) (by rfl) (by rfl) ?_ | refine x_pickT (by rfl) (by rfl) (by rfl) ?_ | refine x_pickF (by rfl) (by rfl) (by rfl) ?_ | refine x_add (by rfl) (by rfl) (by rfl) (by omega) ?_ | refine x_sub (by rfl) (by rfl) (by rfl) (by omega) ?_ | refine x_not (by rfl) (by rfl) ?_)
    refine x_nilw ?_
    refine swp_fit [(0, .int .i64 cap), (1, .int .i64 mark), (2, .bool shut), (3, .slice a0 held.length c0), (5, .int .i64 to), (10, .pointer (some ⟨b0, 0, none⟩)), (13, tv), (14, .slice (some ⟨b5, o5, none⟩) (held.length + 9) rc), (16, .pointer none), (17, .int .i64 code)] ⟨rfl, rfl, rfl, rfl, rfl, rfl, rfl, rfl, rfl, rfl, trivial⟩ fun ρ => ?_
    (repeat (first | refine swp_seq ?_ | refine swp_block ?_)); refine swp_region (by kernel_rfl) ?_
    repeat (first | refine x_move (by rfl) ?_ | refine x_as (by rfl) (by rfl) ?_ | refine x_skip (by rfl) ?_ | refine x_fld (by rfl) (by rfl) FldO.h ?_ | refine x_nilck (by rfl) (by rfl) ?_ | refine x_len (by rfl) (by rfl) ElOf.some ?_ | refine x_ext (by rfl) (by rfl) (by rfl) ?_ | refine x_pickT (by rfl) (by rfl) (by rfl) ?_ | refine x_pickF (by rfl) (by rfl) (by rfl) ?_ | refine x_add (by rfl) (by rfl) (by rfl) (by omega) ?_ | refine x_sub (by rfl) (by rfl) (by rfl) (by omega) ?_ | refine x_not (by rfl) (by rfl) ?_)
    refine w_call (by rfl) (by rfl) (by rfl) (m_restore cap mark shut (t4.at u45) (by omega)) ?_
    rintro v6 w6 ⟨code', hrc', hres'⟩
    obtain rfl := hrc.unique hrc'
    obtain ⟨rfl, u56⟩ : v6 = .tuple #[.pointer none, .int .i64 code] ∧ Ext w5 w6 := by
      rcases hres' with ⟨_, h1, h2⟩ | ⟨hz, _⟩
      · exact ⟨h1, h2⟩
      · exact absurd hz h0
    have u46 := u45.trans u56
    repeat (first | refine x_move (by rfl) ?_ | refine x_as (by rfl) (by rfl) ?_ | refine x_skip (by rfl) ?_ | refine x_fld (by rfl) (by rfl) FldO.h ?_ | refine x_nilck (by rfl) (by rfl) ?_ | refine x_len (by rfl) (by rfl) ElOf.some ?_ | refine x_ext (by rfl) (by rfl) (by rfl) ?_ | refine x_pickT (by rfl) (by rfl) (by rfl) ?_ | refine x_pickF (by rfl) (by rfl) (by rfl) ?_ | refine x_add (by rfl) (by rfl) (by rfl) (by omega) ?_ | refine x_sub (by rfl) (by rfl) (by rfl) (by omega) ?_ | refine x_not (by rfl) (by rfl) ?_)
    refine x_nilw ?_
    refine swp_fit [(3, .slice a0 held.length c0), (13, tv), (14, .slice (some ⟨b5, o5, none⟩) (held.length + 9) rc), (16, .pointer none), (17, .int .i64 code), (18, .pointer none), (19, .int .i64 code)] ⟨rfl, rfl, rfl, rfl, rfl, rfl, rfl, trivial⟩ fun ρ => ?_
    (repeat (first | refine swp_seq ?_ | refine swp_block ?_)); refine swp_region (by kernel_rfl) ?_
    repeat (first | refine x_move (by rfl) ?_ | refine x_as (by rfl) (by rfl) ?_ | refine x_skip (by rfl) ?_ | refine x_fld (by rfl) (by rfl) FldO.h ?_ | refine x_nilck (by rfl) (by rfl) ?_ | refine x_len (by rfl) (by rfl) ElOf.some ?_ | refine x_ext (by rfl) (by rfl) (by rfl) ?_ | refine x_pickT (by rfl) (by rfl) (by rfl) ?_ | refine x_pickF (by rfl) (by rfl) (by rfl) ?_ | refine x_add (by rfl) (by rfl) (by rfl) (by omega) ?_ | refine x_sub (by rfl) (by rfl) (by rfl) (by omega) ?_ | refine x_not (by rfl) (by rfl) ?_)
    refine x_neqF (by rfl) (by rfl) (by rfl) (fun h => h rfl) ?_
    repeat (first | refine x_move (by rfl) ?_ | refine x_as (by rfl) (by rfl) ?_ | refine x_skip (by rfl) ?_ | refine x_fld (by rfl) (by rfl) FldO.h ?_ | refine x_nilck (by rfl) (by rfl) ?_ | refine x_len (by rfl) (by rfl) ElOf.some ?_ | refine x_ext (by rfl) (by rfl) (by rfl) ?_ | refine x_pickT (by rfl) (by rfl) (by rfl) ?_ | refine x_pickF (by rfl) (by rfl) (by rfl) ?_ | refine x_add (by rfl) (by rfl) (by rfl) (by omega) ?_ | refine x_sub (by rfl) (by rfl) (by rfl) (by omega) ?_ | refine x_not (by rfl) (by rfl) ?_)
    refine x_eqlN Try.underlying22 (by rfl) (by rfl) (by rfl) ?_
    repeat (first | refine x_move (by rfl) ?_ | refine x_as (by rfl) (by rfl) ?_ | refine x_skip (by rfl) ?_ | refine x_fld (by rfl) (by rfl) FldO.h ?_ | refine x_nilck (by rfl) (by rfl) ?_ | refine x_len (by rfl) (by rfl) ElOf.some ?_ | refine x_ext (by rfl) (by rfl) (by rfl) ?_ | refine x_pickT (by rfl) (by rfl) (by rfl) ?_ | refine x_pickF (by rfl) (by rfl) (by rfl) ?_ | refine x_add (by rfl) (by rfl) (by rfl) (by omega) ?_ | refine x_sub (by rfl) (by rfl) (by rfl) (by omega) ?_ | refine x_not (by rfl) (by rfl) ?_)
    refine x_eqlN Try.underlying68 (by rfl) (by rfl) (by rfl) ?_
    refine x_neqB Try.underlying4 (by rfl) (by rfl) (by rfl) ?_
    repeat (first | refine x_move (by rfl) ?_ | refine x_as (by rfl) (by rfl) ?_ | refine x_skip (by rfl) ?_ | refine x_fld (by rfl) (by rfl) FldO.h ?_ | refine x_nilck (by rfl) (by rfl) ?_ | refine x_len (by rfl) (by rfl) ElOf.some ?_ | refine x_ext (by rfl) (by rfl) (by rfl) ?_ | refine x_pickT (by rfl) (by rfl) (by rfl) ?_ | refine x_pickF (by rfl) (by rfl) (by rfl) ?_ | refine x_add (by rfl) (by rfl) (by rfl) (by omega) ?_ | refine x_sub (by rfl) (by rfl) (by rfl) (by omega) ?_ | refine x_not (by rfl) (by rfl) ?_)
    refine x_cutTo held.length (by rfl) (by rfl) (by rfl) (by kernel_rfl) rfl (by omega) ?_
    repeat (first | refine x_move (by rfl) ?_ | refine x_as (by rfl) (by rfl) ?_ | refine x_skip (by rfl) ?_ | refine x_fld (by rfl) (by rfl) FldO.h ?_ | refine x_nilck (by rfl) (by rfl) ?_ | refine x_len (by rfl) (by rfl) ElOf.some ?_ | refine x_ext (by rfl) (by rfl) (by rfl) ?_ | refine x_pickT (by rfl) (by rfl) (by rfl) ?_ | refine x_pickF (by rfl) (by rfl) (by rfl) ?_ | refine x_add (by rfl) (by rfl) (by rfl) (by omega) ?_ | refine x_sub (by rfl) (by rfl) (by rfl) (by omega) ?_ | refine x_not (by rfl) (by rfl) ?_)
    refine w_call (by rfl) (by rfl) (by rfl) (LEv.same (cutw (rd4.at u46)) (t4.at u46) (by omega)) ?_
    rintro _ w7 ⟨rfl, u67⟩
    repeat (first | refine x_move (by rfl) ?_ | refine x_as (by rfl) (by rfl) ?_ | refine x_skip (by rfl) ?_ | refine x_fld (by rfl) (by rfl) FldO.h ?_ | refine x_nilck (by rfl) (by rfl) ?_ | refine x_len (by rfl) (by rfl) ElOf.some ?_ | refine x_ext (by rfl) (by rfl) (by rfl) ?_ | refine x_pickT (by rfl) (by rfl) (by rfl) ?_ | refine x_pickF (by rfl) (by rfl) (by rfl) ?_ | refine x_add (by rfl) (by rfl) (by rfl) (by omega) ?_ | refine x_sub (by rfl) (by rfl) (by rfl) (by omega) ?_ | refine x_not (by rfl) (by rfl) ?_)
    refine x_nilw ?_
    (repeat (first | refine swp_seq ?_ | refine swp_block ?_))
    refine swp_false (by rfl) (swp_skip ?_)
    (repeat (first | with_reducible refine n_then ?_ | with_reducible refine n_block ?_ | with_reducible refine n_jump ?_))
    have u47 := u46.trans u67
    have rdZ := rd4.at u47
    rw [show held.length + 9 = (held ++ evs9 9).length from hlen9.symm] at rdZ
    refine swp_fit [(3, .slice a0 held.length c0), (14, .slice (some ⟨b5, o5, none⟩) (held.length + 9) rc), (16, .pointer none)] ⟨rfl, rfl, rfl, trivial⟩ fun ρ => ?_
    (repeat (first | refine swp_seq ?_ | refine swp_block ?_)); refine swp_region (by kernel_rfl) ?_
    repeat (first | refine x_move (by rfl) ?_ | refine x_as (by rfl) (by rfl) ?_ | refine x_skip (by rfl) ?_ | refine x_fld (by rfl) (by rfl) FldO.h ?_ | refine x_nilck (by rfl) (by rfl) ?_ | refine x_len (by rfl) (by rfl) ElOf.some ?_ | refine x_ext (by rfl) (by rfl) (by rfl) ?_ | refine x_pickT (by rfl) (by rfl) (by rfl) ?_ | refine x_pickF (by rfl) (by rfl) (by rfl) ?_ | refine x_add (by rfl) (by rfl) (by rfl) (by omega) ?_ | refine x_sub (by rfl) (by rfl) (by rfl) (by omega) ?_ | refine x_not (by rfl) (by rfl) ?_)
    refine x_nilw ?_
    (repeat (first | refine swp_seq ?_ | refine swp_block ?_))
    refine swp_loop (fun (i : Nat) σ w' => At σ [(3, .slice a0 held.length c0), (14, .slice (some ⟨b5, o5, none⟩) (held.length + 9) rc), (16, .pointer none), (20, .int .i64 (i : Nat))] ∧ i ≤ 9 ∧ w7 = w') (fun i => 9 - i) 0 ⟨at_ ⟨rfl, rfl, rfl, rfl, trivial⟩, by omega, rfl⟩ ?_
    rintro i σ w' ⟨⟨ρ, rfl⟩, hi, rfl⟩
    (repeat (first | refine swp_seq ?_ | refine swp_block ?_)); refine swp_region (by kernel_rfl) ?_
    repeat (first | refine x_move (by rfl) ?_ | refine x_as (by rfl) (by rfl) ?_ | refine x_skip (by rfl) ?_ | refine x_fld (by rfl) (by rfl) FldO.h ?_ | refine w_load (by rfl) (by rfl) (load_one OneT.h (by assumption) (by rfl)) ?_ | refine x_nilck (by rfl) (by rfl) ?_ | refine x_len (by rfl) (by rfl) ElOf.some ?_ | refine x_iface (by rfl) (by rfl) NIf.h ?_ | refine x_ext (by rfl) (by rfl) (by rfl) ?_ | refine x_pickT (by rfl) (by rfl) (by rfl) ?_ | refine x_pickF (by rfl) (by rfl) (by rfl) ?_ | refine x_add (by rfl) (by rfl) (by rfl) (by omega) ?_ | refine x_sub (by rfl) (by rfl) (by rfl) (by omega) ?_ | refine x_lss (by rfl) (by rfl) (by rfl) ?_ | refine x_geq (by rfl) (by rfl) (by rfl) ?_ | refine x_leq (by rfl) (by rfl) (by rfl) ?_ | refine x_gtr (by rfl) (by rfl) (by rfl) ?_ | refine x_eql (by rfl) (by rfl) (by rfl) ?_ | refine x_neq (by rfl) (by rfl) (by rfl) ?_ | refine x_not (by rfl) (by rfl) ?_)
    refine x_nilw ?_
    (repeat (first | refine swp_seq ?_ | refine swp_block ?_))
    refine swp_if (by rfl) (fun hc => swp_skip ?_) (fun hc => ?_)
    · have hi' : i < 9 := by omega
      have hx : (held ++ evs9 9)[held.length + i]? = some (ev9 i) := by
        rw [List.getElem?_append_right (by omega), show held.length + i - held.length = i by omega]
        exact evs9_get hi'
      (repeat (first | with_reducible refine n_then ?_ | with_reducible refine n_block ?_ | with_reducible refine n_jump ?_))
      (repeat (first | refine swp_seq ?_ | refine swp_block ?_)); refine swp_region (by kernel_rfl) ?_
      repeat (first | refine x_move (by rfl) ?_ | refine x_as (by rfl) (by rfl) ?_ | refine x_skip (by rfl) ?_ | refine x_fld (by rfl) (by rfl) FldO.h ?_ | refine x_nilck (by rfl) (by rfl) ?_ | refine x_len (by rfl) (by rfl) ElOf.some ?_ | refine x_ext (by rfl) (by rfl) (by rfl) ?_ | refine x_pickT (by rfl) (by rfl) (by rfl) ?_ | refine x_pickF (by rfl) (by rfl) (by rfl) ?_ | refine x_add (by rfl) (by rfl) (by rfl) (by omega) ?_ | refine x_sub (by rfl) (by rfl) (by rfl) (by omega) ?_ | refine x_not (by rfl) (by rfl) ?_)
      refine x_idx (held.length + i) (by rfl) (by rfl) (by rfl) ElSz.h (by omega) (by omega) ?_
      refine w_load (by rfl) (by rfl) (rd_load ev_len AggT.h rdZ hx rfl rfl) ?_
      repeat (first | refine x_move (by rfl) ?_ | refine x_as (by rfl) (by rfl) ?_ | refine x_skip (by rfl) ?_ | refine x_fld (by rfl) (by rfl) FldO.h ?_ | refine x_nilck (by rfl) (by rfl) ?_ | refine x_len (by rfl) (by rfl) ElOf.some ?_ | refine x_ext (by rfl) (by rfl) (by rfl) ?_ | refine x_pickT (by rfl) (by rfl) (by rfl) ?_ | refine x_pickF (by rfl) (by rfl) (by rfl) ?_ | refine x_add (by rfl) (by rfl) (by rfl) (by omega) ?_ | refine x_sub (by rfl) (by rfl) (by rfl) (by omega) ?_ | refine x_not (by rfl) (by rfl) ?_)
      refine x_convU (by kernel_rfl) Try.underlying27 (by rfl) (by rfl) (by omega) ?_
      refine x_build (v := (ev9 i).v) (by rfl) (by rfl) (fun _ => by kernel_rfl) ?_
      refine x_neqA (a := ev9 i) (b := ev9 i) eq_ev (by rfl) (by rfl) (by rfl) ?_
      rw [decide_eq_true (rfl : ev9 i = ev9 i)]
      refine x_nilw ?_
      (repeat (first | refine swp_seq ?_ | refine swp_block ?_))
      refine swp_false (by rfl) (swp_skip ?_)
      (repeat (first | with_reducible refine n_then ?_ | with_reducible refine n_block ?_ | with_reducible refine n_jump ?_))
      (repeat (first | refine swp_seq ?_ | refine swp_block ?_)); refine swp_region (by kernel_rfl) ?_
      repeat (first | refine x_move (by rfl) ?_ | refine x_as (by rfl) (by rfl) ?_ | refine x_skip (by rfl) ?_ | refine x_fld (by rfl) (by rfl) FldO.h ?_ | refine x_nilck (by rfl) (by rfl) ?_ | refine x_len (by rfl) (by rfl) ElOf.some ?_ | refine x_ext (by rfl) (by rfl) (by rfl) ?_ | refine x_pickT (by rfl) (by rfl) (by rfl) ?_ | refine x_pickF (by rfl) (by rfl) (by rfl) ?_ | refine x_add (by rfl) (by rfl) (by rfl) (by omega) ?_ | refine x_sub (by rfl) (by rfl) (by rfl) (by omega) ?_ | refine x_not (by rfl) (by rfl) ?_)
      refine x_nilw ?_
      exact ⟨i + 1, ⟨at_ ⟨rfl, rfl, rfl, rfl, trivial⟩, by omega, rfl⟩, by omega⟩
    have hin : i = 9 := by omega
    subst hin
    refine swp_exit ?_; (repeat (first | with_reducible refine e_then ?_ | with_reducible refine e_jump ?_)); refine e_block ?_; (repeat (first | with_reducible refine n_then ?_ | with_reducible refine n_block ?_ | with_reducible refine n_jump ?_))
    (repeat (first | refine swp_seq ?_ | refine swp_block ?_)); refine swp_region (by kernel_rfl) ?_
    repeat (first | refine x_move (by rfl) ?_ | refine x_as (by rfl) (by rfl) ?_ | refine x_skip (by rfl) ?_ | refine x_fld (by rfl) (by rfl) FldO.h ?_ | refine x_nilck (by rfl) (by rfl) ?_ | refine x_len (by rfl) (by rfl) ElOf.some ?_ | refine x_ext (by rfl) (by rfl) (by rfl) ?_ | refine x_pickT (by rfl) (by rfl) (by rfl) ?_ | refine x_pickF (by rfl) (by rfl) (by rfl) ?_ | refine x_add (by rfl) (by rfl) (by rfl) (by omega) ?_ | refine x_sub (by rfl) (by rfl) (by rfl) (by omega) ?_ | refine x_not (by rfl) (by rfl) ?_)
    refine x_eqlN Try.underlying22 (by rfl) (by rfl) (by rfl) ?_
    refine x_nilw ?_
    (repeat (first | refine swp_seq ?_ | refine swp_block ?_))
    refine swp_true (by rfl) ?_
    (repeat (first | refine swp_seq ?_ | refine swp_block ?_)); refine swp_region (by kernel_rfl) ?_
    repeat (first | refine x_move (by rfl) ?_ | refine x_as (by rfl) (by rfl) ?_ | refine x_skip (by rfl) ?_ | refine x_fld (by rfl) (by rfl) FldO.h ?_ | refine x_nilck (by rfl) (by rfl) ?_ | refine x_len (by rfl) (by rfl) ElOf.some ?_ | refine x_ext (by rfl) (by rfl) (by rfl) ?_ | refine x_pickT (by rfl) (by rfl) (by rfl) ?_ | refine x_pickF (by rfl) (by rfl) (by rfl) ?_ | refine x_add (by rfl) (by rfl) (by rfl) (by omega) ?_ | refine x_sub (by rfl) (by rfl) (by rfl) (by omega) ?_ | refine x_not (by rfl) (by rfl) ?_)
    refine x_nilw ?_
    refine swp_ret ?_; (repeat (first | with_reducible refine r_then ?_ | with_reducible refine r_block ?_ | with_reducible refine r_jump ?_))
    exact post1 rfl rfl ⟨_, rfl, rfl, u04.trans u47⟩
  · repeat (first | refine x_move (by rfl) ?_ | refine x_as (by rfl) (by rfl) ?_ | refine x_skip (by rfl) ?_ | refine x_fld (by rfl) (by rfl) FldO.h ?_ | refine x_nilck (by rfl) (by rfl) ?_ | refine x_len (by rfl) (by rfl) ElOf.some ?_ | refine x_ext (by rfl) (by rfl) (by rfl) ?_ | refine x_pickT (by rfl) (by rfl) (by rfl) ?_ | refine x_pickF (by rfl) (by rfl) (by rfl) ?_ | refine x_add (by rfl) (by rfl) (by rfl) (by omega) ?_ | refine x_sub (by rfl) (by rfl) (by rfl) (by omega) ?_ | refine x_not (by rfl) (by rfl) ?_)
    refine x_nilw ?_
    refine swp_fit [(0, .int .i64 cap), (1, .int .i64 mark), (2, .bool shut), (3, .slice a0 held.length c0), (5, .int .i64 to), (10, .pointer (some ⟨b0, 0, none⟩)), (13, tv), (14, .slice (some ⟨b5, o5, none⟩) (held.length + 9) rc), (16, .pointer (some ⟨bg, 0, none⟩)), (17, .int .i64 0)] ⟨rfl, rfl, rfl, rfl, rfl, rfl, rfl, rfl, rfl, rfl, trivial⟩ fun ρ => ?_
    (repeat (first | refine swp_seq ?_ | refine swp_block ?_)); refine swp_region (by kernel_rfl) ?_
    repeat (first | refine x_move (by rfl) ?_ | refine x_as (by rfl) (by rfl) ?_ | refine x_skip (by rfl) ?_ | refine x_fld (by rfl) (by rfl) FldO.h ?_ | refine x_nilck (by rfl) (by rfl) ?_ | refine x_len (by rfl) (by rfl) ElOf.some ?_ | refine x_ext (by rfl) (by rfl) (by rfl) ?_ | refine x_pickT (by rfl) (by rfl) (by rfl) ?_ | refine x_pickF (by rfl) (by rfl) (by rfl) ?_ | refine x_add (by rfl) (by rfl) (by rfl) (by omega) ?_ | refine x_sub (by rfl) (by rfl) (by rfl) (by omega) ?_ | refine x_not (by rfl) (by rfl) ?_)
    refine w_call (by rfl) (by rfl) (by rfl) (m_restore cap mark shut (t4.at u45) (by omega)) ?_
    rintro v6 w6 ⟨code', hrc', hres'⟩
    obtain rfl := hrc.unique hrc'
    obtain ⟨bm, sl, rfl, m6, hfm, u56⟩ : ∃ bm sl, v6 = .tuple #[.pointer (some ⟨bm, 0, none⟩), .int .i64 0] ∧ Mo w6 bm sl ⟨held, cap, mark, shut⟩ ∧ (∀ b, mfoot bm sl b → w5.heap.size ≤ b) ∧ Ext w5 w6 := by
      rcases hres' with ⟨h0, _⟩ | ⟨_, h1⟩
      · exact absurd rfl h0
      · exact h1
    have u46 := u45.trans u56
    have s45 := u45.size
    have s56 := u56.size
    repeat (first | refine x_move (by rfl) ?_ | refine x_as (by rfl) (by rfl) ?_ | refine x_skip (by rfl) ?_ | refine x_fld (by rfl) (by rfl) FldO.h ?_ | refine x_nilck (by rfl) (by rfl) ?_ | refine x_len (by rfl) (by rfl) ElOf.some ?_ | refine x_ext (by rfl) (by rfl) (by rfl) ?_ | refine x_pickT (by rfl) (by rfl) (by rfl) ?_ | refine x_pickF (by rfl) (by rfl) (by rfl) ?_ | refine x_add (by rfl) (by rfl) (by rfl) (by omega) ?_ | refine x_sub (by rfl) (by rfl) (by rfl) (by omega) ?_ | refine x_not (by rfl) (by rfl) ?_)
    refine x_nilw ?_
    refine swp_fit [(0, .int .i64 cap), (3, .slice a0 held.length c0), (5, .int .i64 to), (10, .pointer (some ⟨b0, 0, none⟩)), (13, tv), (14, .slice (some ⟨b5, o5, none⟩) (held.length + 9) rc), (16, .pointer (some ⟨bg, 0, none⟩)), (17, .int .i64 0), (18, .pointer (some ⟨bm, 0, none⟩)), (19, .int .i64 0)] ⟨rfl, rfl, rfl, rfl, rfl, rfl, rfl, rfl, rfl, rfl, trivial⟩ fun ρ => ?_
    (repeat (first | refine swp_seq ?_ | refine swp_block ?_)); refine swp_region (by kernel_rfl) ?_
    repeat (first | refine x_move (by rfl) ?_ | refine x_as (by rfl) (by rfl) ?_ | refine x_skip (by rfl) ?_ | refine x_fld (by rfl) (by rfl) FldO.h ?_ | refine x_nilck (by rfl) (by rfl) ?_ | refine x_len (by rfl) (by rfl) ElOf.some ?_ | refine x_ext (by rfl) (by rfl) (by rfl) ?_ | refine x_pickT (by rfl) (by rfl) (by rfl) ?_ | refine x_pickF (by rfl) (by rfl) (by rfl) ?_ | refine x_add (by rfl) (by rfl) (by rfl) (by omega) ?_ | refine x_sub (by rfl) (by rfl) (by rfl) (by omega) ?_ | refine x_not (by rfl) (by rfl) ?_)
    refine x_neqF (by rfl) (by rfl) (by rfl) (fun h => h rfl) ?_
    repeat (first | refine x_move (by rfl) ?_ | refine x_as (by rfl) (by rfl) ?_ | refine x_skip (by rfl) ?_ | refine x_fld (by rfl) (by rfl) FldO.h ?_ | refine x_nilck (by rfl) (by rfl) ?_ | refine x_len (by rfl) (by rfl) ElOf.some ?_ | refine x_ext (by rfl) (by rfl) (by rfl) ?_ | refine x_pickT (by rfl) (by rfl) (by rfl) ?_ | refine x_pickF (by rfl) (by rfl) (by rfl) ?_ | refine x_add (by rfl) (by rfl) (by rfl) (by omega) ?_ | refine x_sub (by rfl) (by rfl) (by rfl) (by omega) ?_ | refine x_not (by rfl) (by rfl) ?_)
    refine x_eqlP Try.underlying22 (by rfl) (by rfl) (by rfl) ?_
    repeat (first | refine x_move (by rfl) ?_ | refine x_as (by rfl) (by rfl) ?_ | refine x_skip (by rfl) ?_ | refine x_fld (by rfl) (by rfl) FldO.h ?_ | refine x_nilck (by rfl) (by rfl) ?_ | refine x_len (by rfl) (by rfl) ElOf.some ?_ | refine x_ext (by rfl) (by rfl) (by rfl) ?_ | refine x_pickT (by rfl) (by rfl) (by rfl) ?_ | refine x_pickF (by rfl) (by rfl) (by rfl) ?_ | refine x_add (by rfl) (by rfl) (by rfl) (by omega) ?_ | refine x_sub (by rfl) (by rfl) (by rfl) (by omega) ?_ | refine x_not (by rfl) (by rfl) ?_)
    refine x_eqlP Try.underlying68 (by rfl) (by rfl) (by rfl) ?_
    refine x_neqB Try.underlying4 (by rfl) (by rfl) (by rfl) ?_
    repeat (first | refine x_move (by rfl) ?_ | refine x_as (by rfl) (by rfl) ?_ | refine x_skip (by rfl) ?_ | refine x_fld (by rfl) (by rfl) FldO.h ?_ | refine x_nilck (by rfl) (by rfl) ?_ | refine x_len (by rfl) (by rfl) ElOf.some ?_ | refine x_ext (by rfl) (by rfl) (by rfl) ?_ | refine x_pickT (by rfl) (by rfl) (by rfl) ?_ | refine x_pickF (by rfl) (by rfl) (by rfl) ?_ | refine x_add (by rfl) (by rfl) (by rfl) (by omega) ?_ | refine x_sub (by rfl) (by rfl) (by rfl) (by omega) ?_ | refine x_not (by rfl) (by rfl) ?_)
    refine x_cutTo held.length (by rfl) (by rfl) (by rfl) (by kernel_rfl) rfl (by omega) ?_
    repeat (first | refine x_move (by rfl) ?_ | refine x_as (by rfl) (by rfl) ?_ | refine x_skip (by rfl) ?_ | refine x_fld (by rfl) (by rfl) FldO.h ?_ | refine x_nilck (by rfl) (by rfl) ?_ | refine x_len (by rfl) (by rfl) ElOf.some ?_ | refine x_ext (by rfl) (by rfl) (by rfl) ?_ | refine x_pickT (by rfl) (by rfl) (by rfl) ?_ | refine x_pickF (by rfl) (by rfl) (by rfl) ?_ | refine x_add (by rfl) (by rfl) (by rfl) (by omega) ?_ | refine x_sub (by rfl) (by rfl) (by rfl) (by omega) ?_ | refine x_not (by rfl) (by rfl) ?_)
    refine w_call (by rfl) (by rfl) (by rfl) (LEv.same (cutw (rd4.at u46)) (t4.at u46) (by omega)) ?_
    rintro _ w7 ⟨rfl, u67⟩
    repeat (first | refine x_move (by rfl) ?_ | refine x_as (by rfl) (by rfl) ?_ | refine x_skip (by rfl) ?_ | refine x_fld (by rfl) (by rfl) FldO.h ?_ | refine x_nilck (by rfl) (by rfl) ?_ | refine x_len (by rfl) (by rfl) ElOf.some ?_ | refine x_ext (by rfl) (by rfl) (by rfl) ?_ | refine x_pickT (by rfl) (by rfl) (by rfl) ?_ | refine x_pickF (by rfl) (by rfl) (by rfl) ?_ | refine x_add (by rfl) (by rfl) (by rfl) (by omega) ?_ | refine x_sub (by rfl) (by rfl) (by rfl) (by omega) ?_ | refine x_not (by rfl) (by rfl) ?_)
    refine x_nilw ?_
    (repeat (first | refine swp_seq ?_ | refine swp_block ?_))
    refine swp_false (by rfl) (swp_skip ?_)
    (repeat (first | with_reducible refine n_then ?_ | with_reducible refine n_block ?_ | with_reducible refine n_jump ?_))
    have u47 := u46.trans u67
    have rdZ := rd4.at u47
    rw [show held.length + 9 = (held ++ evs9 9).length from hlen9.symm] at rdZ
    refine swp_fit [(0, .int .i64 cap), (3, .slice a0 held.length c0), (5, .int .i64 to), (10, .pointer (some ⟨b0, 0, none⟩)), (14, .slice (some ⟨b5, o5, none⟩) (held.length + 9) rc), (16, .pointer (some ⟨bg, 0, none⟩)), (18, .pointer (some ⟨bm, 0, none⟩))] ⟨rfl, rfl, rfl, rfl, rfl, rfl, rfl, trivial⟩ fun ρ => ?_
    (repeat (first | refine swp_seq ?_ | refine swp_block ?_)); refine swp_region (by kernel_rfl) ?_
    repeat (first | refine x_move (by rfl) ?_ | refine x_as (by rfl) (by rfl) ?_ | refine x_skip (by rfl) ?_ | refine x_fld (by rfl) (by rfl) FldO.h ?_ | refine x_nilck (by rfl) (by rfl) ?_ | refine x_len (by rfl) (by rfl) ElOf.some ?_ | refine x_ext (by rfl) (by rfl) (by rfl) ?_ | refine x_pickT (by rfl) (by rfl) (by rfl) ?_ | refine x_pickF (by rfl) (by rfl) (by rfl) ?_ | refine x_add (by rfl) (by rfl) (by rfl) (by omega) ?_ | refine x_sub (by rfl) (by rfl) (by rfl) (by omega) ?_ | refine x_not (by rfl) (by rfl) ?_)
    refine x_nilw ?_
    (repeat (first | refine swp_seq ?_ | refine swp_block ?_))
    refine swp_loop (fun (i : Nat) σ w' => At σ [(0, .int .i64 cap), (3, .slice a0 held.length c0), (5, .int .i64 to), (10, .pointer (some ⟨b0, 0, none⟩)), (14, .slice (some ⟨b5, o5, none⟩) (held.length + 9) rc), (16, .pointer (some ⟨bg, 0, none⟩)), (18, .pointer (some ⟨bm, 0, none⟩)), (20, .int .i64 (i : Nat))] ∧ i ≤ 9 ∧ w7 = w') (fun i => 9 - i) 0 ⟨at_ ⟨rfl, rfl, rfl, rfl, rfl, rfl, rfl, rfl, trivial⟩, by omega, rfl⟩ ?_
    rintro i σ w' ⟨⟨ρ, rfl⟩, hi, rfl⟩
    (repeat (first | refine swp_seq ?_ | refine swp_block ?_)); refine swp_region (by kernel_rfl) ?_
    repeat (first | refine x_move (by rfl) ?_ | refine x_as (by rfl) (by rfl) ?_ | refine x_skip (by rfl) ?_ | refine x_fld (by rfl) (by rfl) FldO.h ?_ | refine w_load (by rfl) (by rfl) (load_one OneT.h (by assumption) (by rfl)) ?_ | refine x_nilck (by rfl) (by rfl) ?_ | refine x_len (by rfl) (by rfl) ElOf.some ?_ | refine x_iface (by rfl) (by rfl) NIf.h ?_ | refine x_ext (by rfl) (by rfl) (by rfl) ?_ | refine x_pickT (by rfl) (by rfl) (by rfl) ?_ | refine x_pickF (by rfl) (by rfl) (by rfl) ?_ | refine x_add (by rfl) (by rfl) (by rfl) (by omega) ?_ | refine x_sub (by rfl) (by rfl) (by rfl) (by omega) ?_ | refine x_lss (by rfl) (by rfl) (by rfl) ?_ | refine x_geq (by rfl) (by rfl) (by rfl) ?_ | refine x_leq (by rfl) (by rfl) (by rfl) ?_ | refine x_gtr (by rfl) (by rfl) (by rfl) ?_ | refine x_eql (by rfl) (by rfl) (by rfl) ?_ | refine x_neq (by rfl) (by rfl) (by rfl) ?_ | refine x_not (by rfl) (by rfl) ?_)
    refine x_nilw ?_
    (repeat (first | refine swp_seq ?_ | refine swp_block ?_))
    refine swp_if (by rfl) (fun hc => swp_skip ?_) (fun hc => ?_)
    · have hi' : i < 9 := by omega
      have hx : (held ++ evs9 9)[held.length + i]? = some (ev9 i) := by
        rw [List.getElem?_append_right (by omega), show held.length + i - held.length = i by omega]
        exact evs9_get hi'
      (repeat (first | with_reducible refine n_then ?_ | with_reducible refine n_block ?_ | with_reducible refine n_jump ?_))
      (repeat (first | refine swp_seq ?_ | refine swp_block ?_)); refine swp_region (by kernel_rfl) ?_
      repeat (first | refine x_move (by rfl) ?_ | refine x_as (by rfl) (by rfl) ?_ | refine x_skip (by rfl) ?_ | refine x_fld (by rfl) (by rfl) FldO.h ?_ | refine x_nilck (by rfl) (by rfl) ?_ | refine x_len (by rfl) (by rfl) ElOf.some ?_ | refine x_ext (by rfl) (by rfl) (by rfl) ?_ | refine x_pickT (by rfl) (by rfl) (by rfl) ?_ | refine x_pickF (by rfl) (by rfl) (by rfl) ?_ | refine x_add (by rfl) (by rfl) (by rfl) (by omega) ?_ | refine x_sub (by rfl) (by rfl) (by rfl) (by omega) ?_ | refine x_not (by rfl) (by rfl) ?_)
      refine x_idx (held.length + i) (by rfl) (by rfl) (by rfl) ElSz.h (by omega) (by omega) ?_
      refine w_load (by rfl) (by rfl) (rd_load ev_len AggT.h rdZ hx rfl rfl) ?_
      repeat (first | refine x_move (by rfl) ?_ | refine x_as (by rfl) (by rfl) ?_ | refine x_skip (by rfl) ?_ | refine x_fld (by rfl) (by rfl) FldO.h ?_ | refine x_nilck (by rfl) (by rfl) ?_ | refine x_len (by rfl) (by rfl) ElOf.some ?_ | refine x_ext (by rfl) (by rfl) (by rfl) ?_ | refine x_pickT (by rfl) (by rfl) (by rfl) ?_ | refine x_pickF (by rfl) (by rfl) (by rfl) ?_ | refine x_add (by rfl) (by rfl) (by rfl) (by omega) ?_ | refine x_sub (by rfl) (by rfl) (by rfl) (by omega) ?_ | refine x_not (by rfl) (by rfl) ?_)
      refine x_convU (by kernel_rfl) Try.underlying27 (by rfl) (by rfl) (by omega) ?_
      refine x_build (v := (ev9 i).v) (by rfl) (by rfl) (fun _ => by kernel_rfl) ?_
      refine x_neqA (a := ev9 i) (b := ev9 i) eq_ev (by rfl) (by rfl) (by rfl) ?_
      rw [decide_eq_true (rfl : ev9 i = ev9 i)]
      refine x_nilw ?_
      (repeat (first | refine swp_seq ?_ | refine swp_block ?_))
      refine swp_false (by rfl) (swp_skip ?_)
      (repeat (first | with_reducible refine n_then ?_ | with_reducible refine n_block ?_ | with_reducible refine n_jump ?_))
      (repeat (first | refine swp_seq ?_ | refine swp_block ?_)); refine swp_region (by kernel_rfl) ?_
      repeat (first | refine x_move (by rfl) ?_ | refine x_as (by rfl) (by rfl) ?_ | refine x_skip (by rfl) ?_ | refine x_fld (by rfl) (by rfl) FldO.h ?_ | refine x_nilck (by rfl) (by rfl) ?_ | refine x_len (by rfl) (by rfl) ElOf.some ?_ | refine x_ext (by rfl) (by rfl) (by rfl) ?_ | refine x_pickT (by rfl) (by rfl) (by rfl) ?_ | refine x_pickF (by rfl) (by rfl) (by rfl) ?_ | refine x_add (by rfl) (by rfl) (by rfl) (by omega) ?_ | refine x_sub (by rfl) (by rfl) (by rfl) (by omega) ?_ | refine x_not (by rfl) (by rfl) ?_)
      refine x_nilw ?_
      exact ⟨i + 1, ⟨at_ ⟨rfl, rfl, rfl, rfl, rfl, rfl, rfl, rfl, trivial⟩, by omega, rfl⟩, by omega⟩
    have hin : i = 9 := by omega
    subst hin
    refine swp_exit ?_; (repeat (first | with_reducible refine e_then ?_ | with_reducible refine e_jump ?_)); refine e_block ?_; (repeat (first | with_reducible refine n_then ?_ | with_reducible refine n_block ?_ | with_reducible refine n_jump ?_))
    have hok2 : (GS.mk held cap mark shut).Ok2 := by
      rcases hrc with ⟨hz, _⟩ | ⟨_, ⟨hz, _⟩ | ⟨hbm, ⟨hz, _⟩ | ⟨_, hns, _⟩⟩⟩
      · omega
      · omega
      · omega
      · intro hs
        refine ⟨?_, ?_⟩
        · by_cases hm : mark = maxT
          · exact hm
          · exact absurd (.inr (.inr ⟨hs, hm⟩)) hbm
        · by_cases he : held = []
          · exact he
          · exact absurd ⟨hs, he⟩ hns
    have g7 := (g5.at u56).at u67
    have m7 := m6.at u67
    have n7 := n4.at u47
    have s67 := u67.size
    have hgl : ∀ b, gfoot bg r bp sp b → b < w5.heap.size := fun b hb => g5.lt hb
    (repeat (first | refine swp_seq ?_ | refine swp_block ?_)); refine swp_region (by kernel_rfl) ?_
    repeat (first | refine x_move (by rfl) ?_ | refine x_as (by rfl) (by rfl) ?_ | refine x_skip (by rfl) ?_ | refine x_fld (by rfl) (by rfl) FldO.h ?_ | refine x_nilck (by rfl) (by rfl) ?_ | refine x_len (by rfl) (by rfl) ElOf.some ?_ | refine x_ext (by rfl) (by rfl) (by rfl) ?_ | refine x_pickT (by rfl) (by rfl) (by rfl) ?_ | refine x_pickF (by rfl) (by rfl) (by rfl) ?_ | refine x_add (by rfl) (by rfl) (by rfl) (by omega) ?_ | refine x_sub (by rfl) (by rfl) (by rfl) (by omega) ?_ | refine x_not (by rfl) (by rfl) ?_)
    refine x_eqlP Try.underlying22 (by rfl) (by rfl) (by rfl) ?_
    refine x_nilw ?_
    (repeat (first | refine swp_seq ?_ | refine swp_block ?_))
    refine swp_false (by rfl) (swp_skip ?_)
    (repeat (first | with_reducible refine n_then ?_ | with_reducible refine n_block ?_ | with_reducible refine n_jump ?_))
    (repeat (first | refine swp_seq ?_ | refine swp_block ?_)); refine swp_region (by kernel_rfl) ?_
    repeat (first | refine x_move (by rfl) ?_ | refine x_as (by rfl) (by rfl) ?_ | refine x_skip (by rfl) ?_ | refine x_fld (by rfl) (by rfl) FldO.h ?_ | refine x_nilck (by rfl) (by rfl) ?_ | refine x_len (by rfl) (by rfl) ElOf.some ?_ | refine x_ext (by rfl) (by rfl) (by rfl) ?_ | refine x_pickT (by rfl) (by rfl) (by rfl) ?_ | refine x_pickF (by rfl) (by rfl) (by rfl) ?_ | refine x_add (by rfl) (by rfl) (by rfl) (by omega) ?_ | refine x_sub (by rfl) (by rfl) (by rfl) (by omega) ?_ | refine x_not (by rfl) (by rfl) ?_)
    refine x_build (v := .agg [.pointer (some ⟨bg, 0, none⟩), .pointer (some ⟨bm, 0, none⟩), .int .i64 cap].toArray) (by rfl) (by rfl) (fun _ => by kernel_rfl) ?_
    refine w_alloc (by rfl) (by rfl) ZeroT.h ?_; intro pb w8 e8 u8 h8
    refine w_store (xs := [.pointer (some ⟨bg, 0, none⟩), .pointer (some ⟨bm, 0, none⟩), .int .i64 cap]) (by rfl) (by rfl) (by rfl) (by rfl) SzT.h (by rfl) (by rfl) h8 (by simp) ?_
    intro w9 u9 h9 _
    refine x_nilw ?_
    have u79 : Ext w7 w9 := u8.trans' u9 fun b hb e => by have e' : b = pb := e; omega
    have hml : ∀ b, mfoot bm sl b → b < w6.heap.size := fun b hb => m6.lt hb
    have p9 : PaL w9 pb bg r bp sp bm sl ⟨held, cap, mark, shut⟩ N := ⟨h9, g7.at u79, m7.at u79, ok5, hok2, fun b hb hb' => by have := hgl b hb; have := hfm b hb'; omega, ⟨fun hb => by have := hgl pb hb; omega, fun hb => by have := hml pb hb; omega⟩⟩
    have n9 := n7.at u79
    have s79 := u79.size
    refine swp_fit [(5, .int .i64 to), (10, .pointer (some ⟨b0, 0, none⟩)), (21, .pointer (some ⟨pb, 0, none⟩))] ⟨rfl, rfl, rfl, trivial⟩ fun ρ => ?_
    (repeat (first | refine swp_seq ?_ | refine swp_block ?_)); refine swp_region (by kernel_rfl) ?_
    refine x_build (v := .agg (Gop.mk 4 0 Ev.zero 0).cells.toArray) (by rfl) (by rfl) (fun _ => by kernel_rfl) ?_
    refine x_build (v := .agg (Gop.mk 5 0 Ev.zero 0).cells.toArray) (by rfl) (by rfl) (fun _ => by kernel_rfl) ?_
    refine x_build (v := .agg (Gop.mk 6 0 Ev.zero 0).cells.toArray) (by rfl) (by rfl) (fun _ => by kernel_rfl) ?_
    refine w_load (by rfl) (by rfl) (load_agg (xs := next.cells) AggT.h n9 (by rfl) (by rfl)) ?_
    refine x_build (v := .agg (Gop.mk 1 0 next 0).cells.toArray) (by rfl) (by rfl) (fun _ => by kernel_rfl) ?_
    repeat (first | refine x_move (by rfl) ?_ | refine x_as (by rfl) (by rfl) ?_ | refine x_skip (by rfl) ?_ | refine x_fld (by rfl) (by rfl) FldO.h ?_ | refine x_nilck (by rfl) (by rfl) ?_ | refine x_len (by rfl) (by rfl) ElOf.some ?_ | refine x_ext (by rfl) (by rfl) (by rfl) ?_ | refine x_pickT (by rfl) (by rfl) (by rfl) ?_ | refine x_pickF (by rfl) (by rfl) (by rfl) ?_ | refine x_add (by rfl) (by rfl) (by rfl) (by omega) ?_ | refine x_sub (by rfl) (by rfl) (by rfl) (by omega) ?_ | refine x_not (by rfl) (by rfl) ?_)
    refine x_build (v := .agg (Gop.mk 2 0 Ev.zero to).cells.toArray) (by rfl) (by rfl) (fun _ => by kernel_rfl) ?_
    refine x_build (v := .agg (Gop.mk 6 0 Ev.zero 0).cells.toArray) (by rfl) (by rfl) (fun _ => by kernel_rfl) ?_
    refine x_build (v := .agg (Gop.mk 3 0 Ev.zero 0).cells.toArray) (by rfl) (by rfl) (fun _ => by kernel_rfl) ?_
    refine x_build (v := .agg (Gop.mk 4 0 Ev.zero 0).cells.toArray) (by rfl) (by rfl) (fun _ => by kernel_rfl) ?_
    refine w_bslice (e := 51) (cs := fl Gop.cells (script8 next to)) (by rfl) (by rfl) (by rfl) (by kernel_rfl) ?_
    intro bs w10 e10 u10 h10
    repeat (first | refine x_move (by rfl) ?_ | refine x_as (by rfl) (by rfl) ?_ | refine x_skip (by rfl) ?_ | refine x_fld (by rfl) (by rfl) FldO.h ?_ | refine x_nilck (by rfl) (by rfl) ?_ | refine x_len (by rfl) (by rfl) ElOf.some ?_ | refine x_ext (by rfl) (by rfl) (by rfl) ?_ | refine x_pickT (by rfl) (by rfl) (by rfl) ?_ | refine x_pickF (by rfl) (by rfl) (by rfl) ?_ | refine x_add (by rfl) (by rfl) (by rfl) (by omega) ?_ | refine x_sub (by rfl) (by rfl) (by rfl) (by omega) ?_ | refine x_not (by rfl) (by rfl) ?_)
    refine x_nilw ?_
    have own10 : Own w10 51 14 (.slice (some ⟨bs, 0, none⟩) 8 8) 8 (fl Gop.cells (script8 next to)) := Own.of (rest := []) rfl (by rw [List.append_nil]; exact h10) (by omega) (by simp [maxLen]) rfl
    have rd10 := own10.rd
    have p10 := p9.at u10
    have hpl : ∀ b, pfoot pb bg r bp sp bm sl b → b < w9.heap.size := fun b hb => p9.lt hb
    have s10 := u10.size
    have u410 := (u47.trans u79).trans u10
    refine swp_fit [(21, .pointer (some ⟨pb, 0, none⟩)), (22, .slice (some ⟨bs, 0, none⟩) 8 8)] ⟨rfl, rfl, trivial⟩ fun ρ => ?_
    (repeat (first | refine swp_seq ?_ | refine swp_block ?_)); refine swp_region (by kernel_rfl) ?_
    repeat (first | refine x_move (by rfl) ?_ | refine x_as (by rfl) (by rfl) ?_ | refine x_skip (by rfl) ?_ | refine x_fld (by rfl) (by rfl) FldO.h ?_ | refine x_nilck (by rfl) (by rfl) ?_ | refine x_len (by rfl) (by rfl) ElOf.some ?_ | refine x_ext (by rfl) (by rfl) (by rfl) ?_ | refine x_pickT (by rfl) (by rfl) (by rfl) ?_ | refine x_pickF (by rfl) (by rfl) (by rfl) ?_ | refine x_add (by rfl) (by rfl) (by rfl) (by omega) ?_ | refine x_sub (by rfl) (by rfl) (by rfl) (by omega) ?_ | refine x_not (by rfl) (by rfl) ?_)
    refine x_nilw ?_
    (repeat (first | refine swp_seq ?_ | refine swp_block ?_))
    refine swp_loop (fun (i : Nat) σ w' => ∃ bg r bp sp bm sl g N, At σ [(21, .pointer (some ⟨pb, 0, none⟩)), (22, .slice (some ⟨bs, 0, none⟩) 8 8), (23, .int .i64 (i : Nat))] ∧ i ≤ 8 ∧ PaL w' pb bg r bp sp bm sl g N ∧ N ≤ 4096 * (i + 1) ∧ (∀ b, pfoot pb bg r bp sp bm sl b → w4.heap.size ≤ b ∧ b ≠ bs) ∧ Rd w' 14 (.slice (some ⟨bs, 0, none⟩) 8 8) 8 (fl Gop.cells (script8 next to)) ∧ Ext w4 w') (fun i => 8 - i) 0 ⟨bg, r, bp, sp, bm, sl, _, N, at_ ⟨rfl, rfl, rfl, trivial⟩, by omega, p10, by omega, fun b hb => ⟨?_, by have := hpl b hb; omega⟩, rd10, u410⟩ ?_
    · rcases hb with rfl | hb | hb
      · omega
      · have := hf5 b hb; omega
      · have := hfm b hb; omega
    clear p10 p9 g7 m7 g5 m6
    rintro i σ w' ⟨bg, r, bp, sp, bm, sl, g, N, ⟨ρ, rfl⟩, hi, p', hN', hpf, rd', u'⟩
    have s' := u'.size
    (repeat (first | refine swp_seq ?_ | refine swp_block ?_)); refine swp_region (by kernel_rfl) ?_
    repeat (first | refine x_move (by rfl) ?_ | refine x_as (by rfl) (by rfl) ?_ | refine x_skip (by rfl) ?_ | refine x_fld (by rfl) (by rfl) FldO.h ?_ | refine w_load (by rfl) (by rfl) (load_one OneT.h (by assumption) (by rfl)) ?_ | refine x_nilck (by rfl) (by rfl) ?_ | refine x_len (by rfl) (by rfl) ElOf.some ?_ | refine x_iface (by rfl) (by rfl) NIf.h ?_ | refine x_ext (by rfl) (by rfl) (by rfl) ?_ | refine x_pickT (by rfl) (by rfl) (by rfl) ?_ | refine x_pickF (by rfl) (by rfl) (by rfl) ?_ | refine x_add (by rfl) (by rfl) (by rfl) (by omega) ?_ | refine x_sub (by rfl) (by rfl) (by rfl) (by omega) ?_ | refine x_lss (by rfl) (by rfl) (by rfl) ?_ | refine x_geq (by rfl) (by rfl) (by rfl) ?_ | refine x_leq (by rfl) (by rfl) (by rfl) ?_ | refine x_gtr (by rfl) (by rfl) (by rfl) ?_ | refine x_eql (by rfl) (by rfl) (by rfl) ?_ | refine x_neq (by rfl) (by rfl) (by rfl) ?_ | refine x_not (by rfl) (by rfl) ?_)
    refine x_nilw ?_
    (repeat (first | refine swp_seq ?_ | refine swp_block ?_))
    refine swp_if (by rfl) (fun hc => swp_skip ?_) (fun hc => ?_)
    · have hi' : i < 8 := by omega
      obtain ⟨o, ho⟩ := nthE (L := script8 next to) (i := i) hi'
      (repeat (first | with_reducible refine n_then ?_ | with_reducible refine n_block ?_ | with_reducible refine n_jump ?_))
      (repeat (first | refine swp_seq ?_ | refine swp_block ?_)); refine swp_region (by kernel_rfl) ?_
      repeat (first | refine x_move (by rfl) ?_ | refine x_as (by rfl) (by rfl) ?_ | refine x_skip (by rfl) ?_ | refine x_fld (by rfl) (by rfl) FldO.h ?_ | refine x_nilck (by rfl) (by rfl) ?_ | refine x_len (by rfl) (by rfl) ElOf.some ?_ | refine x_ext (by rfl) (by rfl) (by rfl) ?_ | refine x_pickT (by rfl) (by rfl) (by rfl) ?_ | refine x_pickF (by rfl) (by rfl) (by rfl) ?_ | refine x_add (by rfl) (by rfl) (by rfl) (by omega) ?_ | refine x_sub (by rfl) (by rfl) (by rfl) (by omega) ?_ | refine x_not (by rfl) (by rfl) ?_)
      refine x_idx i (by rfl) (by rfl) (by rfl) ElSz.h rfl hi' ?_
      refine w_load (by rfl) (by rfl) (rd_load gop_len AggT.h rd' ho rfl rfl) ?_
      refine w_call (by rfl) (by rfl) (by rfl) (plays o (4096 * (i + 1)) p' hN' (by omega)) ?_
      rintro _ w11 ⟨rfl, bg', r', bp', sp', bm', sl', g', N', p11, hN11, u11, hf11⟩
      repeat (first | refine x_move (by rfl) ?_ | refine x_as (by rfl) (by rfl) ?_ | refine x_skip (by rfl) ?_ | refine x_fld (by rfl) (by rfl) FldO.h ?_ | refine x_nilck (by rfl) (by rfl) ?_ | refine x_len (by rfl) (by rfl) ElOf.some ?_ | refine x_ext (by rfl) (by rfl) (by rfl) ?_ | refine x_pickT (by rfl) (by rfl) (by rfl) ?_ | refine x_pickF (by rfl) (by rfl) (by rfl) ?_ | refine x_add (by rfl) (by rfl) (by rfl) (by omega) ?_ | refine x_sub (by rfl) (by rfl) (by rfl) (by omega) ?_ | refine x_not (by rfl) (by rfl) ?_)
      refine x_nilw ?_
      (repeat (first | refine swp_seq ?_ | refine swp_block ?_)); refine swp_region (by kernel_rfl) ?_
      repeat (first | refine x_move (by rfl) ?_ | refine x_as (by rfl) (by rfl) ?_ | refine x_skip (by rfl) ?_ | refine x_fld (by rfl) (by rfl) FldO.h ?_ | refine x_nilck (by rfl) (by rfl) ?_ | refine x_len (by rfl) (by rfl) ElOf.some ?_ | refine x_ext (by rfl) (by rfl) (by rfl) ?_ | refine x_pickT (by rfl) (by rfl) (by rfl) ?_ | refine x_pickF (by rfl) (by rfl) (by rfl) ?_ | refine x_add (by rfl) (by rfl) (by rfl) (by omega) ?_ | refine x_sub (by rfl) (by rfl) (by rfl) (by omega) ?_ | refine x_not (by rfl) (by rfl) ?_)
      refine x_nilw ?_
      (repeat (first | refine swp_seq ?_ | refine swp_block ?_))
      refine swp_false (by rfl) (swp_skip ?_)
      (repeat (first | with_reducible refine n_then ?_ | with_reducible refine n_block ?_ | with_reducible refine n_jump ?_))
      (repeat (first | refine swp_seq ?_ | refine swp_block ?_)); refine swp_region (by kernel_rfl) ?_
      repeat (first | refine x_move (by rfl) ?_ | refine x_as (by rfl) (by rfl) ?_ | refine x_skip (by rfl) ?_ | refine x_fld (by rfl) (by rfl) FldO.h ?_ | refine x_nilck (by rfl) (by rfl) ?_ | refine x_len (by rfl) (by rfl) ElOf.some ?_ | refine x_ext (by rfl) (by rfl) (by rfl) ?_ | refine x_pickT (by rfl) (by rfl) (by rfl) ?_ | refine x_pickF (by rfl) (by rfl) (by rfl) ?_ | refine x_add (by rfl) (by rfl) (by rfl) (by omega) ?_ | refine x_sub (by rfl) (by rfl) (by rfl) (by omega) ?_ | refine x_not (by rfl) (by rfl) ?_)
      refine x_nilw ?_
      have hbs := own10.lt (b := bs) rfl
      have hbs' : bs < w'.heap.size := by
        obtain ⟨b9, o9, d9, he9, hlt9, -⟩ := rd'.pos (by omega)
        simp only [Value.slice.injEq, Option.some.injEq, Addr.mk.injEq] at he9
        obtain ⟨⟨rfl, _⟩, _⟩ := he9
        exact hlt9
      refine ⟨i + 1, ⟨bg', r', bp', sp', bm', sl', g', N', at_ ⟨rfl, rfl, rfl, trivial⟩, by omega, p11, by omega, fun b hb => ?_, rd'.get u11 fun b hb hf => (hpf b hf).2 hb, u'.trans' u11 fun b hb hf => by have := (hpf b hf).1; omega⟩, by omega⟩
      rcases hf11 b hb with hb2 | hb2
      · exact hpf b hb2
      · exact ⟨by omega, by omega⟩
    · refine swp_exit ?_; (repeat (first | with_reducible refine e_then ?_ | with_reducible refine e_jump ?_)); refine e_block ?_; (repeat (first | with_reducible refine n_then ?_ | with_reducible refine n_block ?_ | with_reducible refine n_jump ?_))
      (repeat (first | refine swp_seq ?_ | refine swp_block ?_)); refine swp_region (by kernel_rfl) ?_
      repeat (first | refine x_move (by rfl) ?_ | refine x_as (by rfl) (by rfl) ?_ | refine x_skip (by rfl) ?_ | refine x_fld (by rfl) (by rfl) FldO.h ?_ | refine x_nilck (by rfl) (by rfl) ?_ | refine x_len (by rfl) (by rfl) ElOf.some ?_ | refine x_ext (by rfl) (by rfl) (by rfl) ?_ | refine x_pickT (by rfl) (by rfl) (by rfl) ?_ | refine x_pickF (by rfl) (by rfl) (by rfl) ?_ | refine x_add (by rfl) (by rfl) (by rfl) (by omega) ?_ | refine x_sub (by rfl) (by rfl) (by rfl) (by omega) ?_ | refine x_not (by rfl) (by rfl) ?_)
      refine x_nilw ?_
      refine swp_ret ?_; (repeat (first | with_reducible refine r_then ?_ | with_reducible refine r_block ?_ | with_reducible refine r_jump ?_))
      exact post1 rfl rfl ⟨_, rfl, rfl, u04.trans u'⟩
end Go.Proofs.Ytnhecopgecoloaa
