/- GateSpares' walk: it answers true. Conditions: what is read; how much it weighs. -/
import Derived.Test.YtnhecopgecoloaaKr
namespace Go.Proofs.Ytnhecopgecoloaa
open Hp Sx
section
variable {dr : Bool} {P : Program} {ops : Array Oper} {W : List Nat} {Q : Fr → World → Prop} {k : Nat} {rest : List Oper} {σ : Fr} {C : World → Prop} {d : Nat} {ty : TypeId} {pos : String} {after : Array Edge} {guard : Option (Nat × Bool)}
theorem x_neqO {t t' e : TypeId} {ad : Option Addr} {x y : Operand} (hu : P.underlying t = some (.pointer e)) (hw : wantS ops σ ⟨some d, .binOp .neq t x y t', ty, pos, after, guard⟩ = true) (hx : ev σ x = .pointer ad) (hy : ev σ y = .pointer none)
    (h : xw dr P ops W Q (k + 1) rest (upd σ d (.bool ad.isSome)) C) : xw dr P ops W Q k (⟨some d, .binOp .neq t x y t', ty, pos, after, guard⟩ :: rest) σ C :=
  x_p hw rfl (fun w => by
    have e3 : eqGuard .neq t x y (.pointer ad) (.pointer none) = pure () := rfl
    have hp : P.underlying t = some (.pointer (P.pointee t)) := by simp [Program.pointee, hu]
    have e4 : (binOp .neq t (.pointer ad) (.pointer none)).run P w = .ok (.bool ad.isSome) w := by
      have := run_eql_pointer_nil w t ad hp
      simp only [binOp] at this ⊢
      simp only [Sem.run_bind, Sem.run_pure, Result.andThen] at this ⊢
      generalize Sem.run P (Op.equal t (.pointer ad) (.pointer none)) w = r at this ⊢
      cases r with
      | ok v w2 =>
        simp only [Result.ok.injEq, Value.bool.injEq] at this ⊢
        obtain ⟨rfl, rfl⟩ := this
        cases ad <;> exact ⟨rfl, rfl⟩
      | halt h w2 => cases this
    simp only [execOp, hx, hy, e3, e4, Sem.run_bind, Sem.run_pure, Result.andThen_ok]) h
end
def minE : Ev := mk minT 5
def ev99 : Ev := mk 0 99

set_option maxHeartbeats 4000000 in
set_option maxRecDepth 100000 in
theorem walk8 {w : World} {ov hv : Value} {ops : List Gop} {held : List Ev} (h1 : Rd w 14 ov ops.length (fl Gop.cells ops)) (h2 : Rd w 11 hv held.length (fl Ev.cells held)) (hl1 : ops.length * 112 ≤ 140737488351232) (hl2 : held.length * 88 ≤ 140737488351232) :
    Gets Try.prog 8 [ov, hv] w fun v w' => v = .bool true ∧ Ext w w' := by
  obtain ⟨a0, c0, rfl⟩ := h1.slice
  obtain ⟨a1, c1, rfl⟩ := h2.slice
  have hr2 : Room held.length 88 := ⟨by omega, by omega⟩
  refine ⟨GoFn.h, calls_of_swp 181 Try.func8 Try.ntmps8 rfl (Nat.le_of_ble_eq_true rfl) ?_⟩
  (repeat (first | refine swp_seq ?_ | refine swp_block ?_)); refine swp_region (by kernel_rfl) ?_
  repeat (first | refine x_move (by rfl) ?_ | refine x_as (by rfl) (by rfl) ?_ | refine x_skip (by rfl) ?_ | refine x_fld (by rfl) (by rfl) FldO.h ?_ | refine x_nilck (by rfl) (by rfl) ?_ | refine x_len (by rfl) (by rfl) ElOf.some ?_ | refine x_ext (by rfl) (by rfl) (by rfl) ?_ | refine x_pickT (by rfl) (by rfl) (by rfl) ?_ | refine x_pickF (by rfl) (by rfl) (by rfl) ?_ | refine x_add (by rfl) (by rfl) (by rfl) (by omega) ?_ | refine x_sub (by rfl) (by rfl) (by rfl) (by omega) ?_ | refine x_not (by rfl) (by rfl) ?_)
  refine x_nilw ?_
  (repeat (first | refine swp_seq ?_ | refine swp_block ?_)); refine swp_region (by kernel_rfl) ?_
  refine w_call (by rfl) (by rfl) (by rfl) (g_new 64 w) ?_
  rintro _ w1 (⟨hc, -⟩ | ⟨-, bg, r, bp, sp, rfl, g1, n1, u1⟩)
  · exact absurd ⟨by omega, by omega⟩ hc
  repeat (first | refine x_move (by rfl) ?_ | refine x_as (by rfl) (by rfl) ?_ | refine x_skip (by rfl) ?_ | refine x_fld (by rfl) (by rfl) FldO.h ?_ | refine x_nilck (by rfl) (by rfl) ?_ | refine x_len (by rfl) (by rfl) ElOf.some ?_ | refine x_ext (by rfl) (by rfl) (by rfl) ?_ | refine x_pickT (by rfl) (by rfl) (by rfl) ?_ | refine x_pickF (by rfl) (by rfl) (by rfl) ?_ | refine x_add (by rfl) (by rfl) (by rfl) (by omega) ?_ | refine x_sub (by rfl) (by rfl) (by rfl) (by omega) ?_ | refine x_not (by rfl) (by rfl) ?_)
  refine x_nilw ?_
  (repeat (first | refine swp_seq ?_ | refine swp_block ?_)); refine swp_region (by kernel_rfl) ?_
  refine w_call (by rfl) (by rfl) (by rfl) (g_new 64 w1) ?_
  rintro _ w2 (⟨hc, -⟩ | ⟨-, bh, rh, bq, sq, rfl, g2, n2, u2⟩)
  · exact absurd ⟨by omega, by omega⟩ hc
  repeat (first | refine x_move (by rfl) ?_ | refine x_as (by rfl) (by rfl) ?_ | refine x_skip (by rfl) ?_ | refine x_fld (by rfl) (by rfl) FldO.h ?_ | refine x_nilck (by rfl) (by rfl) ?_ | refine x_len (by rfl) (by rfl) ElOf.some ?_ | refine x_ext (by rfl) (by rfl) (by rfl) ?_ | refine x_pickT (by rfl) (by rfl) (by rfl) ?_ | refine x_pickF (by rfl) (by rfl) (by rfl) ?_ | refine x_add (by rfl) (by rfl) (by rfl) (by omega) ?_ | refine x_sub (by rfl) (by rfl) (by rfl) (by omega) ?_ | refine x_not (by rfl) (by rfl) ?_)
  refine x_nilw ?_
  have R1 : Rg w w1 [aGt bg r bp sp (fresh 64) 0] := (Rg.nil (Upd.refl _ w)).new u1 g1 n1
  have R2 : Rg w w2 [aGt bh rh bq sq (fresh 64) 0, aGt bg r bp sp (fresh 64) 0] := R1.new u2 g2 n2
  clear g1 n1 g2 n2 R1
  have ok0 : (fresh 64).Ok := fresh_ok (by omega) (by omega)
  refine swp_fit [(0, .slice a0 ops.length c0), (1, .slice a1 held.length c1), (5, .pointer (some ⟨bg, 0, none⟩)), (6, .int .i64 0), (7, .pointer (some ⟨bh, 0, none⟩)), (8, .int .i64 0)] ⟨rfl, rfl, rfl, rfl, rfl, rfl, trivial⟩ fun ρ => ?_
  (repeat (first | refine swp_seq ?_ | refine swp_block ?_)); refine swp_region (by kernel_rfl) ?_
  repeat (first | refine x_move (by rfl) ?_ | refine x_as (by rfl) (by rfl) ?_ | refine x_skip (by rfl) ?_ | refine x_fld (by rfl) (by rfl) FldO.h ?_ | refine x_nilck (by rfl) (by rfl) ?_ | refine x_len (by rfl) (by rfl) ElOf.some ?_ | refine x_ext (by rfl) (by rfl) (by rfl) ?_ | refine x_pickT (by rfl) (by rfl) (by rfl) ?_ | refine x_pickF (by rfl) (by rfl) (by rfl) ?_ | refine x_add (by rfl) (by rfl) (by rfl) (by omega) ?_ | refine x_sub (by rfl) (by rfl) (by rfl) (by omega) ?_ | refine x_not (by rfl) (by rfl) ?_)
  refine x_build (v := minE.v) (by rfl) (by rfl) (fun _ => by kernel_rfl) ?_
  refine w_alloc (by rfl) (by rfl) ZeroT.h ?_; intro b9 w3 e3 u3 h3
  refine w_store (xs := minE.cells) (by rfl) (by rfl) (by rfl) (by rfl) SzT.h (by rfl) (by rfl) h3 (by simp) ?_
  intro w4 u4 h4 _
  refine x_nilw ?_
  replace h4 : Blk w4 b9 30 minE.cells := h4
  have u24 : Ext w2 w4 := u3.trans' u4 fun b hb e => by have e' : b = b9 := e; omega
  have R4 := R2.ext u24
  have z24 := u24.size
  (repeat (first | refine swp_seq ?_ | refine swp_block ?_)); refine swp_region (by kernel_rfl) ?_
  repeat (first | refine x_move (by rfl) ?_ | refine x_as (by rfl) (by rfl) ?_ | refine x_skip (by rfl) ?_ | refine x_fld (by rfl) (by rfl) FldO.h ?_ | refine x_nilck (by rfl) (by rfl) ?_ | refine x_len (by rfl) (by rfl) ElOf.some ?_ | refine x_ext (by rfl) (by rfl) (by rfl) ?_ | refine x_pickT (by rfl) (by rfl) (by rfl) ?_ | refine x_pickF (by rfl) (by rfl) (by rfl) ?_ | refine x_add (by rfl) (by rfl) (by rfl) (by omega) ?_ | refine x_sub (by rfl) (by rfl) (by rfl) (by omega) ?_ | refine x_not (by rfl) (by rfl) ?_)
  refine x_neqF (by rfl) (by rfl) (by rfl) (fun h => h rfl) ?_
  repeat (first | refine x_move (by rfl) ?_ | refine x_as (by rfl) (by rfl) ?_ | refine x_skip (by rfl) ?_ | refine x_fld (by rfl) (by rfl) FldO.h ?_ | refine x_nilck (by rfl) (by rfl) ?_ | refine x_len (by rfl) (by rfl) ElOf.some ?_ | refine x_ext (by rfl) (by rfl) (by rfl) ?_ | refine x_pickT (by rfl) (by rfl) (by rfl) ?_ | refine x_pickF (by rfl) (by rfl) (by rfl) ?_ | refine x_add (by rfl) (by rfl) (by rfl) (by omega) ?_ | refine x_sub (by rfl) (by rfl) (by rfl) (by omega) ?_ | refine x_not (by rfl) (by rfl) ?_)
  refine x_neqF (by rfl) (by rfl) (by rfl) (fun h => h rfl) ?_
  repeat (first | refine x_move (by rfl) ?_ | refine x_as (by rfl) (by rfl) ?_ | refine x_skip (by rfl) ?_ | refine x_fld (by rfl) (by rfl) FldO.h ?_ | refine x_nilck (by rfl) (by rfl) ?_ | refine x_len (by rfl) (by rfl) ElOf.some ?_ | refine x_ext (by rfl) (by rfl) (by rfl) ?_ | refine x_pickT (by rfl) (by rfl) (by rfl) ?_ | refine x_pickF (by rfl) (by rfl) (by rfl) ?_ | refine x_add (by rfl) (by rfl) (by rfl) (by omega) ?_ | refine x_sub (by rfl) (by rfl) (by rfl) (by omega) ?_ | refine x_not (by rfl) (by rfl) ?_)
  refine x_eqlP Try.underlying22 (by rfl) (by rfl) (by rfl) ?_
  repeat (first | refine x_move (by rfl) ?_ | refine x_as (by rfl) (by rfl) ?_ | refine x_skip (by rfl) ?_ | refine x_fld (by rfl) (by rfl) FldO.h ?_ | refine x_nilck (by rfl) (by rfl) ?_ | refine x_len (by rfl) (by rfl) ElOf.some ?_ | refine x_ext (by rfl) (by rfl) (by rfl) ?_ | refine x_pickT (by rfl) (by rfl) (by rfl) ?_ | refine x_pickF (by rfl) (by rfl) (by rfl) ?_ | refine x_add (by rfl) (by rfl) (by rfl) (by omega) ?_ | refine x_sub (by rfl) (by rfl) (by rfl) (by omega) ?_ | refine x_not (by rfl) (by rfl) ?_)
  refine x_eqlP Try.underlying22 (by rfl) (by rfl) (by rfl) ?_
  repeat (first | refine x_move (by rfl) ?_ | refine x_as (by rfl) (by rfl) ?_ | refine x_skip (by rfl) ?_ | refine x_fld (by rfl) (by rfl) FldO.h ?_ | refine x_nilck (by rfl) (by rfl) ?_ | refine x_len (by rfl) (by rfl) ElOf.some ?_ | refine x_ext (by rfl) (by rfl) (by rfl) ?_ | refine x_pickT (by rfl) (by rfl) (by rfl) ?_ | refine x_pickF (by rfl) (by rfl) (by rfl) ?_ | refine x_add (by rfl) (by rfl) (by rfl) (by omega) ?_ | refine x_sub (by rfl) (by rfl) (by rfl) (by omega) ?_ | refine x_not (by rfl) (by rfl) ?_)
  refine w_load (by rfl) (by rfl) (load_agg (xs := minE.cells) AggT.h h4 (by rfl) (by rfl)) ?_
  refine w_call (by rfl) (by rfl) (by rfl) (g_push minE (R4.nth (i := 1) rfl) ok0 (by omega)) ?_
  rintro _ w5 ⟨rfl, sp5, N5, g5, hN5, u5, hin5⟩
  have e5 : Ext w2 w2 := Upd.refl _ _
  have R5 : Rg w w5 [aGt bh rh bq sq (fresh 64) 0, aGt bg r bp sp5 ((fresh 64).push minE) N5] := R4.upd (i := 1) (a' := aGt bg r bp sp5 ((fresh 64).push minE) N5) rfl u5 (fun b _ e => e) g5 hin5
  have h5 : Blk w5 b9 30 minE.cells := h4.get u5 fun hb => by
    have : b9 < w2.heap.size := (show Gt w2 bg r bp sp (fresh 64) 0 from R2.nth (i := 1) rfl).lt hb
    omega
  rw [show (fresh 64).pcode minE = 0 from first_code]
  refine x_neqF (by rfl) (by rfl) (by rfl) (fun h => h rfl) ?_
  repeat (first | refine x_move (by rfl) ?_ | refine x_as (by rfl) (by rfl) ?_ | refine x_skip (by rfl) ?_ | refine x_fld (by rfl) (by rfl) FldO.h ?_ | refine x_nilck (by rfl) (by rfl) ?_ | refine x_len (by rfl) (by rfl) ElOf.some ?_ | refine x_ext (by rfl) (by rfl) (by rfl) ?_ | refine x_pickT (by rfl) (by rfl) (by rfl) ?_ | refine x_pickF (by rfl) (by rfl) (by rfl) ?_ | refine x_add (by rfl) (by rfl) (by rfl) (by omega) ?_ | refine x_sub (by rfl) (by rfl) (by rfl) (by omega) ?_ | refine x_not (by rfl) (by rfl) ?_)
  refine w_load (by rfl) (by rfl) (load_agg (xs := minE.cells) AggT.h h5 (by rfl) (by rfl)) ?_
  refine w_call (by rfl) (by rfl) (by rfl) (g_push minE (R5.nth (i := 0) rfl) ok0 (by omega)) ?_
  rintro _ w6 ⟨rfl, sq6, M6, g6, hM6, u6, hin6⟩
  have R6 : Rg w w6 [aGt bh rh bq sq6 ((fresh 64).push minE) M6, aGt bg r bp sp5 ((fresh 64).push minE) N5] := R5.upd (i := 0) (a' := aGt bh rh bq sq6 ((fresh 64).push minE) M6) rfl u6 (fun b _ e => e) g6 hin6
  rw [show (fresh 64).pcode minE = 0 from first_code]
  refine x_neqF (by rfl) (by rfl) (by rfl) (fun h => h rfl) ?_
  repeat (first | refine x_move (by rfl) ?_ | refine x_as (by rfl) (by rfl) ?_ | refine x_skip (by rfl) ?_ | refine x_fld (by rfl) (by rfl) FldO.h ?_ | refine x_nilck (by rfl) (by rfl) ?_ | refine x_len (by rfl) (by rfl) ElOf.some ?_ | refine x_ext (by rfl) (by rfl) (by rfl) ?_ | refine x_pickT (by rfl) (by rfl) (by rfl) ?_ | refine x_pickF (by rfl) (by rfl) (by rfl) ?_ | refine x_add (by rfl) (by rfl) (by rfl) (by omega) ?_ | refine x_sub (by rfl) (by rfl) (by rfl) (by omega) ?_ | refine x_not (by rfl) (by rfl) ?_)
  refine x_nilw ?_
  obtain ⟨G, hG⟩ : ∃ G, G = (fresh 64).push minE := ⟨_, rfl⟩
  rw [← hG] at R6
  have okG : G.Ok := by rw [hG]; exact GS.push_ok ok0 _
  clear R2 R4 R5 g5 g6 hin5 hin6 u5 u6 h5 h4 hG u24 u3 u4 h3 e5
  (repeat (first | refine swp_seq ?_ | refine swp_block ?_))
  refine swp_false (by rfl) (swp_skip ?_)
  (repeat (first | with_reducible refine n_then ?_ | with_reducible refine n_block ?_ | with_reducible refine n_jump ?_))
  refine swp_fit [(0, .slice a0 ops.length c0), (1, .slice a1 held.length c1), (5, .pointer (some ⟨bg, 0, none⟩)), (7, .pointer (some ⟨bh, 0, none⟩))] ⟨rfl, rfl, rfl, rfl, trivial⟩ fun ρ => ?_
  (repeat (first | refine swp_seq ?_ | refine swp_block ?_)); refine swp_region (by kernel_rfl) ?_
  refine w_bslice0 (e := 30) (by rfl) (by rfl) Try.underlying32 (by kernel_rfl) ?_
  intro b7 w7 e7 u7 h7
  repeat (first | refine x_move (by rfl) ?_ | refine x_as (by rfl) (by rfl) ?_ | refine x_skip (by rfl) ?_ | refine x_fld (by rfl) (by rfl) FldO.h ?_ | refine x_nilck (by rfl) (by rfl) ?_ | refine x_len (by rfl) (by rfl) ElOf.some ?_ | refine x_ext (by rfl) (by rfl) (by rfl) ?_ | refine x_pickT (by rfl) (by rfl) (by rfl) ?_ | refine x_pickF (by rfl) (by rfl) (by rfl) ?_ | refine x_add (by rfl) (by rfl) (by rfl) (by omega) ?_ | refine x_sub (by rfl) (by rfl) (by rfl) (by omega) ?_ | refine x_not (by rfl) (by rfl) ?_)
  have own7 : Own w7 30 11 (.slice (some ⟨b7, 0, none⟩) 0 0) 0 [] := Own.of (rest := []) rfl h7 (by omega) (by simp [maxLen]) rfl
  refine w_appendR (by rfl) (by rfl) (by rfl) (by rfl) SlC.h own7 (h2.at (R6.u.trans u7)) (PEv.fl_one' ev_one held) (hr2.le (by omega)) ?_
  intro gv w8 own8 u8 hin8
  repeat (first | refine x_move (by rfl) ?_ | refine x_as (by rfl) (by rfl) ?_ | refine x_skip (by rfl) ?_ | refine x_fld (by rfl) (by rfl) FldO.h ?_ | refine x_nilck (by rfl) (by rfl) ?_ | refine x_len (by rfl) (by rfl) ElOf.some ?_ | refine x_ext (by rfl) (by rfl) (by rfl) ?_ | refine x_pickT (by rfl) (by rfl) (by rfl) ?_ | refine x_pickF (by rfl) (by rfl) (by rfl) ?_ | refine x_add (by rfl) (by rfl) (by rfl) (by omega) ?_ | refine x_sub (by rfl) (by rfl) (by rfl) (by omega) ?_ | refine x_not (by rfl) (by rfl) ?_)
  refine x_nilw ?_
  rw [Nat.zero_add, List.nil_append] at own8
  have hb7 : ∀ b, isIn (.slice (some ⟨b7, 0, none⟩) 0 0) b → b = b7 := fun b hb => hb
  have z7 := u7.size
  have u68 : Ext w6 w8 := u7.trans' u8 fun b hb hf => by have := hb7 b hf; omega
  have R8 : Rg w w8 [aEv gv held, aGt bh rh bq sq6 G M6, aGt bg r bp sp5 G N5] := R6.new (a := aEv gv held) u68 own8 fun b hb => (hin8 b hb).elim (fun h => by have := hb7 b h; omega) fun h => by omega
  clear own7 own8 u8 hin8 u68 R6 h7 u7
  (repeat (first | refine swp_seq ?_ | refine swp_block ?_)); refine swp_region (by kernel_rfl) ?_
  repeat (first | refine x_move (by rfl) ?_ | refine x_as (by rfl) (by rfl) ?_ | refine x_skip (by rfl) ?_ | refine x_fld (by rfl) (by rfl) FldO.h ?_ | refine x_nilck (by rfl) (by rfl) ?_ | refine x_len (by rfl) (by rfl) ElOf.some ?_ | refine x_ext (by rfl) (by rfl) (by rfl) ?_ | refine x_pickT (by rfl) (by rfl) (by rfl) ?_ | refine x_pickF (by rfl) (by rfl) (by rfl) ?_ | refine x_add (by rfl) (by rfl) (by rfl) (by omega) ?_ | refine x_sub (by rfl) (by rfl) (by rfl) (by omega) ?_ | refine x_not (by rfl) (by rfl) ?_)
  refine w_call (by rfl) (by rfl) (by rfl) (g_restore 4096 minT false (show Own w8 30 11 gv held.length (fl Ev.cells held) from R8.nth (i := 0) rfl).rd (by omega)) ?_
  rintro v9 w9 ⟨code, -, hres⟩
  obtain ⟨ro, code', hN9, hv9, R9⟩ : ∃ (ro : Option Og) (code' : Int), (∀ x, ro = some x → held.length ≤ 4096) ∧ v9 = .tuple #[Og.val ro, .int .i64 code'] ∧ Rg w w9 [aOg ⟨held, 4096, minT, false⟩ ro, aEv gv held, aGt bh rh bq sq6 G M6, aGt bg r bp sp5 G N5] := by
    rcases hres with ⟨h0, hv, u9⟩ | ⟨h0, br, rr, bpr, spr, Nr, hv, g9, ok9, hN9, n9, u9⟩
    · exact ⟨none, code, (fun x hx => by cases hx), hv, R8.new (a := aOg ⟨held, 4096, minT, false⟩ none) u9 trivial fun b hb => hb.elim⟩
    · exact ⟨some ⟨br, rr, bpr, spr, Nr⟩, 0, (fun x _ => ok9.len'), hv, R8.new (a := aOg ⟨held, 4096, minT, false⟩ (some ⟨br, rr, bpr, spr, Nr⟩)) u9 g9 n9⟩
  subst hv9
  clear hres R8
  repeat (first | refine x_move (by rfl) ?_ | refine x_as (by rfl) (by rfl) ?_ | refine x_skip (by rfl) ?_ | refine x_fld (by rfl) (by rfl) FldO.h ?_ | refine x_nilck (by rfl) (by rfl) ?_ | refine x_len (by rfl) (by rfl) ElOf.some ?_ | refine x_ext (by rfl) (by rfl) (by rfl) ?_ | refine x_pickT (by rfl) (by rfl) (by rfl) ?_ | refine x_pickF (by rfl) (by rfl) (by rfl) ?_ | refine x_add (by rfl) (by rfl) (by rfl) (by omega) ?_ | refine x_sub (by rfl) (by rfl) (by rfl) (by omega) ?_ | refine x_not (by rfl) (by rfl) ?_)
  refine x_nilw ?_
  refine swp_fit [(0, .slice a0 ops.length c0), (1, .slice a1 held.length c1), (5, .pointer (some ⟨bg, 0, none⟩)), (7, .pointer (some ⟨bh, 0, none⟩)), (10, gv), (11, Og.val ro)] ⟨rfl, rfl, rfl, rfl, rfl, rfl, trivial⟩ fun ρ => ?_
  (repeat (first | refine swp_seq ?_ | refine swp_block ?_)); refine swp_region (by kernel_rfl) ?_
  repeat (first | refine x_move (by rfl) ?_ | refine x_as (by rfl) (by rfl) ?_ | refine x_skip (by rfl) ?_ | refine x_fld (by rfl) (by rfl) FldO.h ?_ | refine x_nilck (by rfl) (by rfl) ?_ | refine x_len (by rfl) (by rfl) ElOf.some ?_ | refine x_ext (by rfl) (by rfl) (by rfl) ?_ | refine x_pickT (by rfl) (by rfl) (by rfl) ?_ | refine x_pickF (by rfl) (by rfl) (by rfl) ?_ | refine x_add (by rfl) (by rfl) (by rfl) (by omega) ?_ | refine x_sub (by rfl) (by rfl) (by rfl) (by omega) ?_ | refine x_not (by rfl) (by rfl) ?_)
  refine x_nilw ?_
  obtain ⟨ga, gc, hgv⟩ := (show Own w9 30 11 gv held.length (fl Ev.cells held) from R9.nth (i := 1) rfl).slice
  (repeat (first | refine swp_seq ?_ | refine swp_block ?_))
  refine swp_loop (fun (i : Nat) σ w' => ∃ C : List Ev, At σ [(0, .slice a0 ops.length c0), (1, .slice a1 held.length c1), (5, .pointer (some ⟨bg, 0, none⟩)), (7, .pointer (some ⟨bh, 0, none⟩)), (10, gv), (11, Og.val ro), (13, .int .i64 (i : Nat))] ∧ i ≤ held.length ∧ C.length = held.length ∧ Rg w w' [aOg ⟨held, 4096, minT, false⟩ ro, aEv gv C, aGt bh rh bq sq6 G M6, aGt bg r bp sp5 G N5]) (fun i => held.length - i) 0 ⟨held, at_ ⟨rfl, rfl, rfl, rfl, rfl, rfl, rfl, trivial⟩, by omega, rfl, R9⟩ ?_
  clear R9
  rintro i σ w10 ⟨C, ⟨ρ, rfl⟩, hi, hCl, R10⟩
  subst hgv
  (repeat (first | refine swp_seq ?_ | refine swp_block ?_)); refine swp_region (by kernel_rfl) ?_
  repeat (first | refine x_move (by rfl) ?_ | refine x_as (by rfl) (by rfl) ?_ | refine x_skip (by rfl) ?_ | refine x_fld (by rfl) (by rfl) FldO.h ?_ | refine w_load (by rfl) (by rfl) (load_one OneT.h (by assumption) (by rfl)) ?_ | refine x_nilck (by rfl) (by rfl) ?_ | refine x_len (by rfl) (by rfl) ElOf.some ?_ | refine x_iface (by rfl) (by rfl) NIf.h ?_ | refine x_ext (by rfl) (by rfl) (by rfl) ?_ | refine x_pickT (by rfl) (by rfl) (by rfl) ?_ | refine x_pickF (by rfl) (by rfl) (by rfl) ?_ | refine x_add (by rfl) (by rfl) (by rfl) (by omega) ?_ | refine x_sub (by rfl) (by rfl) (by rfl) (by omega) ?_ | refine x_lss (by rfl) (by rfl) (by rfl) ?_ | refine x_geq (by rfl) (by rfl) (by rfl) ?_ | refine x_leq (by rfl) (by rfl) (by rfl) ?_ | refine x_gtr (by rfl) (by rfl) (by rfl) ?_ | refine x_eql (by rfl) (by rfl) (by rfl) ?_ | refine x_neq (by rfl) (by rfl) (by rfl) ?_ | refine x_not (by rfl) (by rfl) ?_)
  refine x_nilw ?_
  (repeat (first | refine swp_seq ?_ | refine swp_block ?_))
  refine swp_if (by rfl) (fun hc => swp_skip ?_) (fun hc => ?_)
  · have hi' : i < held.length := by omega
    obtain ⟨g, cap, R, hVe, hb, hc1, hc2, hc3⟩ := (show Own w10 30 11 (.slice ga held.length gc) C.length (fl Ev.cells C) from R10.nth (i := 1) rfl).pos (by omega)
    have hfl : (fl Ev.cells C).length = held.length * 11 := by rw [fl_length ev_len, hCl]
    simp only [Value.slice.injEq] at hVe
    obtain ⟨rfl, hCl', rfl⟩ := hVe
    (repeat (first | with_reducible refine n_then ?_ | with_reducible refine n_block ?_ | with_reducible refine n_jump ?_))
    (repeat (first | refine swp_seq ?_ | refine swp_block ?_)); refine swp_region (by kernel_rfl) ?_
    repeat (first | refine x_move (by rfl) ?_ | refine x_as (by rfl) (by rfl) ?_ | refine x_skip (by rfl) ?_ | refine x_fld (by rfl) (by rfl) FldO.h ?_ | refine x_nilck (by rfl) (by rfl) ?_ | refine x_len (by rfl) (by rfl) ElOf.some ?_ | refine x_ext (by rfl) (by rfl) (by rfl) ?_ | refine x_pickT (by rfl) (by rfl) (by rfl) ?_ | refine x_pickF (by rfl) (by rfl) (by rfl) ?_ | refine x_add (by rfl) (by rfl) (by rfl) (by omega) ?_ | refine x_sub (by rfl) (by rfl) (by rfl) (by omega) ?_ | refine x_not (by rfl) (by rfl) ?_)
    refine x_build (v := ev99.v) (by rfl) (by rfl) (fun _ => by kernel_rfl) ?_
    refine x_idx i (by rfl) (by rfl) (by rfl) ElSz.h rfl hi' ?_
    refine w_store (xs := ev99.cells) (by rfl) (by rfl) (by rfl) (by rfl) SzT.h (by rfl) (by rfl) hb (by rw [List.length_append, hfl]; omega) ?_
    intro w11 u11 hb11 _
    refine x_nilw ?_
    (repeat (first | with_reducible refine n_then ?_ | with_reducible refine n_block ?_ | with_reducible refine n_jump ?_))
    (repeat (first | refine swp_seq ?_ | refine swp_block ?_)); refine swp_region (by kernel_rfl) ?_
    repeat (first | refine x_move (by rfl) ?_ | refine x_as (by rfl) (by rfl) ?_ | refine x_skip (by rfl) ?_ | refine x_fld (by rfl) (by rfl) FldO.h ?_ | refine w_load (by rfl) (by rfl) (load_one OneT.h (by assumption) (by rfl)) ?_ | refine x_nilck (by rfl) (by rfl) ?_ | refine x_len (by rfl) (by rfl) ElOf.some ?_ | refine x_iface (by rfl) (by rfl) NIf.h ?_ | refine x_ext (by rfl) (by rfl) (by rfl) ?_ | refine x_pickT (by rfl) (by rfl) (by rfl) ?_ | refine x_pickF (by rfl) (by rfl) (by rfl) ?_ | refine x_add (by rfl) (by rfl) (by rfl) (by omega) ?_ | refine x_sub (by rfl) (by rfl) (by rfl) (by omega) ?_ | refine x_lss (by rfl) (by rfl) (by rfl) ?_ | refine x_geq (by rfl) (by rfl) (by rfl) ?_ | refine x_leq (by rfl) (by rfl) (by rfl) ?_ | refine x_gtr (by rfl) (by rfl) (by rfl) ?_ | refine x_eql (by rfl) (by rfl) (by rfl) ?_ | refine x_neq (by rfl) (by rfl) (by rfl) ?_ | refine x_not (by rfl) (by rfl) ?_)
    refine x_nilw ?_
    have own11 := own_put (i := i) (x := ev99) ev_len hb11 (by omega) (by omega) hc1 hc2 hc3
    have own11' : (aEv (.slice (some ⟨g, 0, none⟩) held.length gc) (C.set i ev99)).P w11 := by
      show Own w11 30 11 (.slice (some ⟨g, 0, none⟩) held.length gc) (C.set i ev99).length (fl Ev.cells (C.set i ev99))
      rw [List.length_set, hCl', hCl]
      rw [hCl] at own11
      exact own11
    exact ⟨i + 1, ⟨C.set i ev99, at_ ⟨rfl, rfl, rfl, rfl, rfl, rfl, rfl, trivial⟩, hi', by rw [List.length_set]; exact hCl, R10.upd (i := 1) (a' := aEv (.slice (some ⟨g, 0, none⟩) held.length gc) (C.set i ev99)) rfl u11 (fun b _ e => e) own11' fun b hb => .inl hb⟩, by omega⟩
  refine swp_exit ?_; (repeat (first | with_reducible refine e_then ?_ | with_reducible refine e_jump ?_)); refine e_block ?_; (repeat (first | with_reducible refine n_then ?_ | with_reducible refine n_block ?_ | with_reducible refine n_jump ?_))
  refine swp_fit [(0, .slice a0 ops.length c0), (1, .slice a1 held.length c1), (5, .pointer (some ⟨bg, 0, none⟩)), (7, .pointer (some ⟨bh, 0, none⟩)), (11, Og.val ro)] ⟨rfl, rfl, rfl, rfl, rfl, trivial⟩ fun ρ => ?_
  refine swp_seq ?_
  refine swp_seq ?_
  refine PEv.swp_cutQ (fun σ w' => At σ [(0, .slice a0 ops.length c0), (5, .pointer (some ⟨bg, 0, none⟩)), (7, .pointer (some ⟨bh, 0, none⟩)), (85, .bool false)] ∧ Rg w w' [aGt bh rh bq sq6 G M6, aGt bg r bp sp5 G N5]) ?_ ?_
  · cases ro with
    | none =>
      (repeat (first | refine swp_seq ?_ | refine swp_block ?_)); refine swp_region (by kernel_rfl) ?_
      repeat (first | refine x_move (by rfl) ?_ | refine x_as (by rfl) (by rfl) ?_ | refine x_skip (by rfl) ?_ | refine x_fld (by rfl) (by rfl) FldO.h ?_ | refine x_nilck (by rfl) (by rfl) ?_ | refine x_len (by rfl) (by rfl) ElOf.some ?_ | refine x_ext (by rfl) (by rfl) (by rfl) ?_ | refine x_pickT (by rfl) (by rfl) (by rfl) ?_ | refine x_pickF (by rfl) (by rfl) (by rfl) ?_ | refine x_add (by rfl) (by rfl) (by rfl) (by omega) ?_ | refine x_sub (by rfl) (by rfl) (by rfl) (by omega) ?_ | refine x_not (by rfl) (by rfl) ?_)
      refine x_neqO (ad := none) Try.underlying22 (by rfl) (by rfl) (by rfl) ?_
      repeat (first | refine x_move (by rfl) ?_ | refine x_as (by rfl) (by rfl) ?_ | refine x_skip (by rfl) ?_ | refine x_fld (by rfl) (by rfl) FldO.h ?_ | refine x_nilck (by rfl) (by rfl) ?_ | refine x_len (by rfl) (by rfl) ElOf.some ?_ | refine x_ext (by rfl) (by rfl) (by rfl) ?_ | refine x_pickT (by rfl) (by rfl) (by rfl) ?_ | refine x_pickF (by rfl) (by rfl) (by rfl) ?_ | refine x_add (by rfl) (by rfl) (by rfl) (by omega) ?_ | refine x_sub (by rfl) (by rfl) (by rfl) (by omega) ?_ | refine x_not (by rfl) (by rfl) ?_)
      refine x_nilw ?_
      exact ⟨rfl, at_ ⟨rfl, rfl, rfl, rfl, trivial⟩, R10.tail.tail⟩
    | some x =>
      have gx : Gt w10 x.bg x.r x.bp x.sp ⟨held, 4096, minT, false⟩ x.N := R10.nth (i := 0) rfl
      (repeat (first | refine swp_seq ?_ | refine swp_block ?_)); refine swp_region (by kernel_rfl) ?_
      repeat (first | refine x_move (by rfl) ?_ | refine x_as (by rfl) (by rfl) ?_ | refine x_skip (by rfl) ?_ | refine x_fld (by rfl) (by rfl) FldO.h ?_ | refine x_nilck (by rfl) (by rfl) ?_ | refine x_len (by rfl) (by rfl) ElOf.some ?_ | refine x_ext (by rfl) (by rfl) (by rfl) ?_ | refine x_pickT (by rfl) (by rfl) (by rfl) ?_ | refine x_pickF (by rfl) (by rfl) (by rfl) ?_ | refine x_add (by rfl) (by rfl) (by rfl) (by omega) ?_ | refine x_sub (by rfl) (by rfl) (by rfl) (by omega) ?_ | refine x_not (by rfl) (by rfl) ?_)
      refine x_neqO (ad := some ⟨x.bg, 0, none⟩) Try.underlying22 (by rfl) (by rfl) (by rfl) ?_
      repeat (first | refine x_move (by rfl) ?_ | refine x_as (by rfl) (by rfl) ?_ | refine x_skip (by rfl) ?_ | refine x_fld (by rfl) (by rfl) FldO.h ?_ | refine x_nilck (by rfl) (by rfl) ?_ | refine x_len (by rfl) (by rfl) ElOf.some ?_ | refine x_ext (by rfl) (by rfl) (by rfl) ?_ | refine x_pickT (by rfl) (by rfl) (by rfl) ?_ | refine x_pickF (by rfl) (by rfl) (by rfl) ?_ | refine x_add (by rfl) (by rfl) (by rfl) (by omega) ?_ | refine x_sub (by rfl) (by rfl) (by rfl) (by omega) ?_ | refine x_not (by rfl) (by rfl) ?_)
      refine w_call (by rfl) (by rfl) (by rfl) (g_held gx (by have := hN9 x rfl; exact this)) ?_
      rintro v11 w11 ⟨own11, -, u11⟩
      repeat (first | refine x_move (by rfl) ?_ | refine x_as (by rfl) (by rfl) ?_ | refine x_skip (by rfl) ?_ | refine x_fld (by rfl) (by rfl) FldO.h ?_ | refine x_nilck (by rfl) (by rfl) ?_ | refine x_len (by rfl) (by rfl) ElOf.some ?_ | refine x_ext (by rfl) (by rfl) (by rfl) ?_ | refine x_pickT (by rfl) (by rfl) (by rfl) ?_ | refine x_pickF (by rfl) (by rfl) (by rfl) ?_ | refine x_add (by rfl) (by rfl) (by rfl) (by omega) ?_ | refine x_sub (by rfl) (by rfl) (by rfl) (by omega) ?_ | refine x_not (by rfl) (by rfl) ?_)
      refine w_call (by rfl) (by rfl) (by rfl) (LEv.same own11.rd (h2.at (R10.u.trans u11)) (by show held.length ≤ _; omega)) ?_
      rintro _ w12 ⟨rfl, u12⟩
      repeat (first | refine x_move (by rfl) ?_ | refine x_as (by rfl) (by rfl) ?_ | refine x_skip (by rfl) ?_ | refine x_fld (by rfl) (by rfl) FldO.h ?_ | refine x_nilck (by rfl) (by rfl) ?_ | refine x_len (by rfl) (by rfl) ElOf.some ?_ | refine x_ext (by rfl) (by rfl) (by rfl) ?_ | refine x_pickT (by rfl) (by rfl) (by rfl) ?_ | refine x_pickF (by rfl) (by rfl) (by rfl) ?_ | refine x_add (by rfl) (by rfl) (by rfl) (by omega) ?_ | refine x_sub (by rfl) (by rfl) (by rfl) (by omega) ?_ | refine x_not (by rfl) (by rfl) ?_)
      refine x_nilw ?_
      exact ⟨rfl, at_ ⟨rfl, rfl, rfl, rfl, trivial⟩, (R10.tail.tail).ext (u11.trans u12)⟩
  clear R10
  rintro σ w11 ⟨⟨ρ, rfl⟩, R11⟩
  refine n_then ?_
  (repeat (first | refine swp_seq ?_ | refine swp_block ?_))
  refine swp_false (by rfl) (swp_skip ?_)
  (repeat (first | with_reducible refine n_then ?_ | with_reducible refine n_block ?_ | with_reducible refine n_jump ?_))
  (repeat (first | refine swp_seq ?_ | refine swp_block ?_)); refine swp_region (by kernel_rfl) ?_
  repeat (first | refine x_move (by rfl) ?_ | refine x_as (by rfl) (by rfl) ?_ | refine x_skip (by rfl) ?_ | refine x_fld (by rfl) (by rfl) FldO.h ?_ | refine x_nilck (by rfl) (by rfl) ?_ | refine x_len (by rfl) (by rfl) ElOf.some ?_ | refine x_ext (by rfl) (by rfl) (by rfl) ?_ | refine x_pickT (by rfl) (by rfl) (by rfl) ?_ | refine x_pickF (by rfl) (by rfl) (by rfl) ?_ | refine x_add (by rfl) (by rfl) (by rfl) (by omega) ?_ | refine x_sub (by rfl) (by rfl) (by rfl) (by omega) ?_ | refine x_not (by rfl) (by rfl) ?_)
  refine x_nilw ?_
  (repeat (first | refine swp_seq ?_ | refine swp_block ?_)); refine swp_region (by kernel_rfl) ?_
  repeat (first | refine x_move (by rfl) ?_ | refine x_as (by rfl) (by rfl) ?_ | refine x_skip (by rfl) ?_ | refine x_fld (by rfl) (by rfl) FldO.h ?_ | refine x_nilck (by rfl) (by rfl) ?_ | refine x_len (by rfl) (by rfl) ElOf.some ?_ | refine x_ext (by rfl) (by rfl) (by rfl) ?_ | refine x_pickT (by rfl) (by rfl) (by rfl) ?_ | refine x_pickF (by rfl) (by rfl) (by rfl) ?_ | refine x_add (by rfl) (by rfl) (by rfl) (by omega) ?_ | refine x_sub (by rfl) (by rfl) (by rfl) (by omega) ?_ | refine x_not (by rfl) (by rfl) ?_)
  refine x_nilw ?_
  (repeat (first | refine swp_seq ?_ | refine swp_block ?_)); refine swp_region (by kernel_rfl) ?_
  repeat (first | refine x_move (by rfl) ?_ | refine x_as (by rfl) (by rfl) ?_ | refine x_skip (by rfl) ?_ | refine x_fld (by rfl) (by rfl) FldO.h ?_ | refine x_nilck (by rfl) (by rfl) ?_ | refine x_len (by rfl) (by rfl) ElOf.some ?_ | refine x_ext (by rfl) (by rfl) (by rfl) ?_ | refine x_pickT (by rfl) (by rfl) (by rfl) ?_ | refine x_pickF (by rfl) (by rfl) (by rfl) ?_ | refine x_add (by rfl) (by rfl) (by rfl) (by omega) ?_ | refine x_sub (by rfl) (by rfl) (by rfl) (by omega) ?_ | refine x_not (by rfl) (by rfl) ?_)
  refine x_nilw ?_
  (repeat (first | refine swp_seq ?_ | refine swp_block ?_)); refine swp_region (by kernel_rfl) ?_
  repeat (first | refine x_move (by rfl) ?_ | refine x_as (by rfl) (by rfl) ?_ | refine x_skip (by rfl) ?_ | refine x_fld (by rfl) (by rfl) FldO.h ?_ | refine x_nilck (by rfl) (by rfl) ?_ | refine x_len (by rfl) (by rfl) ElOf.some ?_ | refine x_ext (by rfl) (by rfl) (by rfl) ?_ | refine x_pickT (by rfl) (by rfl) (by rfl) ?_ | refine x_pickF (by rfl) (by rfl) (by rfl) ?_ | refine x_add (by rfl) (by rfl) (by rfl) (by omega) ?_ | refine x_sub (by rfl) (by rfl) (by rfl) (by omega) ?_ | refine x_not (by rfl) (by rfl) ?_)
  refine x_nilw ?_
  refine swp_fit [(0, .slice a0 ops.length c0), (5, .pointer (some ⟨bg, 0, none⟩)), (7, .pointer (some ⟨bh, 0, none⟩)), (14, .slice none 0 0), (15, .slice none 0 0), (16, .slice none 0 0), (17, .int .i64 ((0 : Nat) : Int))] ⟨rfl, rfl, rfl, rfl, rfl, rfl, rfl, trivial⟩ fun ρ => ?_
  have R12 : Rg w w11 [aGt bg r bp sp5 G N5, aGt bh rh bq sq6 G M6, aOwn 63 2 (.slice none 0 0) 0 (fl encK (kepts 0 nv nv)), aOwn 32 1 (.slice none 0 0) 0 (fl encV (vals 0 nv)), aOwn 32 1 (.slice none 0 0) 0 (fl encV (vals 0 nv)), bkf 0 nv nv (fun _ => []), lsf 0 nv (fun _ => []), lsf 0 nv (fun _ => [])] := by
    have a1 := (R11.pull 1 rfl).snoc0 (a := aOwn 63 2 (.slice none 0 0) 0 (fl encK (kepts 0 nv nv))) (Own.nil _ _ _) fun b hb => hb
    have a2 := a1.snoc0 (a := aOwn 32 1 (.slice none 0 0) 0 (fl encV (vals 0 nv))) (Own.nil _ _ _) fun b hb => hb
    have a3 := a2.snoc0 (a := aOwn 32 1 (.slice none 0 0) 0 (fl encV (vals 0 nv))) (Own.nil _ _ _) fun b hb => hb
    have a4 := a3.snoc0 (a := bkf 0 nv nv (fun _ => [])) trivial fun b hb => by obtain ⟨c, hc, _⟩ := hb; simp [fam] at hc
    have a5 := a4.snoc0 (a := lsf 0 nv (fun _ => [])) trivial fun b hb => by obtain ⟨c, hc, _⟩ := hb; simp [fam] at hc
    exact a5.snoc0 (a := lsf 0 nv (fun _ => [])) trivial fun b hb => by obtain ⟨c, hc, _⟩ := hb; simp [fam] at hc
  (repeat (first | refine swp_seq ?_ | refine swp_block ?_))
  refine swp_loop (fun (i : Nat) σ w' => ∃ sp sq N M G bv otv twv V T O Mo L, At σ [(0, .slice a0 ops.length c0), (5, .pointer (some ⟨bg, 0, none⟩)), (7, .pointer (some ⟨bh, 0, none⟩)), (14, bv), (15, otv), (16, twv), (17, .int .i64 (i : Nat))] ∧ i ≤ ops.length ∧ G.Ok ∧ N ≤ i + 1 ∧ M ≤ i + 1 ∧ (∀ j, j < i → (L j).length ≤ 4096) ∧ Rg w w' [aGt bg r bp sp G N, aGt bh rh bq sq G M, aOwn 63 2 bv i (fl encK (kepts i O Mo)), aOwn 32 1 otv i (fl encV (vals i V)), aOwn 32 1 twv i (fl encV (vals i T)), bkf i O Mo L, lsf i V L, lsf i T L]) (fun i => ops.length - i) 0 ⟨sp5, sq6, N5, M6, G, _, _, _, nv, nv, nv, nv, fun _ => [], at_ ⟨rfl, rfl, rfl, rfl, rfl, rfl, rfl, trivial⟩, by omega, okG, by omega, by omega, fun j hj => absurd hj (by omega), R12⟩ ?_
  clear R11 R12 okG hN5 hM6
  rintro i σ w1 ⟨sp, sq, N, M, G, bv, otv, twv, V, T, O, Mo, L, ⟨ρ, rfl⟩, hi, ok, hN, hM, hL, R⟩
  obtain ⟨ba, bc, rfl⟩ := (show Own w1 63 2 bv i (fl encK (kepts i O Mo)) from R.nth (i := 2) rfl).slice
  (repeat (first | refine swp_seq ?_ | refine swp_block ?_)); refine swp_region (by kernel_rfl) ?_
  repeat (first | refine x_move (by rfl) ?_ | refine x_as (by rfl) (by rfl) ?_ | refine x_skip (by rfl) ?_ | refine x_fld (by rfl) (by rfl) FldO.h ?_ | refine w_load (by rfl) (by rfl) (load_one OneT.h (by assumption) (by rfl)) ?_ | refine x_nilck (by rfl) (by rfl) ?_ | refine x_len (by rfl) (by rfl) ElOf.some ?_ | refine x_iface (by rfl) (by rfl) NIf.h ?_ | refine x_ext (by rfl) (by rfl) (by rfl) ?_ | refine x_pickT (by rfl) (by rfl) (by rfl) ?_ | refine x_pickF (by rfl) (by rfl) (by rfl) ?_ | refine x_add (by rfl) (by rfl) (by rfl) (by omega) ?_ | refine x_sub (by rfl) (by rfl) (by rfl) (by omega) ?_ | refine x_lss (by rfl) (by rfl) (by rfl) ?_ | refine x_geq (by rfl) (by rfl) (by rfl) ?_ | refine x_leq (by rfl) (by rfl) (by rfl) ?_ | refine x_gtr (by rfl) (by rfl) (by rfl) ?_ | refine x_eql (by rfl) (by rfl) (by rfl) ?_ | refine x_neq (by rfl) (by rfl) (by rfl) ?_ | refine x_not (by rfl) (by rfl) ?_)
  refine x_nilw ?_
  (repeat (first | refine swp_seq ?_ | refine swp_block ?_))
  refine swp_if (by rfl) (fun hc => swp_skip ?_) (fun hc => ?_)
  · have hi' : i < ops.length := by omega
    obtain ⟨o, ho⟩ := nthE hi'
    obtain ⟨b1, o1, d1, he1, -, -⟩ := h1.pos (by omega)
    simp only [Value.slice.injEq] at he1
    obtain ⟨rfl, _, rfl⟩ := he1
    have htl := o.tells_len ok
    have ok' := o.goes_ok ok
    (repeat (first | with_reducible refine n_then ?_ | with_reducible refine n_block ?_ | with_reducible refine n_jump ?_))
    (repeat (first | refine swp_seq ?_ | refine swp_block ?_)); refine swp_region (by kernel_rfl) ?_
    repeat (first | refine x_move (by rfl) ?_ | refine x_as (by rfl) (by rfl) ?_ | refine x_skip (by rfl) ?_ | refine x_fld (by rfl) (by rfl) FldO.h ?_ | refine x_nilck (by rfl) (by rfl) ?_ | refine x_len (by rfl) (by rfl) ElOf.some ?_ | refine x_ext (by rfl) (by rfl) (by rfl) ?_ | refine x_pickT (by rfl) (by rfl) (by rfl) ?_ | refine x_pickF (by rfl) (by rfl) (by rfl) ?_ | refine x_add (by rfl) (by rfl) (by rfl) (by omega) ?_ | refine x_sub (by rfl) (by rfl) (by rfl) (by omega) ?_ | refine x_not (by rfl) (by rfl) ?_)
    refine x_idx i (by rfl) (by rfl) (by rfl) ElSz.h rfl hi' ?_
    refine w_load (by rfl) (by rfl) (rd_load gop_len AggT.h (h1.at R.u) ho rfl rfl) ?_
    refine w_call (by rfl) (by rfl) (by rfl) (lists_ o (R.nth (i := 0) rfl) ok (by omega)) ?_
    rintro l w2 ⟨sp1, N1, ol, nl, g1, hN1, u1, hin1, dl⟩
    repeat (first | refine x_move (by rfl) ?_ | refine x_as (by rfl) (by rfl) ?_ | refine x_skip (by rfl) ?_ | refine x_fld (by rfl) (by rfl) FldO.h ?_ | refine x_nilck (by rfl) (by rfl) ?_ | refine x_len (by rfl) (by rfl) ElOf.some ?_ | refine x_ext (by rfl) (by rfl) (by rfl) ?_ | refine x_pickT (by rfl) (by rfl) (by rfl) ?_ | refine x_pickF (by rfl) (by rfl) (by rfl) ?_ | refine x_add (by rfl) (by rfl) (by rfl) (by omega) ?_ | refine x_sub (by rfl) (by rfl) (by rfl) (by omega) ?_ | refine x_not (by rfl) (by rfl) ?_)
    refine x_nilw ?_
    have R1 : Rg w w2 [aEv l (o.tells G), aGt bg r bp sp1 (o.goes G) N1, aGt bh rh bq sq G M, aOwn 63 2 (.slice ba i bc) i (fl encK (kepts i O Mo)), aOwn 32 1 otv i (fl encV (vals i V)), aOwn 32 1 twv i (fl encV (vals i T)), bkf i O Mo L, lsf i V L, lsf i T L] := R.upd2 (i := 0) (a' := aGt bg r bp sp1 (o.goes G) N1) (n := aEv l (o.tells G)) rfl u1 (fun b _ e => e) g1 hin1 ol nl dl
    clear R g1 hin1 nl dl u1 ol
    (repeat (first | refine swp_seq ?_ | refine swp_block ?_)); refine swp_region (by kernel_rfl) ?_
    repeat (first | refine x_move (by rfl) ?_ | refine x_as (by rfl) (by rfl) ?_ | refine x_skip (by rfl) ?_ | refine x_fld (by rfl) (by rfl) FldO.h ?_ | refine x_nilck (by rfl) (by rfl) ?_ | refine x_len (by rfl) (by rfl) ElOf.some ?_ | refine x_ext (by rfl) (by rfl) (by rfl) ?_ | refine x_pickT (by rfl) (by rfl) (by rfl) ?_ | refine x_pickF (by rfl) (by rfl) (by rfl) ?_ | refine x_add (by rfl) (by rfl) (by rfl) (by omega) ?_ | refine x_sub (by rfl) (by rfl) (by rfl) (by omega) ?_ | refine x_not (by rfl) (by rfl) ?_)
    refine x_idx i (by rfl) (by rfl) (by rfl) ElSz.h rfl hi' ?_
    refine w_load (by rfl) (by rfl) (rd_load gop_len AggT.h (h1.at R1.u) ho rfl rfl) ?_
    refine w_call (by rfl) (by rfl) (by rfl) (lists_ o (R1.nth (i := 2) rfl) ok (by omega)) ?_
    rintro k w3 ⟨sq2, M2, okk, nk, g2, hM2, u2, hin2, dk⟩
    repeat (first | refine x_move (by rfl) ?_ | refine x_as (by rfl) (by rfl) ?_ | refine x_skip (by rfl) ?_ | refine x_fld (by rfl) (by rfl) FldO.h ?_ | refine x_nilck (by rfl) (by rfl) ?_ | refine x_len (by rfl) (by rfl) ElOf.some ?_ | refine x_ext (by rfl) (by rfl) (by rfl) ?_ | refine x_pickT (by rfl) (by rfl) (by rfl) ?_ | refine x_pickF (by rfl) (by rfl) (by rfl) ?_ | refine x_add (by rfl) (by rfl) (by rfl) (by omega) ?_ | refine x_sub (by rfl) (by rfl) (by rfl) (by omega) ?_ | refine x_not (by rfl) (by rfl) ?_)
    refine x_nilw ?_
    have R2 : Rg w w3 [aEv k (o.tells G), aEv l (o.tells G), aGt bg r bp sp1 (o.goes G) N1, aGt bh rh bq sq2 (o.goes G) M2, aOwn 63 2 (.slice ba i bc) i (fl encK (kepts i O Mo)), aOwn 32 1 otv i (fl encV (vals i V)), aOwn 32 1 twv i (fl encV (vals i T)), bkf i O Mo L, lsf i V L, lsf i T L] := R1.upd2 (i := 2) (a' := aGt bh rh bq sq2 (o.goes G) M2) (n := aEv k (o.tells G)) rfl u2 (fun b _ e => e) g2 hin2 okk nk dk
    clear R1 g2 hin2 nk dk u2
    obtain ⟨ka, kc, rfl⟩ := okk.slice
    clear okk
    generalize o.tells G = tl at R2 htl
    generalize o.goes G = G' at R2 ok'
    (repeat (first | refine swp_seq ?_ | refine swp_block ?_)); refine swp_region (by kernel_rfl) ?_
    repeat (first | refine x_move (by rfl) ?_ | refine x_as (by rfl) (by rfl) ?_ | refine x_skip (by rfl) ?_ | refine x_fld (by rfl) (by rfl) FldO.h ?_ | refine x_nilck (by rfl) (by rfl) ?_ | refine x_len (by rfl) (by rfl) ElOf.some ?_ | refine x_ext (by rfl) (by rfl) (by rfl) ?_ | refine x_pickT (by rfl) (by rfl) (by rfl) ?_ | refine x_pickF (by rfl) (by rfl) (by rfl) ?_ | refine x_add (by rfl) (by rfl) (by rfl) (by omega) ?_ | refine x_sub (by rfl) (by rfl) (by rfl) (by omega) ?_ | refine x_not (by rfl) (by rfl) ?_)
    refine w_call (by rfl) (by rfl) (by rfl) (LEv.same (show Own w3 30 11 l tl.length (fl Ev.cells tl) from R2.nth (i := 1) rfl).rd (show Own w3 30 11 (.slice ka tl.length kc) tl.length (fl Ev.cells tl) from R2.nth (i := 0) rfl).rd (by omega)) ?_
    rintro _ w4 ⟨rfl, u3⟩
    repeat (first | refine x_move (by rfl) ?_ | refine x_as (by rfl) (by rfl) ?_ | refine x_skip (by rfl) ?_ | refine x_fld (by rfl) (by rfl) FldO.h ?_ | refine x_nilck (by rfl) (by rfl) ?_ | refine x_len (by rfl) (by rfl) ElOf.some ?_ | refine x_ext (by rfl) (by rfl) (by rfl) ?_ | refine x_pickT (by rfl) (by rfl) (by rfl) ?_ | refine x_pickF (by rfl) (by rfl) (by rfl) ?_ | refine x_add (by rfl) (by rfl) (by rfl) (by omega) ?_ | refine x_sub (by rfl) (by rfl) (by rfl) (by omega) ?_ | refine x_not (by rfl) (by rfl) ?_)
    refine x_nilw ?_
    have R3 := R2.ext u3
    clear R2 u3
    (repeat (first | refine swp_seq ?_ | refine swp_block ?_))
    refine swp_false (by rfl) (swp_skip ?_)
    (repeat (first | with_reducible refine n_then ?_ | with_reducible refine n_block ?_ | with_reducible refine n_jump ?_))
    (repeat (first | refine swp_seq ?_ | refine swp_block ?_)); refine swp_region (by kernel_rfl) ?_
    repeat (first | refine x_move (by rfl) ?_ | refine x_as (by rfl) (by rfl) ?_ | refine x_skip (by rfl) ?_ | refine x_fld (by rfl) (by rfl) FldO.h ?_ | refine x_nilck (by rfl) (by rfl) ?_ | refine x_len (by rfl) (by rfl) ElOf.some ?_ | refine x_ext (by rfl) (by rfl) (by rfl) ?_ | refine x_pickT (by rfl) (by rfl) (by rfl) ?_ | refine x_pickF (by rfl) (by rfl) (by rfl) ?_ | refine x_add (by rfl) (by rfl) (by rfl) (by omega) ?_ | refine x_sub (by rfl) (by rfl) (by rfl) (by omega) ?_ | refine x_not (by rfl) (by rfl) ?_)
    refine w_bslice (e := 32) (cs := [.slice ka tl.length kc]) (by rfl) (by rfl) (by rfl) (by kernel_rfl) ?_
    intro b5 w5 _ u4 h5
    have R4 := R3.ext u4
    refine w_append (more := []) (news := [.slice ka tl.length kc]) (by rfl) (by rfl) (by rfl) (by rfl) SlC.h (show Own w5 32 1 otv i (fl encV (vals i V)) from R4.nth (i := 5) rfl) (by rw [List.append_nil]; exact h5) (by rfl) (by rfl) (by omega) (Room.le (n := ops.length + 2) ⟨by omega, by omega⟩ (by omega)) ?_
    intro otv' w6 own6 u6 hin6
    repeat (first | refine x_move (by rfl) ?_ | refine x_as (by rfl) (by rfl) ?_ | refine x_skip (by rfl) ?_ | refine x_fld (by rfl) (by rfl) FldO.h ?_ | refine x_nilck (by rfl) (by rfl) ?_ | refine x_len (by rfl) (by rfl) ElOf.some ?_ | refine x_ext (by rfl) (by rfl) (by rfl) ?_ | refine x_pickT (by rfl) (by rfl) (by rfl) ?_ | refine x_pickF (by rfl) (by rfl) (by rfl) ?_ | refine x_add (by rfl) (by rfl) (by rfl) (by omega) ?_ | refine x_sub (by rfl) (by rfl) (by rfl) (by omega) ?_ | refine x_not (by rfl) (by rfl) ?_)
    refine x_nilw ?_
    have own6' : Own w6 32 1 otv' (i + 1) (fl encV (vals (i + 1) (set1 V i (.slice ka tl.length kc)))) := by
      rw [← vals_snoc, fl_append, fl_one]
      exact own6
    have R6 := R4.upd (i := 5) (a' := aOwn 32 1 otv' (i + 1) (fl encV (vals (i + 1) (set1 V i (.slice ka tl.length kc))))) rfl u6 (fun b _ e => e) own6' hin6
    clear R3 R4 own6 own6' u6 hin6 h5 u4
    (repeat (first | refine swp_seq ?_ | refine swp_block ?_)); refine swp_region (by kernel_rfl) ?_
    repeat (first | refine x_move (by rfl) ?_ | refine x_as (by rfl) (by rfl) ?_ | refine x_skip (by rfl) ?_ | refine x_fld (by rfl) (by rfl) FldO.h ?_ | refine x_nilck (by rfl) (by rfl) ?_ | refine x_len (by rfl) (by rfl) ElOf.some ?_ | refine x_ext (by rfl) (by rfl) (by rfl) ?_ | refine x_pickT (by rfl) (by rfl) (by rfl) ?_ | refine x_pickF (by rfl) (by rfl) (by rfl) ?_ | refine x_add (by rfl) (by rfl) (by rfl) (by omega) ?_ | refine x_sub (by rfl) (by rfl) (by rfl) (by omega) ?_ | refine x_not (by rfl) (by rfl) ?_)
    refine w_bslice0 (e := 30) (by rfl) (by rfl) Try.underlying32 (by kernel_rfl) ?_
    intro b7 w7 e7 u7 h7
    repeat (first | refine x_move (by rfl) ?_ | refine x_as (by rfl) (by rfl) ?_ | refine x_skip (by rfl) ?_ | refine x_fld (by rfl) (by rfl) FldO.h ?_ | refine x_nilck (by rfl) (by rfl) ?_ | refine x_len (by rfl) (by rfl) ElOf.some ?_ | refine x_ext (by rfl) (by rfl) (by rfl) ?_ | refine x_pickT (by rfl) (by rfl) (by rfl) ?_ | refine x_pickF (by rfl) (by rfl) (by rfl) ?_ | refine x_add (by rfl) (by rfl) (by rfl) (by omega) ?_ | refine x_sub (by rfl) (by rfl) (by rfl) (by omega) ?_ | refine x_not (by rfl) (by rfl) ?_)
    have own7 : Own w7 30 11 (.slice (some ⟨b7, 0, none⟩) 0 0) 0 [] := Own.of (rest := []) rfl h7 (by omega) (by simp [maxLen]) rfl
    refine w_appendR (by rfl) (by rfl) (by rfl) (by rfl) SlC.h own7 ((show Own w6 30 11 (.slice ka tl.length kc) tl.length (fl Ev.cells tl) from R6.nth (i := 0) rfl).rd.at u7) (PEv.fl_one' ev_one tl) (room88 (by omega)) ?_
    intro tv w8 own8 u8 hin8
    rw [Nat.zero_add, List.nil_append] at own8
    have hb7 : ∀ b, isIn (.slice (some ⟨b7, 0, none⟩) 0 0) b → b = b7 := fun b hb => hb
    have z7 := u7.size
    have u68 : Ext w6 w8 := u7.trans' u8 fun b hb hf => by have := hb7 b hf; omega
    have R8 := R6.new (a := aEv tv tl) u68 own8 fun b hb => (hin8 b hb).elim (fun h => by have := hb7 b h; omega) fun h => by omega
    clear own7 u8 hin8 u68 R6 h7 u7
    obtain ⟨ta, tc, rfl⟩ := own8.slice
    clear own8
    refine w_bslice (e := 32) (cs := [.slice ta tl.length tc]) (by rfl) (by rfl) (by rfl) (by kernel_rfl) ?_
    intro b9 w9 _ u9 h9
    have R9 := R8.ext u9
    refine w_append (more := []) (news := [.slice ta tl.length tc]) (by rfl) (by rfl) (by rfl) (by rfl) SlC.h (show Own w9 32 1 twv i (fl encV (vals i T)) from R9.nth (i := 7) rfl) (by rw [List.append_nil]; exact h9) (by rfl) (by rfl) (by omega) (Room.le (n := ops.length + 2) ⟨by omega, by omega⟩ (by omega)) ?_
    intro twv' w10 own10 u10 hin10
    repeat (first | refine x_move (by rfl) ?_ | refine x_as (by rfl) (by rfl) ?_ | refine x_skip (by rfl) ?_ | refine x_fld (by rfl) (by rfl) FldO.h ?_ | refine x_nilck (by rfl) (by rfl) ?_ | refine x_len (by rfl) (by rfl) ElOf.some ?_ | refine x_ext (by rfl) (by rfl) (by rfl) ?_ | refine x_pickT (by rfl) (by rfl) (by rfl) ?_ | refine x_pickF (by rfl) (by rfl) (by rfl) ?_ | refine x_add (by rfl) (by rfl) (by rfl) (by omega) ?_ | refine x_sub (by rfl) (by rfl) (by rfl) (by omega) ?_ | refine x_not (by rfl) (by rfl) ?_)
    refine x_nilw ?_
    have own10' : Own w10 32 1 twv' (i + 1) (fl encV (vals (i + 1) (set1 T i (.slice ta tl.length tc)))) := by
      rw [← vals_snoc, fl_append, fl_one]
      exact own10
    have R10 := R9.upd (i := 7) (a' := aOwn 32 1 twv' (i + 1) (fl encV (vals (i + 1) (set1 T i (.slice ta tl.length tc))))) rfl u10 (fun b _ e => e) own10' hin10
    clear R8 R9 own10 own10' u10 hin10 h9 u9
    (repeat (first | refine swp_seq ?_ | refine swp_block ?_)); refine swp_region (by kernel_rfl) ?_
    repeat (first | refine x_move (by rfl) ?_ | refine x_as (by rfl) (by rfl) ?_ | refine x_skip (by rfl) ?_ | refine x_fld (by rfl) (by rfl) FldO.h ?_ | refine x_nilck (by rfl) (by rfl) ?_ | refine x_len (by rfl) (by rfl) ElOf.some ?_ | refine x_ext (by rfl) (by rfl) (by rfl) ?_ | refine x_pickT (by rfl) (by rfl) (by rfl) ?_ | refine x_pickF (by rfl) (by rfl) (by rfl) ?_ | refine x_add (by rfl) (by rfl) (by rfl) (by omega) ?_ | refine x_sub (by rfl) (by rfl) (by rfl) (by omega) ?_ | refine x_not (by rfl) (by rfl) ?_)
    refine w_call (by rfl) (by rfl) (by rfl) (marked_ i (show Own w10 30 11 l tl.length (fl Ev.cells tl) from R10.nth (i := 2) rfl) htl) ?_
    rintro _ w11 ⟨gv, rfl, tw11, u11, hin11⟩
    have R11 := R10.upd (i := 2) (a' := aTwin l gv (marks i tl.length) (marks i (tl.length + 1))) rfl u11 (fun b _ e => e) tw11 fun b hb => hb.elim .inl (hin11 b)
    have hs1 := tw11.own.slice
    have hs2 := tw11.sl
    obtain ⟨gva, gvc, hgv⟩ := hs1
    obtain ⟨lva, lvc, hlv⟩ := hs2
    refine w_bslice (e := 63) (cs := encK (l, gv)) (by rfl) (by rfl) (by rfl) (by kernel_rfl) ?_
    intro b12 w12 _ u12 h12
    have R12 := R11.ext u12
    refine w_append (more := []) (news := encK (l, gv)) (by rfl) (by rfl) (by rfl) (by rfl) SlC.h (show Own w12 63 2 (.slice ba i bc) i (fl encK (kepts i O Mo)) from R12.nth (i := 5) rfl) (by rw [List.append_nil]; exact h12) (by rfl) (by rw [hlv, hgv]; rfl) (by omega) (Room.le (n := ops.length + 2) ⟨by omega, by omega⟩ (by omega)) ?_
    intro bv' w13 own13 u13 hin13
    repeat (first | refine x_move (by rfl) ?_ | refine x_as (by rfl) (by rfl) ?_ | refine x_skip (by rfl) ?_ | refine x_fld (by rfl) (by rfl) FldO.h ?_ | refine x_nilck (by rfl) (by rfl) ?_ | refine x_len (by rfl) (by rfl) ElOf.some ?_ | refine x_ext (by rfl) (by rfl) (by rfl) ?_ | refine x_pickT (by rfl) (by rfl) (by rfl) ?_ | refine x_pickF (by rfl) (by rfl) (by rfl) ?_ | refine x_add (by rfl) (by rfl) (by rfl) (by omega) ?_ | refine x_sub (by rfl) (by rfl) (by rfl) (by omega) ?_ | refine x_not (by rfl) (by rfl) ?_)
    refine x_nilw ?_
    clear hgv hlv
    have own13' : Own w13 63 2 bv' (i + 1) (fl encK (kepts (i + 1) (set1 O i l) (set1 Mo i gv))) := by
      rw [← kepts_snoc, fl_append, fl_one]
      exact own13
    have R13 : Rg w w13 [aEv (.slice ta tl.length tc) tl, aEv (.slice ka tl.length kc) tl, aTwin l gv (marks i tl.length) (marks i (tl.length + 1)), aGt bg r bp sp1 G' N1, aGt bh rh bq sq2 G' M2, aOwn 63 2 bv' (i + 1) (fl encK (kepts (i + 1) (set1 O i l) (set1 Mo i gv))), aOwn 32 1 otv' (i + 1) (fl encV (vals (i + 1) (set1 V i (.slice ka tl.length kc)))), aOwn 32 1 twv' (i + 1) (fl encV (vals (i + 1) (set1 T i (.slice ta tl.length tc)))), bkf i O Mo L, lsf i V L, lsf i T L] := R12.upd (i := 5) (a' := aOwn 63 2 bv' (i + 1) (fl encK (kepts (i + 1) (set1 O i l) (set1 Mo i gv)))) rfl u13 (fun b _ e => e) own13' hin13
    clear R11 R12 R10 own13 own13' u13 hin13 h12 u12 tw11 u11 hin11
    have R14 := R13.twin.join (i := 9) (xs := fam i fun j => aTwin (T j) (T j) (L j) (L j)) rfl
    rw [lsf_snoc] at R14
    have R15 := (show Rg w w13 (aEv (.slice ka tl.length kc) tl :: _) from R14).twin.join (i := 7) (xs := fam i fun j => aTwin (V j) (V j) (L j) (L j)) rfl
    rw [lsf_snoc] at R15
    have R16 := (show Rg w w13 (aTwin l gv (marks i tl.length) (marks i (tl.length + 1)) :: _) from R15).join (i := 5) (xs := fam i fun j => aTwin (O j) (Mo j) (marks j (L j).length) (marks j ((L j).length + 1))) rfl
    rw [bkf_snoc] at R16
    replace R16 : Rg w w13 [aGt bg r bp sp1 G' N1, aGt bh rh bq sq2 G' M2, aOwn 63 2 bv' (i + 1) (fl encK (kepts (i + 1) (set1 O i l) (set1 Mo i gv))), aOwn 32 1 otv' (i + 1) (fl encV (vals (i + 1) (set1 V i (.slice ka tl.length kc)))), aOwn 32 1 twv' (i + 1) (fl encV (vals (i + 1) (set1 T i (.slice ta tl.length tc)))), bkf (i + 1) (set1 O i l) (set1 Mo i gv) (set1 L i tl), lsf (i + 1) (set1 V i (.slice ka tl.length kc)) (set1 L i tl), lsf (i + 1) (set1 T i (.slice ta tl.length tc)) (set1 L i tl)] := R16
    clear R13 R14 R15
    have hL' : ∀ j, j < i + 1 → (set1 L i tl j).length ≤ 4096 := fun j hj => by
      by_cases e : j = i
      · subst e
        rw [set1_eq]
        exact htl
      · rw [set1_ne _ _ e]
        exact hL j (by omega)
    have hex : ∃ O' Mo' V' T' L', (∀ j, j < i + 1 → (L' j).length ≤ 4096) ∧ Rg w w13 [aGt bg r bp sp1 G' N1, aGt bh rh bq sq2 G' M2, aOwn 63 2 bv' (i + 1) (fl encK (kepts (i + 1) O' Mo')), aOwn 32 1 otv' (i + 1) (fl encV (vals (i + 1) V')), aOwn 32 1 twv' (i + 1) (fl encV (vals (i + 1) T')), bkf (i + 1) O' Mo' L', lsf (i + 1) V' L', lsf (i + 1) T' L'] := ⟨_, _, _, _, _, hL', R16⟩
    clear hL' hL R16
    obtain ⟨O', Mo', V', T', L', hL', R17⟩ := hex
    have rb := (show Own w13 63 2 bv' (i + 1) (fl encK (kepts (i + 1) O' Mo')) from R17.nth (i := 2) rfl).rd
    have ro := (show Own w13 32 1 otv' (i + 1) (fl encV (vals (i + 1) V')) from R17.nth (i := 3) rfl).rd
    have rt := (show Own w13 32 1 twv' (i + 1) (fl encV (vals (i + 1) T')) from R17.nth (i := 4) rfl).rd
    have twb := fun m (hm : m < i + 1) => bkf_at (show (bkf (i + 1) O' Mo' L').P w13 from R17.nth (i := 5) rfl) hm
    have two' := fun m (hm : m < i + 1) => apf_at (show (lsf (i + 1) V' L').P w13 from R17.nth (i := 6) rfl) hm
    have twt := fun m (hm : m < i + 1) => apf_at (show (lsf (i + 1) T' L').P w13 from R17.nth (i := 7) rfl) hm
    have pb := rb.pos (by omega)
    have po := ro.pos (by omega)
    have pt := rt.pos (by omega)
    obtain ⟨vb, vo, vc, rfl, -, -⟩ := pb
    obtain ⟨ob, oo, oc, rfl, -, -⟩ := po
    obtain ⟨tb, to', tc', rfl, -, -⟩ := pt
    (repeat (first | refine swp_seq ?_ | refine swp_block ?_)); refine swp_region (by kernel_rfl) ?_
    repeat (first | refine x_move (by rfl) ?_ | refine x_as (by rfl) (by rfl) ?_ | refine x_skip (by rfl) ?_ | refine x_fld (by rfl) (by rfl) FldO.h ?_ | refine x_nilck (by rfl) (by rfl) ?_ | refine x_len (by rfl) (by rfl) ElOf.some ?_ | refine x_ext (by rfl) (by rfl) (by rfl) ?_ | refine x_pickT (by rfl) (by rfl) (by rfl) ?_ | refine x_pickF (by rfl) (by rfl) (by rfl) ?_ | refine x_add (by rfl) (by rfl) (by rfl) (by omega) ?_ | refine x_sub (by rfl) (by rfl) (by rfl) (by omega) ?_ | refine x_not (by rfl) (by rfl) ?_)
    refine x_nilw ?_
    refine swp_fit [(0, .slice (some ⟨b1, o1, none⟩) ops.length c0), (5, .pointer (some ⟨bg, 0, none⟩)), (7, .pointer (some ⟨bh, 0, none⟩)), (14, .slice (some ⟨vb, vo, none⟩) (i + 1) vc), (15, .slice (some ⟨ob, oo, none⟩) (i + 1) oc), (16, .slice (some ⟨tb, to', none⟩) (i + 1) tc'), (17, .int .i64 (i : Nat)), (20, .int .i64 ((0 : Nat) : Int))] ⟨rfl, rfl, rfl, rfl, rfl, rfl, rfl, rfl, trivial⟩ fun ρ => ?_
    (repeat (first | refine swp_seq ?_ | refine swp_block ?_))
    refine swp_loop (fun (m : Nat) σ w' => At σ [(0, .slice (some ⟨b1, o1, none⟩) ops.length c0), (5, .pointer (some ⟨bg, 0, none⟩)), (7, .pointer (some ⟨bh, 0, none⟩)), (14, .slice (some ⟨vb, vo, none⟩) (i + 1) vc), (15, .slice (some ⟨ob, oo, none⟩) (i + 1) oc), (16, .slice (some ⟨tb, to', none⟩) (i + 1) tc'), (17, .int .i64 (i : Nat)), (20, .int .i64 (m : Nat))] ∧ m ≤ i + 1 ∧ Ext w13 w') (fun m => i + 1 - m) 0 ⟨at_ ⟨rfl, rfl, rfl, rfl, rfl, rfl, rfl, rfl, trivial⟩, by omega, Upd.refl _ _⟩ ?_
    rintro m σ w14 ⟨⟨ρ, rfl⟩, hm, u14⟩
    (repeat (first | refine swp_seq ?_ | refine swp_block ?_)); refine swp_region (by kernel_rfl) ?_
    repeat (first | refine x_move (by rfl) ?_ | refine x_as (by rfl) (by rfl) ?_ | refine x_skip (by rfl) ?_ | refine x_fld (by rfl) (by rfl) FldO.h ?_ | refine w_load (by rfl) (by rfl) (load_one OneT.h (by assumption) (by rfl)) ?_ | refine x_nilck (by rfl) (by rfl) ?_ | refine x_len (by rfl) (by rfl) ElOf.some ?_ | refine x_iface (by rfl) (by rfl) NIf.h ?_ | refine x_ext (by rfl) (by rfl) (by rfl) ?_ | refine x_pickT (by rfl) (by rfl) (by rfl) ?_ | refine x_pickF (by rfl) (by rfl) (by rfl) ?_ | refine x_add (by rfl) (by rfl) (by rfl) (by omega) ?_ | refine x_sub (by rfl) (by rfl) (by rfl) (by omega) ?_ | refine x_lss (by rfl) (by rfl) (by rfl) ?_ | refine x_geq (by rfl) (by rfl) (by rfl) ?_ | refine x_leq (by rfl) (by rfl) (by rfl) ?_ | refine x_gtr (by rfl) (by rfl) (by rfl) ?_ | refine x_eql (by rfl) (by rfl) (by rfl) ?_ | refine x_neq (by rfl) (by rfl) (by rfl) ?_ | refine x_not (by rfl) (by rfl) ?_)
    refine x_nilw ?_
    (repeat (first | refine swp_seq ?_ | refine swp_block ?_))
    refine swp_if (by rfl) (fun hcm => swp_skip ?_) (fun hcm => ?_)
    · have hm' : m < i + 1 := by omega
      have lm := hL' m hm'
      have r1 := (twb m hm').rd
      have r2 := (twb m hm').own.rd
      have r3 := (two' m hm').own.rd
      have r4 := (twt m hm').own.rd
      rw [marks_len] at r1 r2
      (repeat (first | with_reducible refine n_then ?_ | with_reducible refine n_block ?_ | with_reducible refine n_jump ?_))
      (repeat (first | refine swp_seq ?_ | refine swp_block ?_))
      (repeat (first | refine swp_seq ?_ | refine swp_block ?_)); refine swp_draw (Ext w14) [] Mixed.h (by kernel_rfl) (by kernel_rfl) (ext_drew w14) ?_
      repeat (first | refine x_move (by rfl) ?_ | refine x_as (by rfl) (by rfl) ?_ | refine x_skip (by rfl) ?_ | refine x_fld (by rfl) (by rfl) FldO.h ?_ | refine x_nilck (by rfl) (by rfl) ?_ | refine x_len (by rfl) (by rfl) ElOf.some ?_ | refine x_ext (by rfl) (by rfl) (by rfl) ?_ | refine x_pickT (by rfl) (by rfl) (by rfl) ?_ | refine x_pickF (by rfl) (by rfl) (by rfl) ?_ | refine x_add (by rfl) (by rfl) (by rfl) (by omega) ?_ | refine x_sub (by rfl) (by rfl) (by rfl) (by omega) ?_ | refine x_not (by rfl) (by rfl) ?_)
      refine x_idx m (by rfl) (by rfl) (by rfl) ElSz.h rfl hm' ?_
      refine q_load (v := .agg (encK (O' m, Mo' m)).toArray) (by rfl) (by rfl) (by rfl) (fun w' hw' => rd_load encK_len AggT.h (rb.at (u14.trans hw')) (kepts_get hm') (by rw [kepts_len]) rfl) ?_
      repeat (first | refine x_move (by rfl) ?_ | refine x_as (by rfl) (by rfl) ?_ | refine x_skip (by rfl) ?_ | refine x_fld (by rfl) (by rfl) FldO.h ?_ | refine x_nilck (by rfl) (by rfl) ?_ | refine x_len (by rfl) (by rfl) ElOf.some ?_ | refine x_ext (by rfl) (by rfl) (by rfl) ?_ | refine x_pickT (by rfl) (by rfl) (by rfl) ?_ | refine x_pickF (by rfl) (by rfl) (by rfl) ?_ | refine x_add (by rfl) (by rfl) (by rfl) (by omega) ?_ | refine x_sub (by rfl) (by rfl) (by rfl) (by omega) ?_ | refine x_not (by rfl) (by rfl) ?_)
      refine q_call (v := .bool true) (by rfl) (by rfl) (by rfl) (fun w' hw' => (stays_ m (L' m).length (r1.at (u14.trans hw')) (r2.at (u14.trans hw')) lm).mono fun v w'' h => ⟨h.1, hw'.trans h.2⟩) ?_
      repeat (first | refine x_move (by rfl) ?_ | refine x_as (by rfl) (by rfl) ?_ | refine x_skip (by rfl) ?_ | refine x_fld (by rfl) (by rfl) FldO.h ?_ | refine x_nilck (by rfl) (by rfl) ?_ | refine x_len (by rfl) (by rfl) ElOf.some ?_ | refine x_ext (by rfl) (by rfl) (by rfl) ?_ | refine x_pickT (by rfl) (by rfl) (by rfl) ?_ | refine x_pickF (by rfl) (by rfl) (by rfl) ?_ | refine x_add (by rfl) (by rfl) (by rfl) (by omega) ?_ | refine x_sub (by rfl) (by rfl) (by rfl) (by omega) ?_ | refine x_not (by rfl) (by rfl) ?_)
      refine x_idx m (by rfl) (by rfl) (by rfl) ElSz.h rfl hm' ?_
      refine q_load (v := V' m) (by rfl) (by rfl) (by rfl) (fun w' hw' => load_one_cell OneT.h (rd_cell (v := V' m) (j := 0) encV_len (ro.at (u14.trans hw')) (vals_get hm') rfl (by rw [vals_len]) rfl)) ?_
      repeat (first | refine x_move (by rfl) ?_ | refine x_as (by rfl) (by rfl) ?_ | refine x_skip (by rfl) ?_ | refine x_fld (by rfl) (by rfl) FldO.h ?_ | refine x_nilck (by rfl) (by rfl) ?_ | refine x_len (by rfl) (by rfl) ElOf.some ?_ | refine x_ext (by rfl) (by rfl) (by rfl) ?_ | refine x_pickT (by rfl) (by rfl) (by rfl) ?_ | refine x_pickF (by rfl) (by rfl) (by rfl) ?_ | refine x_add (by rfl) (by rfl) (by rfl) (by omega) ?_ | refine x_sub (by rfl) (by rfl) (by rfl) (by omega) ?_ | refine x_not (by rfl) (by rfl) ?_)
      refine x_idx m (by rfl) (by rfl) (by rfl) ElSz.h rfl hm' ?_
      refine q_load (v := T' m) (by rfl) (by rfl) (by rfl) (fun w' hw' => load_one_cell OneT.h (rd_cell (v := T' m) (j := 0) encV_len (rt.at (u14.trans hw')) (vals_get hm') rfl (by rw [vals_len]) rfl)) ?_
      refine q_call (v := .bool true) (by rfl) (by rfl) (by rfl) (fun w' hw' => (LEv.same (r3.at (u14.trans hw')) (r4.at (u14.trans hw')) (by omega)).mono fun v w'' h => ⟨h.1, hw'.trans h.2⟩) ?_
      repeat (first | refine x_move (by rfl) ?_ | refine x_as (by rfl) (by rfl) ?_ | refine x_skip (by rfl) ?_ | refine x_fld (by rfl) (by rfl) FldO.h ?_ | refine x_nilck (by rfl) (by rfl) ?_ | refine x_len (by rfl) (by rfl) ElOf.some ?_ | refine x_ext (by rfl) (by rfl) (by rfl) ?_ | refine x_pickT (by rfl) (by rfl) (by rfl) ?_ | refine x_pickF (by rfl) (by rfl) (by rfl) ?_ | refine x_add (by rfl) (by rfl) (by rfl) (by omega) ?_ | refine x_sub (by rfl) (by rfl) (by rfl) (by omega) ?_ | refine x_not (by rfl) (by rfl) ?_)
      refine x_nil fun w15 u15 => ?_
      (repeat (first | refine swp_seq ?_ | refine swp_block ?_))
      refine swp_false (by rfl) (swp_skip ?_)
      (repeat (first | with_reducible refine n_then ?_ | with_reducible refine n_block ?_ | with_reducible refine n_jump ?_))
      (repeat (first | refine swp_seq ?_ | refine swp_block ?_)); refine swp_region (by kernel_rfl) ?_
      repeat (first | refine x_move (by rfl) ?_ | refine x_as (by rfl) (by rfl) ?_ | refine x_skip (by rfl) ?_ | refine x_fld (by rfl) (by rfl) FldO.h ?_ | refine w_load (by rfl) (by rfl) (load_one OneT.h (by assumption) (by rfl)) ?_ | refine x_nilck (by rfl) (by rfl) ?_ | refine x_len (by rfl) (by rfl) ElOf.some ?_ | refine x_iface (by rfl) (by rfl) NIf.h ?_ | refine x_ext (by rfl) (by rfl) (by rfl) ?_ | refine x_pickT (by rfl) (by rfl) (by rfl) ?_ | refine x_pickF (by rfl) (by rfl) (by rfl) ?_ | refine x_add (by rfl) (by rfl) (by rfl) (by omega) ?_ | refine x_sub (by rfl) (by rfl) (by rfl) (by omega) ?_ | refine x_lss (by rfl) (by rfl) (by rfl) ?_ | refine x_geq (by rfl) (by rfl) (by rfl) ?_ | refine x_leq (by rfl) (by rfl) (by rfl) ?_ | refine x_gtr (by rfl) (by rfl) (by rfl) ?_ | refine x_eql (by rfl) (by rfl) (by rfl) ?_ | refine x_neq (by rfl) (by rfl) (by rfl) ?_ | refine x_not (by rfl) (by rfl) ?_)
      refine x_nilw ?_
      exact ⟨m + 1, ⟨at_ ⟨rfl, rfl, rfl, rfl, rfl, rfl, rfl, rfl, trivial⟩, hm', u14.trans u15⟩, by omega⟩
    · refine swp_exit ?_; (repeat (first | with_reducible refine e_then ?_ | with_reducible refine e_jump ?_)); refine e_block ?_; (repeat (first | with_reducible refine n_then ?_ | with_reducible refine n_block ?_ | with_reducible refine n_jump ?_))
      (repeat (first | refine swp_seq ?_ | refine swp_block ?_)); refine swp_region (by kernel_rfl) ?_
      repeat (first | refine x_move (by rfl) ?_ | refine x_as (by rfl) (by rfl) ?_ | refine x_skip (by rfl) ?_ | refine x_fld (by rfl) (by rfl) FldO.h ?_ | refine w_load (by rfl) (by rfl) (load_one OneT.h (by assumption) (by rfl)) ?_ | refine x_nilck (by rfl) (by rfl) ?_ | refine x_len (by rfl) (by rfl) ElOf.some ?_ | refine x_iface (by rfl) (by rfl) NIf.h ?_ | refine x_ext (by rfl) (by rfl) (by rfl) ?_ | refine x_pickT (by rfl) (by rfl) (by rfl) ?_ | refine x_pickF (by rfl) (by rfl) (by rfl) ?_ | refine x_add (by rfl) (by rfl) (by rfl) (by omega) ?_ | refine x_sub (by rfl) (by rfl) (by rfl) (by omega) ?_ | refine x_lss (by rfl) (by rfl) (by rfl) ?_ | refine x_geq (by rfl) (by rfl) (by rfl) ?_ | refine x_leq (by rfl) (by rfl) (by rfl) ?_ | refine x_gtr (by rfl) (by rfl) (by rfl) ?_ | refine x_eql (by rfl) (by rfl) (by rfl) ?_ | refine x_neq (by rfl) (by rfl) (by rfl) ?_ | refine x_not (by rfl) (by rfl) ?_)
      refine x_nilw ?_
      exact ⟨i + 1, ⟨sp1, sq2, N1, M2, G', _, _, _, V', T', O', Mo', L', at_ ⟨rfl, rfl, rfl, rfl, rfl, rfl, rfl, trivial⟩, hi', ok', by omega, by omega, hL', R17.ext u14⟩, by omega⟩
  · have hin : i = ops.length := by omega
    have hS := ok.len'
    have hi0 : i * 112 ≤ 140737488351232 := by omega
    clear hN hM hc hl1 hi h1 h2 hin hN9 hr2
    refine swp_exit ?_; (repeat (first | with_reducible refine e_then ?_ | with_reducible refine e_jump ?_)); refine e_block ?_; (repeat (first | with_reducible refine n_then ?_ | with_reducible refine n_block ?_ | with_reducible refine n_jump ?_))
    refine swp_fit [(5, .pointer (some ⟨bg, 0, none⟩)), (7, .pointer (some ⟨bh, 0, none⟩)), (15, otv)] ⟨rfl, rfl, rfl, trivial⟩ fun ρ => ?_
    (repeat (first | refine swp_seq ?_ | refine swp_block ?_)); refine swp_region (by kernel_rfl) ?_
    repeat (first | refine x_move (by rfl) ?_ | refine x_as (by rfl) (by rfl) ?_ | refine x_skip (by rfl) ?_ | refine x_fld (by rfl) (by rfl) FldO.h ?_ | refine x_nilck (by rfl) (by rfl) ?_ | refine x_len (by rfl) (by rfl) ElOf.some ?_ | refine x_ext (by rfl) (by rfl) (by rfl) ?_ | refine x_pickT (by rfl) (by rfl) (by rfl) ?_ | refine x_pickF (by rfl) (by rfl) (by rfl) ?_ | refine x_add (by rfl) (by rfl) (by rfl) (by omega) ?_ | refine x_sub (by rfl) (by rfl) (by rfl) (by omega) ?_ | refine x_not (by rfl) (by rfl) ?_)
    refine w_call (by rfl) (by rfl) (by rfl) (g_held (show Gt w1 bh rh bq sq G M from R.nth (i := 1) rfl) hS) ?_
    rintro one w2 ⟨own2, n2, u2⟩
    repeat (first | refine x_move (by rfl) ?_ | refine x_as (by rfl) (by rfl) ?_ | refine x_skip (by rfl) ?_ | refine x_fld (by rfl) (by rfl) FldO.h ?_ | refine x_nilck (by rfl) (by rfl) ?_ | refine x_len (by rfl) (by rfl) ElOf.some ?_ | refine x_ext (by rfl) (by rfl) (by rfl) ?_ | refine x_pickT (by rfl) (by rfl) (by rfl) ?_ | refine x_pickF (by rfl) (by rfl) (by rfl) ?_ | refine x_add (by rfl) (by rfl) (by rfl) (by omega) ?_ | refine x_sub (by rfl) (by rfl) (by rfl) (by omega) ?_ | refine x_not (by rfl) (by rfl) ?_)
    refine x_nilw ?_
    have R2 := R.new (a := aEv one G.S) u2 own2 n2
    (repeat (first | refine swp_seq ?_ | refine swp_block ?_)); refine swp_region (by kernel_rfl) ?_
    repeat (first | refine x_move (by rfl) ?_ | refine x_as (by rfl) (by rfl) ?_ | refine x_skip (by rfl) ?_ | refine x_fld (by rfl) (by rfl) FldO.h ?_ | refine x_nilck (by rfl) (by rfl) ?_ | refine x_len (by rfl) (by rfl) ElOf.some ?_ | refine x_ext (by rfl) (by rfl) (by rfl) ?_ | refine x_pickT (by rfl) (by rfl) (by rfl) ?_ | refine x_pickF (by rfl) (by rfl) (by rfl) ?_ | refine x_add (by rfl) (by rfl) (by rfl) (by omega) ?_ | refine x_sub (by rfl) (by rfl) (by rfl) (by omega) ?_ | refine x_not (by rfl) (by rfl) ?_)
    refine w_call (by rfl) (by rfl) (by rfl) (g_held (show Gt w2 bh rh bq sq G M from R2.nth (i := 2) rfl) hS) ?_
    rintro two w3 ⟨own3, n3, u3⟩
    repeat (first | refine x_move (by rfl) ?_ | refine x_as (by rfl) (by rfl) ?_ | refine x_skip (by rfl) ?_ | refine x_fld (by rfl) (by rfl) FldO.h ?_ | refine x_nilck (by rfl) (by rfl) ?_ | refine x_len (by rfl) (by rfl) ElOf.some ?_ | refine x_ext (by rfl) (by rfl) (by rfl) ?_ | refine x_pickT (by rfl) (by rfl) (by rfl) ?_ | refine x_pickF (by rfl) (by rfl) (by rfl) ?_ | refine x_add (by rfl) (by rfl) (by rfl) (by omega) ?_ | refine x_sub (by rfl) (by rfl) (by rfl) (by omega) ?_ | refine x_not (by rfl) (by rfl) ?_)
    refine x_nilw ?_
    have R3 : Rg w w3 [aEv two G.S, aEv one G.S, aGt bg r bp sp G N, aGt bh rh bq sq G M, aOwn 63 2 (.slice ba i bc) i (fl encK (kepts i O Mo)), aOwn 32 1 otv i (fl encV (vals i V)), aOwn 32 1 twv i (fl encV (vals i T)), bkf i O Mo L, lsf i V L, lsf i T L] := R2.new (a := aEv two G.S) u3 own3 n3
    have sl2 := own2.slice
    have sl3 := own3.slice
    obtain ⟨oa, oc, hone⟩ := sl2
    obtain ⟨ta, tc, htwo⟩ := sl3
    clear R R2 own2 n2 u2 own3 n3 u3
    have rone := (show Own w3 30 11 one G.S.length (fl Ev.cells G.S) from R3.nth (i := 1) rfl).rd
    rw [hone] at rone
    (repeat (first | refine swp_seq ?_ | refine swp_block ?_)); refine swp_region (by kernel_rfl) ?_
    refine w_bslice0 (e := 30) (by rfl) (by rfl) Try.underlying32 (by kernel_rfl) ?_
    intro b7 w7 e7 u7 h7
    repeat (first | refine x_move (by rfl) ?_ | refine x_as (by rfl) (by rfl) ?_ | refine x_skip (by rfl) ?_ | refine x_fld (by rfl) (by rfl) FldO.h ?_ | refine x_nilck (by rfl) (by rfl) ?_ | refine x_len (by rfl) (by rfl) ElOf.some ?_ | refine x_ext (by rfl) (by rfl) (by rfl) ?_ | refine x_pickT (by rfl) (by rfl) (by rfl) ?_ | refine x_pickF (by rfl) (by rfl) (by rfl) ?_ | refine x_add (by rfl) (by rfl) (by rfl) (by omega) ?_ | refine x_sub (by rfl) (by rfl) (by rfl) (by omega) ?_ | refine x_not (by rfl) (by rfl) ?_)
    have own7 : Own w7 30 11 (.slice (some ⟨b7, 0, none⟩) 0 0) 0 [] := Own.of (rest := []) rfl h7 (by omega) (by simp [maxLen]) rfl
    refine w_appendR (by rfl) (by rfl) (by rfl) (by exact hone) SlC.h own7 (rone.at u7) (PEv.fl_one' ev_one G.S) (room88 (by omega)) ?_
    intro was w8 own8 u8 hin8
    repeat (first | refine x_move (by rfl) ?_ | refine x_as (by rfl) (by rfl) ?_ | refine x_skip (by rfl) ?_ | refine x_fld (by rfl) (by rfl) FldO.h ?_ | refine x_nilck (by rfl) (by rfl) ?_ | refine x_len (by rfl) (by rfl) ElOf.some ?_ | refine x_ext (by rfl) (by rfl) (by rfl) ?_ | refine x_pickT (by rfl) (by rfl) (by rfl) ?_ | refine x_pickF (by rfl) (by rfl) (by rfl) ?_ | refine x_add (by rfl) (by rfl) (by rfl) (by omega) ?_ | refine x_sub (by rfl) (by rfl) (by rfl) (by omega) ?_ | refine x_not (by rfl) (by rfl) ?_)
    refine x_nilw ?_
    rw [Nat.zero_add, List.nil_append] at own8
    have hb7 : ∀ b, isIn (.slice (some ⟨b7, 0, none⟩) 0 0) b → b = b7 := fun b hb => hb
    have z7 := u7.size
    have u38 : Ext w3 w8 := u7.trans' u8 fun b hb hf => by have := hb7 b hf; omega
    have R8 : Rg w w8 [aEv was G.S, aEv two G.S, aEv one G.S, aGt bg r bp sp G N, aGt bh rh bq sq G M, aOwn 63 2 (.slice ba i bc) i (fl encK (kepts i O Mo)), aOwn 32 1 otv i (fl encV (vals i V)), aOwn 32 1 twv i (fl encV (vals i T)), bkf i O Mo L, lsf i V L, lsf i T L] := R3.new (a := aEv was G.S) u38 own8 fun b hb => (hin8 b hb).elim (fun h => by have := hb7 b h; omega) fun h => by omega
    clear own7 own8 u8 hin8 u38 R3 h7 u7
    refine swp_fit [(5, .pointer (some ⟨bg, 0, none⟩)), (7, .pointer (some ⟨bh, 0, none⟩)), (15, otv), (21, one), (22, two), (23, was)] ⟨rfl, rfl, rfl, rfl, rfl, rfl, trivial⟩ fun ρ => ?_
    (repeat (first | refine swp_seq ?_ | refine swp_block ?_)); refine swp_region (by kernel_rfl) ?_
    repeat (first | refine x_move (by rfl) ?_ | refine x_as (by rfl) (by rfl) ?_ | refine x_skip (by rfl) ?_ | refine x_fld (by rfl) (by rfl) FldO.h ?_ | refine x_nilck (by rfl) (by rfl) ?_ | refine x_len (by rfl) (by rfl) ElOf.some ?_ | refine x_ext (by rfl) (by rfl) (by rfl) ?_ | refine x_pickT (by rfl) (by rfl) (by rfl) ?_ | refine x_pickF (by rfl) (by rfl) (by rfl) ?_ | refine x_add (by rfl) (by rfl) (by rfl) (by omega) ?_ | refine x_sub (by rfl) (by rfl) (by rfl) (by omega) ?_ | refine x_not (by rfl) (by rfl) ?_)
    refine w_call (by rfl) (by rfl) (by rfl) (g_held (show Gt w8 bg r bp sp G N from R8.nth (i := 3) rfl) hS) ?_
    rintro v9 w9 ⟨own9, -, u9⟩
    repeat (first | refine x_move (by rfl) ?_ | refine x_as (by rfl) (by rfl) ?_ | refine x_skip (by rfl) ?_ | refine x_fld (by rfl) (by rfl) FldO.h ?_ | refine x_nilck (by rfl) (by rfl) ?_ | refine x_len (by rfl) (by rfl) ElOf.some ?_ | refine x_ext (by rfl) (by rfl) (by rfl) ?_ | refine x_pickT (by rfl) (by rfl) (by rfl) ?_ | refine x_pickF (by rfl) (by rfl) (by rfl) ?_ | refine x_add (by rfl) (by rfl) (by rfl) (by omega) ?_ | refine x_sub (by rfl) (by rfl) (by rfl) (by omega) ?_ | refine x_not (by rfl) (by rfl) ?_)
    refine w_call (by rfl) (by rfl) (by rfl) (LEv.same own9.rd ((show Own w8 30 11 was G.S.length (fl Ev.cells G.S) from R8.nth (i := 0) rfl).rd.at u9) (by omega)) ?_
    rintro _ w10 ⟨rfl, u10⟩
    have R10 := R8.ext (u9.trans u10)
    repeat (first | refine x_move (by rfl) ?_ | refine x_as (by rfl) (by rfl) ?_ | refine x_skip (by rfl) ?_ | refine x_fld (by rfl) (by rfl) FldO.h ?_ | refine x_nilck (by rfl) (by rfl) ?_ | refine x_len (by rfl) (by rfl) ElOf.some ?_ | refine x_ext (by rfl) (by rfl) (by rfl) ?_ | refine x_pickT (by rfl) (by rfl) (by rfl) ?_ | refine x_pickF (by rfl) (by rfl) (by rfl) ?_ | refine x_add (by rfl) (by rfl) (by rfl) (by omega) ?_ | refine x_sub (by rfl) (by rfl) (by rfl) (by omega) ?_ | refine x_not (by rfl) (by rfl) ?_)
    refine w_call (by rfl) (by rfl) (by rfl) (LEv.same (show Own w10 30 11 two G.S.length (fl Ev.cells G.S) from R10.nth (i := 1) rfl).rd (show Own w10 30 11 was G.S.length (fl Ev.cells G.S) from R10.nth (i := 0) rfl).rd (by omega)) ?_
    rintro _ w11 ⟨rfl, u11⟩
    have R11 := R10.ext u11
    repeat (first | refine x_move (by rfl) ?_ | refine x_as (by rfl) (by rfl) ?_ | refine x_skip (by rfl) ?_ | refine x_fld (by rfl) (by rfl) FldO.h ?_ | refine x_nilck (by rfl) (by rfl) ?_ | refine x_len (by rfl) (by rfl) ElOf.some ?_ | refine x_ext (by rfl) (by rfl) (by rfl) ?_ | refine x_pickT (by rfl) (by rfl) (by rfl) ?_ | refine x_pickF (by rfl) (by rfl) (by rfl) ?_ | refine x_add (by rfl) (by rfl) (by rfl) (by omega) ?_ | refine x_sub (by rfl) (by rfl) (by rfl) (by omega) ?_ | refine x_not (by rfl) (by rfl) ?_)
    refine w_bslice (e := 32) (cs := [one, two]) (by rfl) (by rfl) (by rfl) (by rw [hone, htwo]; kernel_rfl) ?_
    intro b12 w12 _ u12 h12
    have R12 := R11.ext u12
    refine w_append (more := []) (news := [one, two]) (by rfl) (by rfl) (by rfl) (by rfl) SlC.h (show Own w12 32 1 otv i (fl encV (vals i V)) from R12.nth (i := 6) rfl) (by rw [List.append_nil]; exact h12) (by rfl) (by rw [hone, htwo]; rfl) (by omega) ⟨by omega, by omega⟩ ?_
    intro otv' w13 own13 u13 hin13
    have own13' : Own w13 32 1 otv' (i + 1 + 1) (fl encV (vals (i + 1 + 1) (set1 (set1 V i one) (i + 1) two))) := by
      rw [← vals_snoc, ← vals_snoc, fl_append, fl_append, fl_one, fl_one, List.append_assoc]
      exact own13
    have R13 : Rg w w13 [aEv was G.S, aEv two G.S, aEv one G.S, aGt bg r bp sp G N, aGt bh rh bq sq G M, aOwn 63 2 (.slice ba i bc) i (fl encK (kepts i O Mo)), aOwn 32 1 otv' (i + 1 + 1) (fl encV (vals (i + 1 + 1) (set1 (set1 V i one) (i + 1) two))), aOwn 32 1 twv i (fl encV (vals i T)), bkf i O Mo L, lsf i V L, lsf i T L] := R12.upd (i := 6) (a' := aOwn 32 1 otv' (i + 1 + 1) (fl encV (vals (i + 1 + 1) (set1 (set1 V i one) (i + 1) two)))) rfl u13 (fun b _ e => e) own13' hin13
    clear R8 R10 R11 R12 own13 own13' u13 hin13 h12 u12 u11 u10 u9 own9
    have R14 := (show Rg w w13 (aEv one G.S :: _) from R13.pull 2 rfl).twin.join (i := 8) (xs := fam i fun j => aTwin (V j) (V j) (L j) (L j)) rfl
    rw [lsf_snoc] at R14
    replace R14 : Rg w w13 [aEv was G.S, aEv two G.S, aGt bg r bp sp G N, aGt bh rh bq sq G M, aOwn 63 2 (.slice ba i bc) i (fl encK (kepts i O Mo)), aOwn 32 1 otv' (i + 1 + 1) (fl encV (vals (i + 1 + 1) (set1 (set1 V i one) (i + 1) two))), aOwn 32 1 twv i (fl encV (vals i T)), bkf i O Mo L, lsf (i + 1) (set1 V i one) (set1 L i G.S), lsf i T L] := R14
    have R15 := (show Rg w w13 (aEv two G.S :: _) from R14.pull 1 rfl).twin.join (i := 7) (xs := fam (i + 1) fun j => aTwin (set1 V i one j) (set1 V i one j) (set1 L i G.S j) (set1 L i G.S j)) rfl
    rw [lsf_snoc] at R15
    replace R15 : Rg w w13 [aEv was G.S, aGt bg r bp sp G N, aGt bh rh bq sq G M, aOwn 63 2 (.slice ba i bc) i (fl encK (kepts i O Mo)), aOwn 32 1 otv' (i + 1 + 1) (fl encV (vals (i + 1 + 1) (set1 (set1 V i one) (i + 1) two))), aOwn 32 1 twv i (fl encV (vals i T)), bkf i O Mo L, lsf (i + 1 + 1) (set1 (set1 V i one) (i + 1) two) (set1 (set1 L i G.S) (i + 1) G.S), lsf i T L] := R15
    have R16 : Rg w w13 [lsf (i + 1 + 1) (set1 (set1 V i one) (i + 1) two) (set1 (set1 L i G.S) (i + 1) G.S), aOwn 32 1 otv' (i + 1 + 1) (fl encV (vals (i + 1 + 1) (set1 (set1 V i one) (i + 1) two))), aEv was G.S, aGt bg r bp sp G N, aGt bh rh bq sq G M, aOwn 63 2 (.slice ba i bc) i (fl encK (kepts i O Mo)), aOwn 32 1 twv i (fl encV (vals i T)), bkf i O Mo L, lsf i T L] := (R15.pull 4 rfl).pull 7 rfl
    have s16 : Star w13 [lsf (i + 1 + 1) (set1 (set1 V i one) (i + 1) two) (set1 (set1 L i G.S) (i + 1) G.S), aOwn 32 1 otv' (i + 1 + 1) (fl encV (vals (i + 1 + 1) (set1 (set1 V i one) (i + 1) two)))] := R16.front (sq := [lsf (i + 1 + 1) (set1 (set1 V i one) (i + 1) two) (set1 (set1 L i G.S) (i + 1) G.S), aOwn 32 1 otv' (i + 1 + 1) (fl encV (vals (i + 1 + 1) (set1 (set1 V i one) (i + 1) two)))])
    clear R13 R14 R15
    refine w_call (by rfl) (by rfl) (by rfl) (apart_ (i + 1 + 1) (set1 (set1 V i one) (i + 1) two) (set1 (set1 L i G.S) (i + 1) G.S) s16 (by omega) ⟨by omega, by omega⟩ fun j hj => ?_) ?_
    · by_cases e : j = i + 1
      · subst e
        rw [set1_eq]
        exact hS
      · rw [set1_ne _ _ e]
        by_cases e' : j = i
        · subst e'
          rw [set1_eq]
          exact hS
        · rw [set1_ne _ _ e']
          exact hL j (by omega)
    rintro _ w14 ⟨rfl, u14⟩
    have R17 := R16.spend u14 fun b _ ⟨j, hj, hb⟩ => apf_in hj (.inl hb)
    clear R16 s16 u14
    repeat (first | refine x_move (by rfl) ?_ | refine x_as (by rfl) (by rfl) ?_ | refine x_skip (by rfl) ?_ | refine x_fld (by rfl) (by rfl) FldO.h ?_ | refine x_nilck (by rfl) (by rfl) ?_ | refine x_len (by rfl) (by rfl) ElOf.some ?_ | refine x_ext (by rfl) (by rfl) (by rfl) ?_ | refine x_pickT (by rfl) (by rfl) (by rfl) ?_ | refine x_pickF (by rfl) (by rfl) (by rfl) ?_ | refine x_add (by rfl) (by rfl) (by rfl) (by omega) ?_ | refine x_sub (by rfl) (by rfl) (by rfl) (by omega) ?_ | refine x_not (by rfl) (by rfl) ?_)
    refine x_nilw ?_
    (repeat (first | refine swp_seq ?_ | refine swp_block ?_))
    refine swp_false (by rfl) (swp_skip ?_)
    (repeat (first | with_reducible refine n_then ?_ | with_reducible refine n_block ?_ | with_reducible refine n_jump ?_))
    (repeat (first | refine swp_seq ?_ | refine swp_block ?_)); refine swp_region (by kernel_rfl) ?_
    repeat (first | refine x_move (by rfl) ?_ | refine x_as (by rfl) (by rfl) ?_ | refine x_skip (by rfl) ?_ | refine x_fld (by rfl) (by rfl) FldO.h ?_ | refine x_nilck (by rfl) (by rfl) ?_ | refine x_len (by rfl) (by rfl) ElOf.some ?_ | refine x_ext (by rfl) (by rfl) (by rfl) ?_ | refine x_pickT (by rfl) (by rfl) (by rfl) ?_ | refine x_pickF (by rfl) (by rfl) (by rfl) ?_ | refine x_add (by rfl) (by rfl) (by rfl) (by omega) ?_ | refine x_sub (by rfl) (by rfl) (by rfl) (by omega) ?_ | refine x_not (by rfl) (by rfl) ?_)
    refine w_call (by rfl) (by rfl) (by rfl) (g_held (show Gt w14 bh rh bq sq G M from R17.nth (i := 3) rfl) hS) ?_
    rintro v15 w15 ⟨own15, -, u15⟩
    repeat (first | refine x_move (by rfl) ?_ | refine x_as (by rfl) (by rfl) ?_ | refine x_skip (by rfl) ?_ | refine x_fld (by rfl) (by rfl) FldO.h ?_ | refine x_nilck (by rfl) (by rfl) ?_ | refine x_len (by rfl) (by rfl) ElOf.some ?_ | refine x_ext (by rfl) (by rfl) (by rfl) ?_ | refine x_pickT (by rfl) (by rfl) (by rfl) ?_ | refine x_pickF (by rfl) (by rfl) (by rfl) ?_ | refine x_add (by rfl) (by rfl) (by rfl) (by omega) ?_ | refine x_sub (by rfl) (by rfl) (by rfl) (by omega) ?_ | refine x_not (by rfl) (by rfl) ?_)
    refine w_call (by rfl) (by rfl) (by rfl) (LEv.same own15.rd ((show Own w14 30 11 was G.S.length (fl Ev.cells G.S) from R17.nth (i := 1) rfl).rd.at u15) (by omega)) ?_
    rintro _ w16 ⟨rfl, u16⟩
    repeat (first | refine x_move (by rfl) ?_ | refine x_as (by rfl) (by rfl) ?_ | refine x_skip (by rfl) ?_ | refine x_fld (by rfl) (by rfl) FldO.h ?_ | refine x_nilck (by rfl) (by rfl) ?_ | refine x_len (by rfl) (by rfl) ElOf.some ?_ | refine x_ext (by rfl) (by rfl) (by rfl) ?_ | refine x_pickT (by rfl) (by rfl) (by rfl) ?_ | refine x_pickF (by rfl) (by rfl) (by rfl) ?_ | refine x_add (by rfl) (by rfl) (by rfl) (by omega) ?_ | refine x_sub (by rfl) (by rfl) (by rfl) (by omega) ?_ | refine x_not (by rfl) (by rfl) ?_)
    refine x_nilw ?_
    refine swp_ret ?_; (repeat (first | with_reducible refine r_then ?_ | with_reducible refine r_block ?_ | with_reducible refine r_jump ?_))
    exact post1 rfl rfl ⟨_, rfl, rfl, (R17.u.trans u15).trans u16⟩
end Go.Proofs.Ytnhecopgecoloaa
