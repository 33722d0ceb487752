/- A pair goes on by Restore. Conditions: none. -/
import Derived.Test.YtnhecopgecoloaaGq
namespace Go.Proofs.Ytnhecopgecoloaa
open Hp Sx
section
variable {dr : Bool} {P : Program} {ops : Array Oper} {W : List Nat} {Q : Fr → World → Prop} {k : Nat} {rest : List Oper} {σ : Fr} {C : World → Prop} {d : Nat} {ty : TypeId} {pos : String} {after : Array Edge} {guard : Option (Nat × Bool)}
/-- A call that only makes memory, ahead of loads. -/
theorem f_call {f : FuncId} {args : Array Operand} {ats : Array TypeId} {vs : List Value} {R : World → Value → World → Prop} (hF : isF dr W k (.call ⟨.value (.func f), args, ats⟩) = true) (hw : wantS ops σ ⟨some d, .call ⟨.value (.func f), args, ats⟩, ty, pos, after, guard⟩ = true)
    (hvs : args.toList.map (ev σ) = vs) (hC : ∀ w w', C w → Ext w w' → C w') (hf : ∀ w, C w → Gets P f vs w (R w)) (hR : ∀ w v w', R w v w' → Ext w w') (h : ∀ w v w', C w → R w v w' → xw dr P ops W Q (k + 1) rest (upd σ d v) (Ext w')) : xw dr P ops W Q k (⟨some d, .call ⟨.value (.func f), args, ats⟩, ty, pos, after, guard⟩ :: rest) σ C :=
  x_f hw rfl hF hC fun w hCw => steps_call rfl hvs (hf w hCw) fun v w' hr => ⟨hR w v w' hr, h w v w' hCw hr⟩
end

set_option maxHeartbeats 1000000 in
set_option maxRecDepth 100000 in
theorem restored {w : World} {pb bg r bp bm N : Nat} {sp sl : Value} {g : GS} (p : PaL w pb bg r bp sp bm sl g N) : Gets Try.prog 52 [.pointer (some ⟨pb, 0, none⟩)] w fun v w' =>
    v = .bool true ∧ Left w w' pb (pfoot pb bg r bp sp bm sl) 4096 := by
  have hl := p.ok.len'
  refine ⟨GoFn.h, calls_of_swp 38 Try.func52 Try.ntmps52 rfl (Nat.le_of_ble_eq_true rfl) ?_⟩
  (repeat (first | refine swp_seq ?_ | refine swp_block ?_)); refine swp_region (by kernel_rfl) ?_
  repeat (first | refine x_move (by rfl) ?_ | refine x_as (by rfl) (by rfl) ?_ | refine x_skip (by rfl) ?_ | refine x_fld (by rfl) (by rfl) FldO.h ?_ | refine x_nilck (by rfl) (by rfl) ?_ | refine x_len (by rfl) (by rfl) ElOf.some ?_ | refine x_ext (by rfl) (by rfl) (by rfl) ?_ | refine x_pickT (by rfl) (by rfl) (by rfl) ?_ | refine x_pickF (by rfl) (by rfl) (by rfl) ?_ | refine x_add (by rfl) (by rfl) (by rfl) (by omega) ?_ | refine x_sub (by rfl) (by rfl) (by rfl) (by omega) ?_ | refine x_not (by rfl) (by rfl) ?_)
  refine x_nilw ?_
  (repeat (first | refine swp_seq ?_ | refine swp_block ?_)); refine swp_draw (Ext w) [18, 1018, 19] Mixed.h (by kernel_rfl) (by kernel_rfl) (ext_drew w) ?_
  repeat (first | refine x_move (by rfl) ?_ | refine x_as (by rfl) (by rfl) ?_ | refine x_skip (by rfl) ?_ | refine x_fld (by rfl) (by rfl) FldO.h ?_ | refine x_nilck (by rfl) (by rfl) ?_ | refine x_len (by rfl) (by rfl) ElOf.some ?_ | refine x_ext (by rfl) (by rfl) (by rfl) ?_ | refine x_pickT (by rfl) (by rfl) (by rfl) ?_ | refine x_pickF (by rfl) (by rfl) (by rfl) ?_ | refine x_add (by rfl) (by rfl) (by rfl) (by omega) ?_ | refine x_sub (by rfl) (by rfl) (by rfl) (by omega) ?_ | refine x_not (by rfl) (by rfl) ?_)
  refine q_load (v := .int .i64 g.cap) (by rfl) (by rfl) (by rfl) (fun w' hw' => load_one OneT.h (p.blk.at hw') (by rfl)) ?_
  repeat (first | refine x_move (by rfl) ?_ | refine x_as (by rfl) (by rfl) ?_ | refine x_skip (by rfl) ?_ | refine x_fld (by rfl) (by rfl) FldO.h ?_ | refine x_nilck (by rfl) (by rfl) ?_ | refine x_len (by rfl) (by rfl) ElOf.some ?_ | refine x_ext (by rfl) (by rfl) (by rfl) ?_ | refine x_pickT (by rfl) (by rfl) (by rfl) ?_ | refine x_pickF (by rfl) (by rfl) (by rfl) ?_ | refine x_add (by rfl) (by rfl) (by rfl) (by omega) ?_ | refine x_sub (by rfl) (by rfl) (by rfl) (by omega) ?_ | refine x_not (by rfl) (by rfl) ?_)
  refine q_load (v := .pointer (some ⟨bg, 0, none⟩)) (by rfl) (by rfl) (by rfl) (fun w' hw' => load_one OneT.h (p.blk.at hw') (by rfl)) ?_
  refine q_call (v := .int .i64 g.mark) (by rfl) (by rfl) (by rfl) (fun w' hw' => (g_mark (p.gt.at hw')).mono fun v w'' h => ⟨h.1, h.2 ▸ hw'⟩) ?_
  repeat (first | refine x_move (by rfl) ?_ | refine x_as (by rfl) (by rfl) ?_ | refine x_skip (by rfl) ?_ | refine x_fld (by rfl) (by rfl) FldO.h ?_ | refine x_nilck (by rfl) (by rfl) ?_ | refine x_len (by rfl) (by rfl) ElOf.some ?_ | refine x_ext (by rfl) (by rfl) (by rfl) ?_ | refine x_pickT (by rfl) (by rfl) (by rfl) ?_ | refine x_pickF (by rfl) (by rfl) (by rfl) ?_ | refine x_add (by rfl) (by rfl) (by rfl) (by omega) ?_ | refine x_sub (by rfl) (by rfl) (by rfl) (by omega) ?_ | refine x_not (by rfl) (by rfl) ?_)
  refine q_load (v := .pointer (some ⟨bg, 0, none⟩)) (by rfl) (by rfl) (by rfl) (fun w' hw' => load_one OneT.h (p.blk.at hw') (by rfl)) ?_
  refine q_call (v := .bool g.shut) (by rfl) (by rfl) (by rfl) (fun w' hw' => (g_closed (p.gt.at hw')).mono fun v w'' h => ⟨h.1, h.2 ▸ hw'⟩) ?_
  repeat (first | refine x_move (by rfl) ?_ | refine x_as (by rfl) (by rfl) ?_ | refine x_skip (by rfl) ?_ | refine x_fld (by rfl) (by rfl) FldO.h ?_ | refine x_nilck (by rfl) (by rfl) ?_ | refine x_len (by rfl) (by rfl) ElOf.some ?_ | refine x_ext (by rfl) (by rfl) (by rfl) ?_ | refine x_pickT (by rfl) (by rfl) (by rfl) ?_ | refine x_pickF (by rfl) (by rfl) (by rfl) ?_ | refine x_add (by rfl) (by rfl) (by rfl) (by omega) ?_ | refine x_sub (by rfl) (by rfl) (by rfl) (by omega) ?_ | refine x_not (by rfl) (by rfl) ?_)
  refine q_load (v := .pointer (some ⟨bg, 0, none⟩)) (by rfl) (by rfl) (by rfl) (fun w' hw' => load_one OneT.h (p.blk.at hw') (by rfl)) ?_
  refine f_call (by rfl) (by rfl) (by rfl) (fun _ _ h u => Upd.trans h u) (fun w' hw' => g_held (p.gt.at hw') hl) (fun w' v w'' h => h.2.2) ?_
  rintro w1 lv w2 u1 ⟨own2, _, u2⟩
  refine x_fix (by rfl) (by rfl) (by rfl) fun w3 u3 => ?_
  refine w_call (by rfl) (by rfl) (by rfl) (g_restore g.cap g.mark g.shut (own2.rd.at u3) (by omega)) ?_
  rintro _ w4 ⟨code, hrc, hres⟩
  have u03 : Ext w w3 := (Upd.trans u1 u2).trans u3
  have s3 := u03.size
  have hgood : RC g.cap g.mark g.shut g.S 0 := .inr ⟨⟨p.ok.cap1, p.ok.cap⟩, .inr ⟨fun hb => ?_, .inr ⟨rfl, fun h => h.2 (p.ok2 h.1).2, p.ok.ris, p.ok.len, p.ok.ts⟩⟩⟩
  · have hcode := hrc.unique hgood
    rcases hres with ⟨h0, _⟩ | ⟨_, bg', r', bp', sp', N', rfl, g4, ok4, hN4, hf4, u4⟩
    · exact absurd hcode h0
    repeat (first | refine x_move (by rfl) ?_ | refine x_as (by rfl) (by rfl) ?_ | refine x_skip (by rfl) ?_ | refine x_fld (by rfl) (by rfl) FldO.h ?_ | refine x_nilck (by rfl) (by rfl) ?_ | refine x_len (by rfl) (by rfl) ElOf.some ?_ | refine x_ext (by rfl) (by rfl) (by rfl) ?_ | refine x_pickT (by rfl) (by rfl) (by rfl) ?_ | refine x_pickF (by rfl) (by rfl) (by rfl) ?_ | refine x_add (by rfl) (by rfl) (by rfl) (by omega) ?_ | refine x_sub (by rfl) (by rfl) (by rfl) (by omega) ?_ | refine x_not (by rfl) (by rfl) ?_)
    refine x_nilw ?_
    (repeat (first | refine swp_seq ?_ | refine swp_block ?_)); refine swp_region (by kernel_rfl) ?_
    repeat (first | refine x_move (by rfl) ?_ | refine x_as (by rfl) (by rfl) ?_ | refine x_skip (by rfl) ?_ | refine x_fld (by rfl) (by rfl) FldO.h ?_ | refine x_nilck (by rfl) (by rfl) ?_ | refine x_len (by rfl) (by rfl) ElOf.some ?_ | refine x_ext (by rfl) (by rfl) (by rfl) ?_ | refine x_pickT (by rfl) (by rfl) (by rfl) ?_ | refine x_pickF (by rfl) (by rfl) (by rfl) ?_ | refine x_add (by rfl) (by rfl) (by rfl) (by omega) ?_ | refine x_sub (by rfl) (by rfl) (by rfl) (by omega) ?_ | refine x_not (by rfl) (by rfl) ?_)
    refine x_neqF (by rfl) (by rfl) (by rfl) (fun h => h rfl) ?_
    repeat (first | refine x_move (by rfl) ?_ | refine x_as (by rfl) (by rfl) ?_ | refine x_skip (by rfl) ?_ | refine x_fld (by rfl) (by rfl) FldO.h ?_ | refine x_nilck (by rfl) (by rfl) ?_ | refine x_len (by rfl) (by rfl) ElOf.some ?_ | refine x_ext (by rfl) (by rfl) (by rfl) ?_ | refine x_pickT (by rfl) (by rfl) (by rfl) ?_ | refine x_pickF (by rfl) (by rfl) (by rfl) ?_ | refine x_add (by rfl) (by rfl) (by rfl) (by omega) ?_ | refine x_sub (by rfl) (by rfl) (by rfl) (by omega) ?_ | refine x_not (by rfl) (by rfl) ?_)
    refine x_eqlP Try.underlying22 (by rfl) (by rfl) (by rfl) ?_
    repeat (first | refine x_move (by rfl) ?_ | refine x_as (by rfl) (by rfl) ?_ | refine x_skip (by rfl) ?_ | refine x_fld (by rfl) (by rfl) FldO.h ?_ | refine x_nilck (by rfl) (by rfl) ?_ | refine x_len (by rfl) (by rfl) ElOf.some ?_ | refine x_ext (by rfl) (by rfl) (by rfl) ?_ | refine x_pickT (by rfl) (by rfl) (by rfl) ?_ | refine x_pickF (by rfl) (by rfl) (by rfl) ?_ | refine x_add (by rfl) (by rfl) (by rfl) (by omega) ?_ | refine x_sub (by rfl) (by rfl) (by rfl) (by omega) ?_ | refine x_not (by rfl) (by rfl) ?_)
    refine x_nilw ?_
    (repeat (first | refine swp_seq ?_ | refine swp_block ?_))
    refine swp_false (by rfl) (swp_skip ?_)
    (repeat (first | with_reducible refine n_then ?_ | with_reducible refine n_block ?_ | with_reducible refine n_jump ?_))
    have u04 := u03.trans u4
    (repeat (first | refine swp_seq ?_ | refine swp_block ?_)); refine swp_region (by kernel_rfl) ?_
    repeat (first | refine x_move (by rfl) ?_ | refine x_as (by rfl) (by rfl) ?_ | refine x_skip (by rfl) ?_ | refine x_fld (by rfl) (by rfl) FldO.h ?_ | refine x_nilck (by rfl) (by rfl) ?_ | refine x_len (by rfl) (by rfl) ElOf.some ?_ | refine x_ext (by rfl) (by rfl) (by rfl) ?_ | refine x_pickT (by rfl) (by rfl) (by rfl) ?_ | refine x_pickF (by rfl) (by rfl) (by rfl) ?_ | refine x_add (by rfl) (by rfl) (by rfl) (by omega) ?_ | refine x_sub (by rfl) (by rfl) (by rfl) (by omega) ?_ | refine x_not (by rfl) (by rfl) ?_)
    refine w_store (xs := [.pointer (some ⟨bg', 0, none⟩)]) (by rfl) (by rfl) (by rfl) (by rfl) SzT.h (by rfl) (by rfl) (p.blk.at u04) (by simp) ?_
    intro w5 u5 h5 _
    refine x_nilw ?_
    (repeat (first | refine swp_seq ?_ | refine swp_block ?_)); refine swp_region (by kernel_rfl) ?_
    repeat (first | refine x_move (by rfl) ?_ | refine x_as (by rfl) (by rfl) ?_ | refine x_skip (by rfl) ?_ | refine x_fld (by rfl) (by rfl) FldO.h ?_ | refine x_nilck (by rfl) (by rfl) ?_ | refine x_len (by rfl) (by rfl) ElOf.some ?_ | refine x_ext (by rfl) (by rfl) (by rfl) ?_ | refine x_pickT (by rfl) (by rfl) (by rfl) ?_ | refine x_pickF (by rfl) (by rfl) (by rfl) ?_ | refine x_add (by rfl) (by rfl) (by rfl) (by omega) ?_ | refine x_sub (by rfl) (by rfl) (by rfl) (by omega) ?_ | refine x_not (by rfl) (by rfl) ?_)
    refine x_nilw ?_
    refine swp_ret ?_; (repeat (first | with_reducible refine r_then ?_ | with_reducible refine r_block ?_ | with_reducible refine r_jump ?_))
    have hpb := p.blk.lt
    have hne : ∀ b, gfoot bg' r' bp' sp' b → b ≠ pb := fun b hb => by have := hf4 b hb; omega
    refine post1 rfl rfl ⟨_, rfl, rfl, bg', r', bp', sp', bm, sl, g, N', ⟨h5, g4.get u5 fun b hb e => hne b hb e, (p.mo.at u04).get u5 fun b hb e => p.e.2 ((show b = pb from e) ▸ hb), p.ok, p.ok2, fun b hb hb' => ?_, ⟨fun hb => hne pb hb rfl, p.e.2⟩⟩, hN4, (u04.of _).trans' u5 fun b _ e => .inl e, fun b hb => ?_⟩
    · have := hf4 b hb; have := p.mo.lt hb'; omega
    · rcases hb with hb | hb | hb
      · exact .inl (.inl hb)
      · exact .inr (by have := hf4 b hb; omega)
      · exact .inl (.inr (.inr hb))
  · rcases hb with hb | hb | hb
    · have := p.ok.mark.1; omega
    · have := p.ok.mark.2; omega
    · exact hb.2 (p.ok2 hb.1).1
end Go.Proofs.Ytnhecopgecoloaa
