/- apart: lists that are owned whole are written full, and keep what was written. Conditions: few things. -/
import Derived.Test.YtpnigekkbmanlaaKg
namespace Go.Proofs.Ytpnigekkbmanlaa
open Sx Hp

/-- what is written into what is bound, the k-th of the i-th -/
def markE (i k : Nat) (e : El) : El := ⟨e.a, e.c, (List.range e.evs.length).map fun _ => emk (i : Nat) 0 (k : Nat)⟩
def markW (i : Nat) (x : Wt) : Wt := ⟨⟨x.m.dec, x.m.na, x.m.nc, (List.range x.m.names.length).map fun _ => nmk (i : Nat) 0, x.m.la, x.m.lc, (List.range x.m.lens.length).map fun _ => ((i : Nat) : Int), x.m.va, x.m.vc, (List.range x.m.vals.length).map fun _ => vmk false (i : Nat)⟩, x.ba, x.bc, x.bs.mapIdx fun k e => markE i k e⟩
theorem markE_cells (i k : Nat) (e : El) : (markE i k e).cells = e.cells := by simp [markE, El.cells]
theorem markW_cells (i : Nat) (x : Wt) : (markW i x).cells = x.cells := by simp [markW, Wt.cells]
theorem markE_len (i k : Nat) (e : El) : (markE i k e).evs.length = e.evs.length := by simp [markE]
theorem markW_bl (i : Nat) (x : Wt) : (x.bs.mapIdx fun k e => markE i k e).length = x.bs.length := by simp
theorem markW_bc (i : Nat) (x : Wt) : fl El.cells (x.bs.mapIdx fun k e => markE i k e) = fl El.cells x.bs := by
  unfold fl
  congr 1
  apply List.ext_getElem?
  intro j
  rw [List.getElem?_map, List.getElem?_mapIdx, List.getElem?_map]
  cases x.bs[j]? with
  | none => rfl
  | some e => simp [markE_cells]
theorem markW_parts (i : Nat) (x : Wt) : (markW i x).parts = [aOwn 68 2 x.m.ns x.m.names.length (fl Nm.cells ((List.range x.m.names.length).map fun _ => nmk (i : Nat) 0)), aOwn 3 1 x.m.ls x.m.lens.length (fl encN ((List.range x.m.lens.length).map fun _ => ((i : Nat) : Int))), aOwn 70 2 x.m.vs x.m.vals.length (fl Vl.cells ((List.range x.m.vals.length).map fun _ => vmk false (i : Nat))), aOwn 86 1 x.bv x.bs.length (fl El.cells x.bs), As.all ((x.bs.mapIdx fun k e => markE i k e).map El.as)] := by
  unfold Wt.parts markW Wt.bv
  simp only [Mt.ns, Mt.ls, Mt.vs, List.length_map, List.length_range, markW_bl, markW_bc]
theorem markW_in {i : Nat} {x : Wt} {b : Nat} (hb : (markW i x).as.In b) : x.as.In b := by
  obtain ⟨a, ha, hb⟩ := hb
  rw [markW_parts] at ha
  simp only [List.mem_cons, List.mem_nil_iff, or_false] at ha
  rcases ha with rfl | rfl | rfl | rfl | rfl
  · exact ⟨_, List.mem_of_getElem? (i := 0) rfl, hb⟩
  · exact ⟨_, List.mem_of_getElem? (i := 1) rfl, hb⟩
  · exact ⟨_, List.mem_of_getElem? (i := 2) rfl, hb⟩
  · exact ⟨_, List.mem_of_getElem? (i := 3) rfl, hb⟩
  · obtain ⟨c, hc, hb⟩ := hb
    obtain ⟨e, he, rfl⟩ := List.mem_map.1 hc
    obtain ⟨j, hj, rfl⟩ := List.getElem_of_mem he
    have hj' : j < x.bs.length := by rw [← markW_bl i x]; exact hj
    refine ⟨_, List.mem_of_getElem? (i := 4) rfl, x.bs[j].as, List.mem_map.2 ⟨x.bs[j], List.getElem_mem hj', rfl⟩, ?_⟩
    have : ((x.bs.mapIdx fun k e => markE i k e)[j]).as.In = x.bs[j].as.In := by
      rw [List.getElem_mapIdx]
      unfold El.as
      rw [markE_len]
      rfl
    rw [this] at hb
    exact hb
section
variable {F : Nat → Prop} {w w' : World} {sv : Value} {xs : List Wt} {x y : Wt} {i : Nat}
theorem Rw.set (h : Rw w sv xs) (hi : xs[i]? = some x) (hc : y.cells = x.cells) (u : Upd F w w') (hF : ∀ b, b < w.heap.size → F b → x.as.In b) (p : y.as.P w') (hin : ∀ b, y.as.In b → x.as.In b) : Rw w' sv (xs.set i y) := by
  have hm := List.mem_of_getElem? hi
  refine ⟨?_, ?_, fun z hz b hb => ?_⟩
  · obtain ⟨va, vc, rfl⟩ := h.rd.slice
    have u' : Upd (fun b => b < w.heap.size ∧ F b) w w' := ⟨u.os, u.tape, u.output, u.size, fun b hb hn => u.keep b hb fun hf => hn ⟨hb, hf⟩⟩
    have := h.rd.get u' fun b hb hf => h.ap x hm b (hF b hf.1 hf.2) hb
    have e : (xs.set i y).map Wt.cells = xs.map Wt.cells := by rw [List.map_set, hc]; exact set_same (by rw [List.getElem?_map, hi]; rfl)
    rw [List.length_set]
    unfold fl at this ⊢
    rw [e]
    exact this
  · rw [List.map_set]
    exact h.s.upd (by rw [List.getElem?_map, hi]; rfl) u hF p fun b hb => .inl (hin b hb)
  · rcases List.mem_or_eq_of_mem_set hz with hz | rfl
    · exact h.ap z hz b hb
    · exact h.ap x hm b (hin b hb)
theorem fl_same {α : Type} {enc : α → List Value} {l l' : List α} (h : l'.map enc = l.map enc) : fl enc l' = fl enc l := by unfold fl; rw [h]
end

set_option maxHeartbeats 8000000 in
set_option maxRecDepth 100000 in
theorem apart_ {w : World} {sv : Value} {xs : List Wt} (h : Rw w sv xs) (hx : ∀ x ∈ xs, x.Lo) (hl : xs.length ≤ 1048576) : Gets Try.prog 38 [sv] w fun v w' => v = .bool true ∧ (∃ ys, ys.map Wt.cells = xs.map Wt.cells ∧ (∀ y ∈ ys, y.Lo) ∧ Rw w' sv ys ∧ ∀ b, feet ys b → feet xs b) ∧ Upd (feet xs) w w' := by
  have hsl := h.rd.slice
  obtain ⟨a0, c0, rfl⟩ := hsl
  refine ⟨GoFn.h, calls_of_swp 246 Try.func38 Try.ntmps38 rfl (Nat.le_of_ble_eq_true rfl) ?_⟩
  (repeat (first | refine swp_seq ?_ | refine swp_block ?_)); refine swp_region (by kernel_rfl) ?_
  repeat (first | refine x_move (by rfl) ?_ | refine x_as (by rfl) (by rfl) ?_ | refine x_skip (by rfl) ?_ | refine x_fld (by rfl) (by rfl) FldO.h ?_)
  refine x_nilw ?_
  refine swp_seq ?_
  refine PEv.swp_cutQ (fun σ w' => At σ [(0, .slice a0 xs.length c0)] ∧ Rw w' (.slice a0 xs.length c0) (xs.mapIdx markW) ∧ Upd (feet xs) w w') ?_ ?_
  · (repeat (first | refine swp_seq ?_ | refine swp_block ?_)); refine swp_region (by kernel_rfl) ?_
    repeat (first | refine x_move (by rfl) ?_ | refine x_as (by rfl) (by rfl) ?_ | refine x_skip (by rfl) ?_ | refine x_fld (by rfl) (by rfl) FldO.h ?_)
    refine x_nilw ?_
    refine swp_fit [(0, .slice a0 xs.length c0), (3, .int .i64 ((0 : Nat) : Int))] ⟨rfl, rfl, trivial⟩ fun ρ => ?_
    (repeat (first | refine swp_seq ?_ | refine swp_block ?_))
    refine swp_loop (fun (i : Nat) σ w' => ∃ ys : List Wt, At σ [(0, .slice a0 xs.length c0), (3, .int .i64 (i : Nat))] ∧ i ≤ xs.length ∧ ys.length = xs.length ∧ (∀ j x, xs[j]? = some x → ys[j]? = some (if j < i then markW j x else x)) ∧ Rw w' (.slice a0 xs.length c0) ys ∧ Upd (feet xs) w w') (fun i => xs.length - i) 0 ⟨xs, at_ ⟨rfl, rfl, trivial⟩, by omega, rfl, fun j x hj => by rw [hj, if_neg (by omega)], h, Upd.refl _ _⟩ ?_
    rintro i σ w1 ⟨ys, ⟨ρ, rfl⟩, hi, hyl, hys, hR, hu1⟩
    (repeat (first | refine swp_seq ?_ | refine swp_block ?_)); refine swp_region (by kernel_rfl) ?_
    repeat (first | refine x_move (by rfl) ?_ | refine x_as (by rfl) (by rfl) ?_ | refine x_len (by rfl) (by rfl) ElOf.some ?_ | refine x_add (by rfl) (by rfl) (by rfl) (by omega) ?_ | refine x_lss (by rfl) (by rfl) (by rfl) ?_)
    refine x_nilw ?_
    (repeat (first | refine swp_seq ?_ | refine swp_block ?_))
    refine swp_if (by rfl) (fun hc => swp_skip ?_) (fun hc => ?_)
    · have hi' : i < xs.length := by omega
      have hxe := nthE hi'
      obtain ⟨x, hxi0⟩ := hxe
      have hxm0 := List.mem_of_getElem? hxi0
      have L := hx x hxm0
      have Ln := L.n; have Ll := L.l; have Lv := L.v; have Lb := L.b
      have hyi : ys[i]? = some x := by rw [hys i x hxi0, if_neg (by omega)]
      have hxm := List.mem_of_getElem? hyi
      have hps := h.rd.pos (by omega)
      obtain ⟨pb, po, pd, hpe, -, -⟩ := hps
      simp only [Value.slice.injEq] at hpe
      obtain ⟨rfl, _, rfl⟩ := hpe
      have hap := hR.ap x hxm
      have hst := (hR.item hxm).1
      have hrd : Rd w1 5 (.slice (some ⟨pb, po, none⟩) xs.length c0) xs.length (fl Wt.cells ys) := by have := hR.rd; rw [hyl] at this; exact this
      (repeat (first | with_reducible refine n_then ?_ | with_reducible refine n_block ?_ | with_reducible refine n_jump ?_))
      refine swp_fit [(0, .slice (some ⟨pb, po, none⟩) xs.length c0), (3, .int .i64 (i : Nat))] ⟨rfl, rfl, trivial⟩ fun ρ => ?_
      refine swp_seq ?_
      refine swp_block ?_
      refine swp_seq ?_
      refine PEv.swp_cutQ (fun σ w' => ∃ C : List Nm, At σ [(0, .slice (some ⟨pb, po, none⟩) xs.length c0), (3, .int .i64 (i : Nat))] ∧ C.length = x.m.names.length ∧ (∀ m, m < x.m.names.length → C[m]? = some ((fun m : Nat => nmk (i : Nat) 0) m)) ∧ Own w' 68 2 (.slice x.m.na x.m.names.length x.m.nc) x.m.names.length (fl Nm.cells C) ∧ Upd (isIn (.slice x.m.na x.m.names.length x.m.nc)) w1 w') ?_ ?_
      · (repeat (first | refine swp_seq ?_ | refine swp_block ?_)); refine swp_region (by kernel_rfl) ?_
        repeat (first | refine x_move (by rfl) ?_ | refine x_as (by rfl) (by rfl) ?_ | refine x_skip (by rfl) ?_ | refine x_fld (by rfl) (by rfl) FldO.h ?_)
        refine x_nilw ?_
        refine swp_fit [(0, .slice (some ⟨pb, po, none⟩) xs.length c0), (3, .int .i64 (i : Nat)), (4, .int .i64 ((0 : Nat) : Int))] ⟨rfl, rfl, rfl, trivial⟩ fun ρ => ?_
        (repeat (first | refine swp_seq ?_ | refine swp_block ?_))
        refine swp_loop (fun (q : Nat) σ w' => ∃ C : List Nm, At σ [(0, .slice (some ⟨pb, po, none⟩) xs.length c0), (3, .int .i64 (i : Nat)), (4, .int .i64 (q : Nat))] ∧ q ≤ x.m.names.length ∧ C.length = x.m.names.length ∧ (∀ m, m < q → C[m]? = some ((fun m : Nat => nmk (i : Nat) 0) m)) ∧ Own w' 68 2 (.slice x.m.na x.m.names.length x.m.nc) x.m.names.length (fl Nm.cells C) ∧ Upd (isIn (.slice x.m.na x.m.names.length x.m.nc)) w1 w') (fun q => x.m.names.length - q) 0 ⟨x.m.names, at_ ⟨rfl, rfl, rfl, trivial⟩, by omega, rfl, fun m hm => absurd hm (by omega), hst.nth (i := 0) rfl, Upd.refl _ _⟩ ?_
        rintro q σ wq ⟨C, ⟨ρ, rfl⟩, hq, hCl, hC, hown, hu⟩
        have rq := hrd.get hu fun b hb hf => hap b ⟨_, List.mem_of_getElem? (i := 0) rfl, hf⟩ hb
        (repeat (first | refine swp_seq ?_ | refine swp_block ?_)); refine swp_region (by kernel_rfl) ?_
        repeat (first | refine x_move (by rfl) ?_ | refine x_as (by rfl) (by rfl) ?_ | refine x_skip (by rfl) ?_ | refine x_fld (by rfl) (by rfl) FldO.h ?_)
        refine x_idx i (by rfl) (by rfl) (by rfl) ElSz.h rfl hi' ?_
        repeat (first | refine x_move (by rfl) ?_ | refine x_as (by rfl) (by rfl) ?_ | refine x_skip (by rfl) ?_ | refine x_fld (by rfl) (by rfl) FldO.h ?_)
        refine w_load (by rfl) (by rfl) (load_one_cell OneT.h (rd_cell (v := .slice x.m.na x.m.names.length x.m.nc) (j := 1) wt_len rq hyi rfl hyl.symm rfl)) ?_
        repeat (first | refine x_move (by rfl) ?_ | refine x_as (by rfl) (by rfl) ?_ | refine x_len (by rfl) (by rfl) ElOf.some ?_ | refine x_add (by rfl) (by rfl) (by rfl) (by omega) ?_ | refine x_lss (by rfl) (by rfl) (by rfl) ?_)
        refine x_nilw ?_
        (repeat (first | refine swp_seq ?_ | refine swp_block ?_))
        refine swp_if (by rfl) (fun hcq => swp_skip ?_) (fun hcq => ?_)
        · have hq' : q < x.m.names.length := by omega
          have hpo := hown.pos (by omega)
          obtain ⟨g, cap, R, hVe, hgb, hc1, hc2, hc3⟩ := hpo
          have hfl : (fl Nm.cells C).length = x.m.names.length * 2 := by rw [fl_length nm_len', hCl]
          (repeat (first | with_reducible refine n_then ?_ | with_reducible refine n_block ?_ | with_reducible refine n_jump ?_))
          (repeat (first | refine swp_seq ?_ | refine swp_block ?_)); refine swp_region (by kernel_rfl) ?_
          repeat (first | refine x_move (by rfl) ?_ | refine x_as (by rfl) (by rfl) ?_ | refine x_skip (by rfl) ?_ | refine x_fld (by rfl) (by rfl) FldO.h ?_)
          refine x_idx i (by rfl) (by rfl) (by rfl) ElSz.h rfl hi' ?_
          repeat (first | refine x_move (by rfl) ?_ | refine x_as (by rfl) (by rfl) ?_ | refine x_skip (by rfl) ?_ | refine x_fld (by rfl) (by rfl) FldO.h ?_)
          refine w_load (by rfl) (by rfl) (load_one_cell OneT.h (rd_cell (v := .slice (some ⟨g, 0, none⟩) x.m.names.length cap) (j := 1) wt_len rq hyi (by rw [← hVe]; rfl) hyl.symm rfl)) ?_
          repeat (first | refine x_move (by rfl) ?_ | refine x_as (by rfl) (by rfl) ?_ | refine x_skip (by rfl) ?_ | refine x_fld (by rfl) (by rfl) FldO.h ?_)
          refine x_build (v := .agg (nmk (i : Nat) 0).cells.toArray) (by rfl) (by rfl) (fun _ => by kernel_rfl) ?_
          refine x_idx q (by rfl) (by rfl) (by rfl) ElSz.h rfl hq' ?_
          refine w_store (xs := (nmk (i : Nat) 0).cells) (by rfl) (by rfl) (by rfl) (by rfl) SzT.h (by rfl) (by rfl) hgb (by rw [List.length_append, hfl]; omega) ?_
          intro wr ur hbr _
          refine x_nilw ?_
          (repeat (first | with_reducible refine n_then ?_ | with_reducible refine n_block ?_ | with_reducible refine n_jump ?_))
          (repeat (first | refine swp_seq ?_ | refine swp_block ?_)); refine swp_region (by kernel_rfl) ?_
          repeat (first | refine x_move (by rfl) ?_ | refine x_as (by rfl) (by rfl) ?_ | refine x_len (by rfl) (by rfl) ElOf.some ?_ | refine x_add (by rfl) (by rfl) (by rfl) (by omega) ?_ | refine x_lss (by rfl) (by rfl) (by rfl) ?_)
          refine x_nilw ?_
          have hown' := own_set (i := q) (x := (fun m : Nat => nmk (i : Nat) 0) q) hVe nm_len' hbr hCl hq' (by omega) hc1 hc2 hc3
          exact ⟨q + 1, ⟨_, at_ ⟨rfl, rfl, rfl, trivial⟩, hq', by rw [List.length_set]; exact hCl, set_marks (f := fun m : Nat => nmk (i : Nat) 0) hC hCl hq', hown', hu.trans (ur.mono fun b e => by rw [hVe]; exact e)⟩, by omega⟩
        · have hqn : q = x.m.names.length := by omega
          subst hqn
          refine swp_exit ?_; (repeat (first | with_reducible refine e_then ?_ | with_reducible refine e_jump ?_)); refine e_block ?_; (repeat (first | with_reducible refine n_then ?_ | with_reducible refine n_block ?_ | with_reducible refine n_jump ?_))
          exact ⟨rfl, C, at_ ⟨rfl, rfl, trivial⟩, hCl, hC, hown, hu⟩
      rintro σ w11 ⟨C1, ⟨ρ, rfl⟩, hCl1, hC1, own1, uf1⟩
      refine n_then ?_
      have hst1 := hst.upd (i := 0) (a' := aOwn 68 2 (.slice x.m.na x.m.names.length x.m.nc) x.m.names.length (fl Nm.cells C1)) rfl uf1 (fun b _ e => e) own1 (fun b hb => .inl hb)
      have hrd1 := hrd.get uf1 fun b hb hf => hap b ⟨_, List.mem_of_getElem? (i := 0) rfl, hf⟩ hb
      have hu11 := uf1.mono fun b hf => (⟨_, List.mem_of_getElem? (i := 0) rfl, hf⟩ : x.as.In b)
      refine swp_seq ?_
      refine PEv.swp_cutQ (fun σ w' => ∃ C : List Int, At σ [(0, .slice (some ⟨pb, po, none⟩) xs.length c0), (3, .int .i64 (i : Nat))] ∧ C.length = x.m.lens.length ∧ (∀ m, m < x.m.lens.length → C[m]? = some ((fun m : Nat => ((i : Nat) : Int)) m)) ∧ Own w' 3 1 (.slice x.m.la x.m.lens.length x.m.lc) x.m.lens.length (fl encN C) ∧ Upd (isIn (.slice x.m.la x.m.lens.length x.m.lc)) w11 w') ?_ ?_
      · (repeat (first | refine swp_seq ?_ | refine swp_block ?_)); refine swp_region (by kernel_rfl) ?_
        repeat (first | refine x_move (by rfl) ?_ | refine x_as (by rfl) (by rfl) ?_ | refine x_skip (by rfl) ?_ | refine x_fld (by rfl) (by rfl) FldO.h ?_)
        refine x_nilw ?_
        refine swp_fit [(0, .slice (some ⟨pb, po, none⟩) xs.length c0), (3, .int .i64 (i : Nat)), (5, .int .i64 ((0 : Nat) : Int))] ⟨rfl, rfl, rfl, trivial⟩ fun ρ => ?_
        (repeat (first | refine swp_seq ?_ | refine swp_block ?_))
        refine swp_loop (fun (q : Nat) σ w' => ∃ C : List Int, At σ [(0, .slice (some ⟨pb, po, none⟩) xs.length c0), (3, .int .i64 (i : Nat)), (5, .int .i64 (q : Nat))] ∧ q ≤ x.m.lens.length ∧ C.length = x.m.lens.length ∧ (∀ m, m < q → C[m]? = some ((fun m : Nat => ((i : Nat) : Int)) m)) ∧ Own w' 3 1 (.slice x.m.la x.m.lens.length x.m.lc) x.m.lens.length (fl encN C) ∧ Upd (isIn (.slice x.m.la x.m.lens.length x.m.lc)) w11 w') (fun q => x.m.lens.length - q) 0 ⟨x.m.lens, at_ ⟨rfl, rfl, rfl, trivial⟩, by omega, rfl, fun m hm => absurd hm (by omega), hst1.nth (i := 1) rfl, Upd.refl _ _⟩ ?_
        rintro q σ wq ⟨C, ⟨ρ, rfl⟩, hq, hCl, hC, hown, hu⟩
        have rq := hrd1.get hu fun b hb hf => hap b ⟨_, List.mem_of_getElem? (i := 1) rfl, hf⟩ hb
        (repeat (first | refine swp_seq ?_ | refine swp_block ?_)); refine swp_region (by kernel_rfl) ?_
        repeat (first | refine x_move (by rfl) ?_ | refine x_as (by rfl) (by rfl) ?_ | refine x_skip (by rfl) ?_ | refine x_fld (by rfl) (by rfl) FldO.h ?_)
        refine x_idx i (by rfl) (by rfl) (by rfl) ElSz.h rfl hi' ?_
        repeat (first | refine x_move (by rfl) ?_ | refine x_as (by rfl) (by rfl) ?_ | refine x_skip (by rfl) ?_ | refine x_fld (by rfl) (by rfl) FldO.h ?_)
        refine w_load (by rfl) (by rfl) (load_one_cell OneT.h (rd_cell (v := .slice x.m.la x.m.lens.length x.m.lc) (j := 2) wt_len rq hyi rfl hyl.symm rfl)) ?_
        repeat (first | refine x_move (by rfl) ?_ | refine x_as (by rfl) (by rfl) ?_ | refine x_len (by rfl) (by rfl) ElOf.some ?_ | refine x_add (by rfl) (by rfl) (by rfl) (by omega) ?_ | refine x_lss (by rfl) (by rfl) (by rfl) ?_)
        refine x_nilw ?_
        (repeat (first | refine swp_seq ?_ | refine swp_block ?_))
        refine swp_if (by rfl) (fun hcq => swp_skip ?_) (fun hcq => ?_)
        · have hq' : q < x.m.lens.length := by omega
          have hpo := hown.pos (by omega)
          obtain ⟨g, cap, R, hVe, hgb, hc1, hc2, hc3⟩ := hpo
          have hfl : (fl encN C).length = x.m.lens.length * 1 := by rw [fl_length encN_len, hCl]
          (repeat (first | with_reducible refine n_then ?_ | with_reducible refine n_block ?_ | with_reducible refine n_jump ?_))
          (repeat (first | refine swp_seq ?_ | refine swp_block ?_)); refine swp_region (by kernel_rfl) ?_
          repeat (first | refine x_move (by rfl) ?_ | refine x_as (by rfl) (by rfl) ?_ | refine x_skip (by rfl) ?_ | refine x_fld (by rfl) (by rfl) FldO.h ?_)
          refine x_idx i (by rfl) (by rfl) (by rfl) ElSz.h rfl hi' ?_
          repeat (first | refine x_move (by rfl) ?_ | refine x_as (by rfl) (by rfl) ?_ | refine x_skip (by rfl) ?_ | refine x_fld (by rfl) (by rfl) FldO.h ?_)
          refine w_load (by rfl) (by rfl) (load_one_cell OneT.h (rd_cell (v := .slice (some ⟨g, 0, none⟩) x.m.lens.length cap) (j := 2) wt_len rq hyi (by rw [← hVe]; rfl) hyl.symm rfl)) ?_
          repeat (first | refine x_move (by rfl) ?_ | refine x_as (by rfl) (by rfl) ?_ | refine x_skip (by rfl) ?_ | refine x_fld (by rfl) (by rfl) FldO.h ?_)
          refine x_idx q (by rfl) (by rfl) (by rfl) ElSz.h rfl hq' ?_
          refine w_store (xs := [.int .i64 (i : Nat)]) (by rfl) (by rfl) (by rfl) (by rfl) SzT.h (by rfl) (by rfl) hgb (by rw [List.length_append, hfl]; omega) ?_
          intro wr ur hbr _
          refine x_nilw ?_
          (repeat (first | with_reducible refine n_then ?_ | with_reducible refine n_block ?_ | with_reducible refine n_jump ?_))
          (repeat (first | refine swp_seq ?_ | refine swp_block ?_)); refine swp_region (by kernel_rfl) ?_
          repeat (first | refine x_move (by rfl) ?_ | refine x_as (by rfl) (by rfl) ?_ | refine x_len (by rfl) (by rfl) ElOf.some ?_ | refine x_add (by rfl) (by rfl) (by rfl) (by omega) ?_ | refine x_lss (by rfl) (by rfl) (by rfl) ?_)
          refine x_nilw ?_
          have hown' := own_set (i := q) (x := (fun m : Nat => ((i : Nat) : Int)) q) hVe encN_len hbr hCl hq' (by omega) hc1 hc2 hc3
          exact ⟨q + 1, ⟨_, at_ ⟨rfl, rfl, rfl, trivial⟩, hq', by rw [List.length_set]; exact hCl, set_marks (f := fun m : Nat => ((i : Nat) : Int)) hC hCl hq', hown', hu.trans (ur.mono fun b e => by rw [hVe]; exact e)⟩, by omega⟩
        · have hqn : q = x.m.lens.length := by omega
          subst hqn
          refine swp_exit ?_; (repeat (first | with_reducible refine e_then ?_ | with_reducible refine e_jump ?_)); refine e_block ?_; (repeat (first | with_reducible refine n_then ?_ | with_reducible refine n_block ?_ | with_reducible refine n_jump ?_))
          exact ⟨rfl, C, at_ ⟨rfl, rfl, trivial⟩, hCl, hC, hown, hu⟩
      rintro σ w12 ⟨C2, ⟨ρ, rfl⟩, hCl2, hC2, own2, uf2⟩
      refine n_then ?_
      have hst2 := hst1.upd (i := 1) (a' := aOwn 3 1 (.slice x.m.la x.m.lens.length x.m.lc) x.m.lens.length (fl encN C2)) rfl uf2 (fun b _ e => e) own2 (fun b hb => .inl hb)
      have hrd2 := hrd1.get uf2 fun b hb hf => hap b ⟨_, List.mem_of_getElem? (i := 1) rfl, hf⟩ hb
      have hu12 := uf2.mono fun b hf => (⟨_, List.mem_of_getElem? (i := 1) rfl, hf⟩ : x.as.In b)
      refine swp_seq ?_
      refine PEv.swp_cutQ (fun σ w' => ∃ C : List Vl, At σ [(0, .slice (some ⟨pb, po, none⟩) xs.length c0), (3, .int .i64 (i : Nat))] ∧ C.length = x.m.vals.length ∧ (∀ m, m < x.m.vals.length → C[m]? = some ((fun m : Nat => vmk false (i : Nat)) m)) ∧ Own w' 70 2 (.slice x.m.va x.m.vals.length x.m.vc) x.m.vals.length (fl Vl.cells C) ∧ Upd (isIn (.slice x.m.va x.m.vals.length x.m.vc)) w12 w') ?_ ?_
      · (repeat (first | refine swp_seq ?_ | refine swp_block ?_)); refine swp_region (by kernel_rfl) ?_
        repeat (first | refine x_move (by rfl) ?_ | refine x_as (by rfl) (by rfl) ?_ | refine x_skip (by rfl) ?_ | refine x_fld (by rfl) (by rfl) FldO.h ?_)
        refine x_nilw ?_
        refine swp_fit [(0, .slice (some ⟨pb, po, none⟩) xs.length c0), (3, .int .i64 (i : Nat)), (6, .int .i64 ((0 : Nat) : Int))] ⟨rfl, rfl, rfl, trivial⟩ fun ρ => ?_
        (repeat (first | refine swp_seq ?_ | refine swp_block ?_))
        refine swp_loop (fun (q : Nat) σ w' => ∃ C : List Vl, At σ [(0, .slice (some ⟨pb, po, none⟩) xs.length c0), (3, .int .i64 (i : Nat)), (6, .int .i64 (q : Nat))] ∧ q ≤ x.m.vals.length ∧ C.length = x.m.vals.length ∧ (∀ m, m < q → C[m]? = some ((fun m : Nat => vmk false (i : Nat)) m)) ∧ Own w' 70 2 (.slice x.m.va x.m.vals.length x.m.vc) x.m.vals.length (fl Vl.cells C) ∧ Upd (isIn (.slice x.m.va x.m.vals.length x.m.vc)) w12 w') (fun q => x.m.vals.length - q) 0 ⟨x.m.vals, at_ ⟨rfl, rfl, rfl, trivial⟩, by omega, rfl, fun m hm => absurd hm (by omega), hst2.nth (i := 2) rfl, Upd.refl _ _⟩ ?_
        rintro q σ wq ⟨C, ⟨ρ, rfl⟩, hq, hCl, hC, hown, hu⟩
        have rq := hrd2.get hu fun b hb hf => hap b ⟨_, List.mem_of_getElem? (i := 2) rfl, hf⟩ hb
        (repeat (first | refine swp_seq ?_ | refine swp_block ?_)); refine swp_region (by kernel_rfl) ?_
        repeat (first | refine x_move (by rfl) ?_ | refine x_as (by rfl) (by rfl) ?_ | refine x_skip (by rfl) ?_ | refine x_fld (by rfl) (by rfl) FldO.h ?_)
        refine x_idx i (by rfl) (by rfl) (by rfl) ElSz.h rfl hi' ?_
        repeat (first | refine x_move (by rfl) ?_ | refine x_as (by rfl) (by rfl) ?_ | refine x_skip (by rfl) ?_ | refine x_fld (by rfl) (by rfl) FldO.h ?_)
        refine w_load (by rfl) (by rfl) (load_one_cell OneT.h (rd_cell (v := .slice x.m.va x.m.vals.length x.m.vc) (j := 3) wt_len rq hyi rfl hyl.symm rfl)) ?_
        repeat (first | refine x_move (by rfl) ?_ | refine x_as (by rfl) (by rfl) ?_ | refine x_len (by rfl) (by rfl) ElOf.some ?_ | refine x_add (by rfl) (by rfl) (by rfl) (by omega) ?_ | refine x_lss (by rfl) (by rfl) (by rfl) ?_)
        refine x_nilw ?_
        (repeat (first | refine swp_seq ?_ | refine swp_block ?_))
        refine swp_if (by rfl) (fun hcq => swp_skip ?_) (fun hcq => ?_)
        · have hq' : q < x.m.vals.length := by omega
          have hpo := hown.pos (by omega)
          obtain ⟨g, cap, R, hVe, hgb, hc1, hc2, hc3⟩ := hpo
          have hfl : (fl Vl.cells C).length = x.m.vals.length * 2 := by rw [fl_length vl_len, hCl]
          (repeat (first | with_reducible refine n_then ?_ | with_reducible refine n_block ?_ | with_reducible refine n_jump ?_))
          (repeat (first | refine swp_seq ?_ | refine swp_block ?_)); refine swp_region (by kernel_rfl) ?_
          repeat (first | refine x_move (by rfl) ?_ | refine x_as (by rfl) (by rfl) ?_ | refine x_skip (by rfl) ?_ | refine x_fld (by rfl) (by rfl) FldO.h ?_)
          refine x_idx i (by rfl) (by rfl) (by rfl) ElSz.h rfl hi' ?_
          repeat (first | refine x_move (by rfl) ?_ | refine x_as (by rfl) (by rfl) ?_ | refine x_skip (by rfl) ?_ | refine x_fld (by rfl) (by rfl) FldO.h ?_)
          refine w_load (by rfl) (by rfl) (load_one_cell OneT.h (rd_cell (v := .slice (some ⟨g, 0, none⟩) x.m.vals.length cap) (j := 3) wt_len rq hyi (by rw [← hVe]; rfl) hyl.symm rfl)) ?_
          repeat (first | refine x_move (by rfl) ?_ | refine x_as (by rfl) (by rfl) ?_ | refine x_skip (by rfl) ?_ | refine x_fld (by rfl) (by rfl) FldO.h ?_)
          refine x_build (v := .agg (vmk false (i : Nat)).cells.toArray) (by rfl) (by rfl) (fun _ => by kernel_rfl) ?_
          refine x_idx q (by rfl) (by rfl) (by rfl) ElSz.h rfl hq' ?_
          refine w_store (xs := (vmk false (i : Nat)).cells) (by rfl) (by rfl) (by rfl) (by rfl) SzT.h (by rfl) (by rfl) hgb (by rw [List.length_append, hfl]; omega) ?_
          intro wr ur hbr _
          refine x_nilw ?_
          (repeat (first | with_reducible refine n_then ?_ | with_reducible refine n_block ?_ | with_reducible refine n_jump ?_))
          (repeat (first | refine swp_seq ?_ | refine swp_block ?_)); refine swp_region (by kernel_rfl) ?_
          repeat (first | refine x_move (by rfl) ?_ | refine x_as (by rfl) (by rfl) ?_ | refine x_len (by rfl) (by rfl) ElOf.some ?_ | refine x_add (by rfl) (by rfl) (by rfl) (by omega) ?_ | refine x_lss (by rfl) (by rfl) (by rfl) ?_)
          refine x_nilw ?_
          have hown' := own_set (i := q) (x := (fun m : Nat => vmk false (i : Nat)) q) hVe vl_len hbr hCl hq' (by omega) hc1 hc2 hc3
          exact ⟨q + 1, ⟨_, at_ ⟨rfl, rfl, rfl, trivial⟩, hq', by rw [List.length_set]; exact hCl, set_marks (f := fun m : Nat => vmk false (i : Nat)) hC hCl hq', hown', hu.trans (ur.mono fun b e => by rw [hVe]; exact e)⟩, by omega⟩
        · have hqn : q = x.m.vals.length := by omega
          subst hqn
          refine swp_exit ?_; (repeat (first | with_reducible refine e_then ?_ | with_reducible refine e_jump ?_)); refine e_block ?_; (repeat (first | with_reducible refine n_then ?_ | with_reducible refine n_block ?_ | with_reducible refine n_jump ?_))
          exact ⟨rfl, C, at_ ⟨rfl, rfl, trivial⟩, hCl, hC, hown, hu⟩
      rintro σ w13 ⟨C3, ⟨ρ, rfl⟩, hCl3, hC3, own3, uf3⟩
      refine n_then ?_
      have hst3 := hst2.upd (i := 2) (a' := aOwn 70 2 (.slice x.m.va x.m.vals.length x.m.vc) x.m.vals.length (fl Vl.cells C3)) rfl uf3 (fun b _ e => e) own3 (fun b hb => .inl hb)
      have hrd3 := hrd2.get uf3 fun b hb hf => hap b ⟨_, List.mem_of_getElem? (i := 2) rfl, hf⟩ hb
      have hu13 := uf3.mono fun b hf => (⟨_, List.mem_of_getElem? (i := 2) rfl, hf⟩ : x.as.In b)
      have hux := (hu11.trans hu12).trans hu13
      clear hst hst1 hst2 hrd hrd1 hrd2 hu11 hu12 hu13 uf1 uf2 uf3 own1 own2 own3
      replace hst3 : Star w13 [aOwn 68 2 x.m.ns x.m.names.length (fl Nm.cells C1), aOwn 3 1 x.m.ls x.m.lens.length (fl encN C2), aOwn 70 2 x.m.vs x.m.vals.length (fl Vl.cells C3), aOwn 86 1 x.bv x.bs.length (fl El.cells x.bs), As.all (x.bs.map El.as)] := hst3
      refine PEv.swp_cutQ (fun σ w' => At σ [(0, .slice (some ⟨pb, po, none⟩) xs.length c0), (3, .int .i64 (i : Nat))] ∧ Star w' [aOwn 68 2 x.m.ns x.m.names.length (fl Nm.cells C1), aOwn 3 1 x.m.ls x.m.lens.length (fl encN C2), aOwn 70 2 x.m.vs x.m.vals.length (fl Vl.cells C3), aOwn 86 1 x.bv x.bs.length (fl El.cells x.bs), As.all ((x.bs.mapIdx fun k e => markE i k e).map El.as)] ∧ Upd (x.as.In) w13 w') ?_ ?_
      · (repeat (first | refine swp_seq ?_ | refine swp_block ?_)); refine swp_region (by kernel_rfl) ?_
        repeat (first | refine x_move (by rfl) ?_ | refine x_as (by rfl) (by rfl) ?_ | refine x_skip (by rfl) ?_ | refine x_fld (by rfl) (by rfl) FldO.h ?_)
        refine x_nilw ?_
        refine swp_fit [(0, .slice (some ⟨pb, po, none⟩) xs.length c0), (3, .int .i64 (i : Nat)), (7, .int .i64 ((0 : Nat) : Int))] ⟨rfl, rfl, rfl, trivial⟩ fun ρ => ?_
        (repeat (first | refine swp_seq ?_ | refine swp_block ?_))
        refine swp_loop (fun (k : Nat) σ w' => ∃ es : List El, At σ [(0, .slice (some ⟨pb, po, none⟩) xs.length c0), (3, .int .i64 (i : Nat)), (7, .int .i64 (k : Nat))] ∧ k ≤ x.bs.length ∧ es.length = x.bs.length ∧ (∀ j e, x.bs[j]? = some e → es[j]? = some (if j < k then markE i j e else e)) ∧ Star w' [aOwn 68 2 x.m.ns x.m.names.length (fl Nm.cells C1), aOwn 3 1 x.m.ls x.m.lens.length (fl encN C2), aOwn 70 2 x.m.vs x.m.vals.length (fl Vl.cells C3), aOwn 86 1 x.bv x.bs.length (fl El.cells x.bs), As.all (es.map El.as)] ∧ Upd (x.as.In) w13 w') (fun k => x.bs.length - k) 0 ⟨x.bs, at_ ⟨rfl, rfl, rfl, trivial⟩, by omega, rfl, fun j e he => by rw [he, if_neg (by omega)], hst3, Upd.refl _ _⟩ ?_
        rintro k σ w2 ⟨es, ⟨ρ, rfl⟩, hk, hel, hes, hs2, hu2⟩
        have rq := hrd3.get hu2 fun b hb hf => hap b hf hb
        (repeat (first | refine swp_seq ?_ | refine swp_block ?_)); refine swp_region (by kernel_rfl) ?_
        repeat (first | refine x_move (by rfl) ?_ | refine x_as (by rfl) (by rfl) ?_ | refine x_skip (by rfl) ?_ | refine x_fld (by rfl) (by rfl) FldO.h ?_)
        refine x_idx i (by rfl) (by rfl) (by rfl) ElSz.h rfl hi' ?_
        repeat (first | refine x_move (by rfl) ?_ | refine x_as (by rfl) (by rfl) ?_ | refine x_skip (by rfl) ?_ | refine x_fld (by rfl) (by rfl) FldO.h ?_)
        refine w_load (by rfl) (by rfl) (load_one_cell OneT.h (rd_cell (v := .slice x.ba x.bs.length x.bc) (j := 4) wt_len rq hyi rfl hyl.symm rfl)) ?_
        repeat (first | refine x_move (by rfl) ?_ | refine x_as (by rfl) (by rfl) ?_ | refine x_len (by rfl) (by rfl) ElOf.some ?_ | refine x_add (by rfl) (by rfl) (by rfl) (by omega) ?_ | refine x_lss (by rfl) (by rfl) (by rfl) ?_)
        refine x_nilw ?_
        (repeat (first | refine swp_seq ?_ | refine swp_block ?_))
        refine swp_if (by rfl) (fun hck => swp_skip ?_) (fun hck => ?_)
        · have hk' : k < x.bs.length := by omega
          have hee0 := nthE hk'
          obtain ⟨e, hee⟩ := hee0
          have hek : es[k]? = some e := by rw [hes k e hee, if_neg (by omega)]
          have Le := L.e e (List.mem_of_getElem? hee)
          have rb := (show Own w2 86 1 x.bv x.bs.length (fl El.cells x.bs) from hs2.nth (i := 3) rfl).rd
          have pbv := rb.pos (by omega)
          obtain ⟨vb, vo, vc, hve, -, -⟩ := pbv
          have hal : (As.all (es.map El.as)).P w2 := hs2.nth (i := 4) rfl
          have hek2 : (es.map El.as)[k]? = some e.as := by rw [List.getElem?_map, hek]; rfl
          have inA : ∀ b, isIn (.slice e.a e.evs.length e.c) b → (As.all (es.map El.as)).In b := fun b hb => ⟨e.as, List.mem_of_getElem? hek2, hb⟩
          have inE : ∀ b, isIn (.slice e.a e.evs.length e.c) b → x.as.In b := fun b hb => ⟨_, List.mem_of_getElem? (i := 4) rfl, e.as, List.mem_map.2 ⟨e, List.mem_of_getElem? hee, rfl⟩, hb⟩
          have nbv : ∀ b, isIn (.slice e.a e.evs.length e.c) b → ¬isIn x.bv b := fun b hb => hs2.ne (i := 4) (j := 3) rfl rfl (by omega) (inA b hb)
          rw [hve] at rb nbv
          (repeat (first | with_reducible refine n_then ?_ | with_reducible refine n_block ?_ | with_reducible refine n_jump ?_))
          refine swp_fit [(0, .slice (some ⟨pb, po, none⟩) xs.length c0), (3, .int .i64 (i : Nat)), (7, .int .i64 (k : Nat))] ⟨rfl, rfl, rfl, trivial⟩ fun ρ => ?_
          refine swp_seq ?_
          refine swp_block ?_
          refine PEv.swp_cutQ (fun σ w' => ∃ C : List Ev, At σ [(0, .slice (some ⟨pb, po, none⟩) xs.length c0), (3, .int .i64 (i : Nat)), (7, .int .i64 (k : Nat))] ∧ C.length = e.evs.length ∧ (∀ m, m < e.evs.length → C[m]? = some ((fun m : Nat => emk (i : Nat) 0 (k : Nat)) m)) ∧ Own w' 89 11 (.slice e.a e.evs.length e.c) e.evs.length (fl Ev.cells C) ∧ Upd (isIn (.slice e.a e.evs.length e.c)) w2 w') ?_ ?_
          · (repeat (first | refine swp_seq ?_ | refine swp_block ?_)); refine swp_region (by kernel_rfl) ?_
            repeat (first | refine x_move (by rfl) ?_ | refine x_as (by rfl) (by rfl) ?_ | refine x_skip (by rfl) ?_ | refine x_fld (by rfl) (by rfl) FldO.h ?_)
            refine x_nilw ?_
            refine swp_fit [(0, .slice (some ⟨pb, po, none⟩) xs.length c0), (3, .int .i64 (i : Nat)), (7, .int .i64 (k : Nat)), (8, .int .i64 ((0 : Nat) : Int))] ⟨rfl, rfl, rfl, rfl, trivial⟩ fun ρ => ?_
            (repeat (first | refine swp_seq ?_ | refine swp_block ?_))
            refine swp_loop (fun (q : Nat) σ w' => ∃ C : List Ev, At σ [(0, .slice (some ⟨pb, po, none⟩) xs.length c0), (3, .int .i64 (i : Nat)), (7, .int .i64 (k : Nat)), (8, .int .i64 (q : Nat))] ∧ q ≤ e.evs.length ∧ C.length = e.evs.length ∧ (∀ m, m < q → C[m]? = some ((fun m : Nat => emk (i : Nat) 0 (k : Nat)) m)) ∧ Own w' 89 11 (.slice e.a e.evs.length e.c) e.evs.length (fl Ev.cells C) ∧ Upd (isIn (.slice e.a e.evs.length e.c)) w2 w') (fun q => e.evs.length - q) 0 ⟨e.evs, at_ ⟨rfl, rfl, rfl, rfl, trivial⟩, by omega, rfl, fun m hm => absurd hm (by omega), (show Star w2 (es.map El.as) from hal).nth hek2, Upd.refl _ _⟩ ?_
            rintro q σ wq ⟨C, ⟨ρ, rfl⟩, hq, hCl, hC, hown, hu⟩
            have hux := hu2.trans (hu.mono fun b hf => inE b hf)
            have rq := hrd3.get hux fun b hb hf => hap b hf hb
            have rbq := rb.get hu fun b hb hf => nbv b hf hb
            (repeat (first | refine swp_seq ?_ | refine swp_block ?_)); refine swp_region (by kernel_rfl) ?_
            repeat (first | refine x_move (by rfl) ?_ | refine x_as (by rfl) (by rfl) ?_ | refine x_skip (by rfl) ?_ | refine x_fld (by rfl) (by rfl) FldO.h ?_)
            refine x_idx i (by rfl) (by rfl) (by rfl) ElSz.h rfl hi' ?_
            repeat (first | refine x_move (by rfl) ?_ | refine x_as (by rfl) (by rfl) ?_ | refine x_skip (by rfl) ?_ | refine x_fld (by rfl) (by rfl) FldO.h ?_)
            refine w_load (by rfl) (by rfl) (load_one_cell OneT.h (rd_cell (v := .slice (some ⟨vb, vo, none⟩) x.bs.length vc) (j := 4) wt_len rq hyi (by rw [← hve]; rfl) hyl.symm rfl)) ?_
            repeat (first | refine x_move (by rfl) ?_ | refine x_as (by rfl) (by rfl) ?_ | refine x_skip (by rfl) ?_ | refine x_fld (by rfl) (by rfl) FldO.h ?_)
            refine x_idx k (by rfl) (by rfl) (by rfl) ElSz.h rfl hk' ?_
            refine w_load (by rfl) (by rfl) (load_one_cell OneT.h (rd_cell (v := .slice e.a e.evs.length e.c) (j := 0) el_len rbq hee rfl rfl rfl)) ?_
            repeat (first | refine x_move (by rfl) ?_ | refine x_as (by rfl) (by rfl) ?_ | refine x_len (by rfl) (by rfl) ElOf.some ?_ | refine x_add (by rfl) (by rfl) (by rfl) (by omega) ?_ | refine x_lss (by rfl) (by rfl) (by rfl) ?_)
            refine x_nilw ?_
            (repeat (first | refine swp_seq ?_ | refine swp_block ?_))
            refine swp_if (by rfl) (fun hcq => swp_skip ?_) (fun hcq => ?_)
            · have hq' : q < e.evs.length := by omega
              have hpo := hown.pos (by omega)
              obtain ⟨g, cap, R, hVe, hgb, hc1, hc2, hc3⟩ := hpo
              have hfl : (fl Ev.cells C).length = e.evs.length * 11 := by rw [fl_length ev_len, hCl]
              (repeat (first | with_reducible refine n_then ?_ | with_reducible refine n_block ?_ | with_reducible refine n_jump ?_))
              (repeat (first | refine swp_seq ?_ | refine swp_block ?_)); refine swp_region (by kernel_rfl) ?_
              repeat (first | refine x_move (by rfl) ?_ | refine x_as (by rfl) (by rfl) ?_ | refine x_skip (by rfl) ?_ | refine x_fld (by rfl) (by rfl) FldO.h ?_)
              refine x_idx i (by rfl) (by rfl) (by rfl) ElSz.h rfl hi' ?_
              repeat (first | refine x_move (by rfl) ?_ | refine x_as (by rfl) (by rfl) ?_ | refine x_skip (by rfl) ?_ | refine x_fld (by rfl) (by rfl) FldO.h ?_)
              refine w_load (by rfl) (by rfl) (load_one_cell OneT.h (rd_cell (v := .slice (some ⟨vb, vo, none⟩) x.bs.length vc) (j := 4) wt_len rq hyi (by rw [← hve]; rfl) hyl.symm rfl)) ?_
              repeat (first | refine x_move (by rfl) ?_ | refine x_as (by rfl) (by rfl) ?_ | refine x_skip (by rfl) ?_ | refine x_fld (by rfl) (by rfl) FldO.h ?_)
              refine x_idx k (by rfl) (by rfl) (by rfl) ElSz.h rfl hk' ?_
              refine w_load (by rfl) (by rfl) (load_one_cell OneT.h (rd_cell (v := .slice (some ⟨g, 0, none⟩) e.evs.length cap) (j := 0) el_len rbq hee (by rw [← hVe]; rfl) rfl rfl)) ?_
              repeat (first | refine x_move (by rfl) ?_ | refine x_as (by rfl) (by rfl) ?_ | refine x_skip (by rfl) ?_ | refine x_fld (by rfl) (by rfl) FldO.h ?_)
              refine x_build (v := .agg (emk (i : Nat) 0 (k : Nat)).cells.toArray) (by rfl) (by rfl) (fun _ => by kernel_rfl) ?_
              refine x_idx q (by rfl) (by rfl) (by rfl) ElSz.h rfl hq' ?_
              refine w_store (xs := (emk (i : Nat) 0 (k : Nat)).cells) (by rfl) (by rfl) (by rfl) (by rfl) SzT.h (by rfl) (by rfl) hgb (by rw [List.length_append, hfl]; omega) ?_
              intro wr ur hbr _
              refine x_nilw ?_
              (repeat (first | with_reducible refine n_then ?_ | with_reducible refine n_block ?_ | with_reducible refine n_jump ?_))
              (repeat (first | refine swp_seq ?_ | refine swp_block ?_)); refine swp_region (by kernel_rfl) ?_
              repeat (first | refine x_move (by rfl) ?_ | refine x_as (by rfl) (by rfl) ?_ | refine x_len (by rfl) (by rfl) ElOf.some ?_ | refine x_add (by rfl) (by rfl) (by rfl) (by omega) ?_ | refine x_lss (by rfl) (by rfl) (by rfl) ?_)
              refine x_nilw ?_
              have hown' := own_set (i := q) (x := (fun m : Nat => emk (i : Nat) 0 (k : Nat)) q) hVe ev_len hbr hCl hq' (by omega) hc1 hc2 hc3
              exact ⟨q + 1, ⟨_, at_ ⟨rfl, rfl, rfl, rfl, trivial⟩, hq', by rw [List.length_set]; exact hCl, set_marks (f := fun m : Nat => emk (i : Nat) 0 (k : Nat)) hC hCl hq', hown', hu.trans (ur.mono fun b e => by rw [hVe]; exact e)⟩, by omega⟩
            · have hqn : q = e.evs.length := by omega
              subst hqn
              refine swp_exit ?_; (repeat (first | with_reducible refine e_then ?_ | with_reducible refine e_jump ?_)); refine e_block ?_; (repeat (first | with_reducible refine n_then ?_ | with_reducible refine n_block ?_ | with_reducible refine n_jump ?_))
              exact ⟨rfl, C, at_ ⟨rfl, rfl, rfl, trivial⟩, hCl, hC, hown, hu⟩
          rintro σ w3 ⟨C4, ⟨ρ, rfl⟩, hCl4, hC4, own4, uf4⟩
          have eC4 := marks_all hC4 hCl4
          have hm4 : (markE i k e).as.P w3 := by
            show Own w3 89 11 (.slice e.a (markE i k e).evs.length e.c) (markE i k e).evs.length (fl Ev.cells (markE i k e).evs)
            rw [markE_len]
            have : (markE i k e).evs = C4 := eC4.symm
            rw [this]
            exact own4
          have inM : ∀ b, (markE i k e).as.In b → e.as.In b := fun b hb => by
            have : (markE i k e).as.In = e.as.In := by unfold El.as; rw [markE_len]; rfl
            rw [this] at hb
            exact hb
          have hal3 : Star w3 ((es.set k (markE i k e)).map El.as) := by
            rw [List.map_set]
            exact (show Star w2 (es.map El.as) from hal).upd hek2 uf4 (fun b _ h => h) hm4 fun b hb => .inl (inM b hb)
          have hs3 : Star w3 [aOwn 68 2 x.m.ns x.m.names.length (fl Nm.cells C1), aOwn 3 1 x.m.ls x.m.lens.length (fl encN C2), aOwn 70 2 x.m.vs x.m.vals.length (fl Vl.cells C3), aOwn 86 1 x.bv x.bs.length (fl El.cells x.bs), As.all ((es.set k (markE i k e)).map El.as)] := hs2.upd (i := 4) (a' := As.all ((es.set k (markE i k e)).map El.as)) rfl uf4 (fun b _ hf => inA b hf) hal3 fun b hb => by
            obtain ⟨c, hc, hcb⟩ := hb
            rw [List.map_set] at hc
            rcases List.mem_or_eq_of_mem_set hc with hc | rfl
            · exact .inl ⟨c, hc, hcb⟩
            · exact .inl (inA b (inM b hcb))
          (repeat (first | with_reducible refine n_then ?_ | with_reducible refine n_block ?_ | with_reducible refine n_jump ?_))
          (repeat (first | refine swp_seq ?_ | refine swp_block ?_)); refine swp_region (by kernel_rfl) ?_
          repeat (first | refine x_move (by rfl) ?_ | refine x_as (by rfl) (by rfl) ?_ | refine x_len (by rfl) (by rfl) ElOf.some ?_ | refine x_add (by rfl) (by rfl) (by rfl) (by omega) ?_ | refine x_lss (by rfl) (by rfl) (by rfl) ?_)
          refine x_nilw ?_
          refine ⟨k + 1, ⟨es.set k (markE i k e), at_ ⟨rfl, rfl, rfl, trivial⟩, hk', by rw [List.length_set]; exact hel, fun j e' he' => ?_, hs3, hu2.trans (uf4.mono fun b hf => inE b hf)⟩, by omega⟩
          by_cases ej : j = k
          · subst ej
            rw [hee] at he'
            injection he' with he'
            subst he'
            rw [List.getElem?_set_self (by omega), if_pos (by omega)]
          · rw [List.getElem?_set_ne (fun h => ej h.symm), hes j e' he']
            by_cases hj : j < k
            · rw [if_pos hj, if_pos (by omega)]
            · rw [if_neg hj, if_neg (by omega)]
        · have hkl : k = x.bs.length := by omega
          refine swp_exit ?_; (repeat (first | with_reducible refine e_then ?_ | with_reducible refine e_jump ?_)); refine e_block ?_; (repeat (first | with_reducible refine n_then ?_ | with_reducible refine n_block ?_ | with_reducible refine n_jump ?_))
          have hem : es = x.bs.mapIdx fun k e => markE i k e := by
            apply List.ext_getElem?
            intro j
            rw [List.getElem?_mapIdx]
            cases he : x.bs[j]? with
            | none => rw [List.getElem?_eq_none (by rw [hel]; exact List.getElem?_eq_none_iff.1 he)]; rfl
            | some e =>
              rw [hes j e he, if_pos (by have := (List.getElem?_eq_some_iff.1 he).1; omega)]
              rfl
          rw [hem] at hs2
          exact ⟨rfl, at_ ⟨rfl, rfl, trivial⟩, hs2, hu2⟩
      rintro σ w2 ⟨⟨ρ, rfl⟩, hs2, hu2⟩
      have hu12 := hux.trans hu2
      have eC1 := marks_all hC1 hCl1
      have eC2 := marks_all hC2 hCl2
      have eC3 := marks_all hC3 hCl3
      have hbl := markW_bl i x
      have hparts : (markW i x).parts = [aOwn 68 2 x.m.ns x.m.names.length (fl Nm.cells C1), aOwn 3 1 x.m.ls x.m.lens.length (fl encN C2), aOwn 70 2 x.m.vs x.m.vals.length (fl Vl.cells C3), aOwn 86 1 x.bv x.bs.length (fl El.cells x.bs), As.all ((x.bs.mapIdx fun k e => markE i k e).map El.as)] := by rw [eC1, eC2, eC3]; exact markW_parts i x
      have hsm := (hR.item hxm).2
      have hmP : (markW i x).as.P w2 := by
        refine ⟨by rw [hparts]; exact hs2, ⟨⟨?_, ?_, ?_⟩, ?_, fun e he => ?_⟩⟩
        · show ((List.range x.m.names.length).map _).length * 16 ≤ _
          rw [List.length_map, List.length_range]
          exact hsm.m.n
        · show ((List.range x.m.lens.length).map _).length * 8 ≤ _
          rw [List.length_map, List.length_range]
          exact hsm.m.l
        · show ((List.range x.m.vals.length).map _).length * 16 ≤ _
          rw [List.length_map, List.length_range]
          exact hsm.m.v
        · show (x.bs.mapIdx fun k e => markE i k e).length * 24 ≤ _
          rw [hbl]
          exact hsm.b
        · obtain ⟨j, hj, rfl⟩ := List.getElem_of_mem he
          have hj' : j < x.bs.length := by rw [← hbl]; exact hj
          have : (markW i x).bs[j] = markE i j x.bs[j] := by simp [markW]
          rw [this, markE_len]
          exact hsm.e _ (List.getElem_mem hj')
      have hin : ∀ b, (markW i x).as.In b → x.as.In b := fun b hb => markW_in hb
      have hR2 := hR.set hyi (markW_cells i x) hu12 (fun b _ h => h) hmP hin
      (repeat (first | with_reducible refine n_then ?_ | with_reducible refine n_block ?_ | with_reducible refine n_jump ?_))
      (repeat (first | refine swp_seq ?_ | refine swp_block ?_)); refine swp_region (by kernel_rfl) ?_
      repeat (first | refine x_move (by rfl) ?_ | refine x_as (by rfl) (by rfl) ?_ | refine x_len (by rfl) (by rfl) ElOf.some ?_ | refine x_add (by rfl) (by rfl) (by rfl) (by omega) ?_ | refine x_lss (by rfl) (by rfl) (by rfl) ?_)
      refine x_nilw ?_
      refine ⟨i + 1, ⟨ys.set i (markW i x), at_ ⟨rfl, rfl, trivial⟩, hi', by rw [List.length_set]; exact hyl, fun j x' hx' => ?_, hR2, hu1.trans (hu12.mono fun b hb => ⟨x, hxm0, hb⟩)⟩, by omega⟩
      by_cases ej : j = i
      · subst ej
        rw [hxi0] at hx'
        injection hx' with hx'
        subst hx'
        rw [List.getElem?_set_self (by omega), if_pos (by omega)]
      · rw [List.getElem?_set_ne (fun h => ej h.symm), hys j x' hx']
        by_cases hj : j < i
        · rw [if_pos hj, if_pos (by omega)]
        · rw [if_neg hj, if_neg (by omega)]
    · have hil : i = xs.length := by omega
      refine swp_exit ?_; (repeat (first | with_reducible refine e_then ?_ | with_reducible refine e_jump ?_)); refine e_block ?_; (repeat (first | with_reducible refine n_then ?_ | with_reducible refine n_block ?_ | with_reducible refine n_jump ?_))
      have hem : ys = xs.mapIdx markW := by
        apply List.ext_getElem?
        intro j
        rw [List.getElem?_mapIdx]
        cases he : xs[j]? with
        | none => rw [List.getElem?_eq_none (by rw [hyl]; exact List.getElem?_eq_none_iff.1 he)]; rfl
        | some e =>
          rw [hys j e he, if_pos (by have := (List.getElem?_eq_some_iff.1 he).1; omega)]
          rfl
      rw [hem] at hR
      exact ⟨rfl, at_ ⟨rfl, trivial⟩, hR, hu1⟩
  rintro σ w1 ⟨⟨ρ, rfl⟩, hR, hu1⟩
  refine n_then ?_
  have hzl : (xs.mapIdx markW).length = xs.length := by simp
  have hrd : Rd w1 5 (.slice a0 xs.length c0) xs.length (fl Wt.cells (xs.mapIdx markW)) := by have := hR.rd; rw [hzl] at this; exact this
  have hz : ∀ j x, xs[j]? = some x → (xs.mapIdx markW)[j]? = some (markW j x) := fun j x hj => by rw [List.getElem?_mapIdx, hj]; rfl
  (repeat (first | refine swp_seq ?_ | refine swp_block ?_)); refine swp_region (by kernel_rfl) ?_
  repeat (first | refine x_move (by rfl) ?_ | refine x_as (by rfl) (by rfl) ?_ | refine x_skip (by rfl) ?_ | refine x_fld (by rfl) (by rfl) FldO.h ?_)
  refine x_nilw ?_
  refine swp_fit [(0, .slice a0 xs.length c0), (9, .int .i64 ((0 : Nat) : Int))] ⟨rfl, rfl, trivial⟩ fun ρ => ?_
  (repeat (first | refine swp_seq ?_ | refine swp_block ?_))
  refine swp_loop (fun (i : Nat) σ w' => At σ [(0, .slice a0 xs.length c0), (9, .int .i64 (i : Nat))] ∧ i ≤ xs.length ∧ Ext w1 w') (fun i => xs.length - i) 0 ⟨at_ ⟨rfl, rfl, trivial⟩, by omega, Upd.refl _ _⟩ ?_
  rintro i σ w2 ⟨⟨ρ, rfl⟩, hi, hu⟩
  (repeat (first | refine swp_seq ?_ | refine swp_block ?_)); refine swp_region (by kernel_rfl) ?_
  repeat (first | refine x_move (by rfl) ?_ | refine x_as (by rfl) (by rfl) ?_ | refine x_len (by rfl) (by rfl) ElOf.some ?_ | refine x_add (by rfl) (by rfl) (by rfl) (by omega) ?_ | refine x_lss (by rfl) (by rfl) (by rfl) ?_)
  refine x_nilw ?_
  (repeat (first | refine swp_seq ?_ | refine swp_block ?_))
  refine swp_if (by rfl) (fun hc => swp_skip ?_) (fun hc => ?_)
  · have hi' : i < xs.length := by omega
    have hxe := nthE hi'
    obtain ⟨x, hxi0⟩ := hxe
    have L := hx x (List.mem_of_getElem? hxi0)
    have Ln := L.n; have Ll := L.l; have Lv := L.v; have Lb := L.b
    have hyi := hz i x hxi0
    have hP := hR.item (List.mem_of_getElem? hyi)
    have hps := h.rd.pos (by omega)
    obtain ⟨pb, po, pd, hpe, -, -⟩ := hps
    simp only [Value.slice.injEq] at hpe
    obtain ⟨rfl, _, rfl⟩ := hpe
    have rV1 : Rd w1 2 (.slice x.m.na x.m.names.length x.m.nc) x.m.names.length (fl Nm.cells ((List.range x.m.names.length).map fun _ => nmk (i : Nat) 0)) := by
      have := (Wt.own_n hP).rd
      simp only [markW, Mt.ns, List.length_map, List.length_range] at this
      exact this
    have rV2 : Rd w1 1 (.slice x.m.la x.m.lens.length x.m.lc) x.m.lens.length (fl encN ((List.range x.m.lens.length).map fun _ => ((i : Nat) : Int))) := by
      have := (Wt.own_l hP).rd
      simp only [markW, Mt.ls, List.length_map, List.length_range] at this
      exact this
    have rV3 : Rd w1 2 (.slice x.m.va x.m.vals.length x.m.vc) x.m.vals.length (fl Vl.cells ((List.range x.m.vals.length).map fun _ => vmk false (i : Nat))) := by
      have := (Wt.own_v hP).rd
      simp only [markW, Mt.vs, List.length_map, List.length_range] at this
      exact this
    have hbl : (x.bs.mapIdx fun k e => markE i k e).length = x.bs.length := by simp
    have rB : Rd w1 1 (.slice x.ba x.bs.length x.bc) x.bs.length (fl El.cells (x.bs.mapIdx fun k e => markE i k e)) := by
      have := (Wt.own_b hP).rd
      simp only [markW, Wt.bv, hbl] at this
      exact this
    have rE : ∀ (k : Nat) (e : El), x.bs[k]? = some e → Rd w1 11 (.slice e.a e.evs.length e.c) e.evs.length (fl Ev.cells ((List.range e.evs.length).map fun _ => emk (i : Nat) 0 (k : Nat))) := fun k e hk => by
      have hm : markE i k e ∈ (markW i x).bs := by
        show markE i k e ∈ x.bs.mapIdx fun k e => markE i k e
        refine List.mem_of_getElem? (i := k) ?_
        rw [List.getElem?_mapIdx, hk]
        rfl
      have := (Wt.own_e hP hm).rd
      simp only [markE, List.length_map, List.length_range] at this
      exact this
    (repeat (first | with_reducible refine n_then ?_ | with_reducible refine n_block ?_ | with_reducible refine n_jump ?_))
    refine swp_fit [(0, .slice (some ⟨pb, po, none⟩) xs.length c0), (9, .int .i64 (i : Nat))] ⟨rfl, rfl, trivial⟩ fun ρ => ?_
    refine swp_seq ?_
    refine swp_block ?_
    refine swp_seq ?_
    refine PEv.swp_cutQ (fun σ w' => At σ [(0, .slice (some ⟨pb, po, none⟩) xs.length c0), (9, .int .i64 (i : Nat))] ∧ Ext w1 w') ?_ ?_
    · (repeat (first | refine swp_seq ?_ | refine swp_block ?_)); refine swp_region (by kernel_rfl) ?_
      repeat (first | refine x_move (by rfl) ?_ | refine x_as (by rfl) (by rfl) ?_ | refine x_skip (by rfl) ?_ | refine x_fld (by rfl) (by rfl) FldO.h ?_)
      refine x_nilw ?_
      refine swp_fit [(0, .slice (some ⟨pb, po, none⟩) xs.length c0), (9, .int .i64 (i : Nat)), (10, .int .i64 ((0 : Nat) : Int))] ⟨rfl, rfl, rfl, trivial⟩ fun ρ => ?_
      (repeat (first | refine swp_seq ?_ | refine swp_block ?_))
      refine swp_loop (fun (q : Nat) σ w' => At σ [(0, .slice (some ⟨pb, po, none⟩) xs.length c0), (9, .int .i64 (i : Nat)), (10, .int .i64 (q : Nat))] ∧ q ≤ x.m.names.length ∧ Ext w1 w') (fun q => x.m.names.length - q) 0 ⟨at_ ⟨rfl, rfl, rfl, trivial⟩, by omega, hu⟩ ?_
      clear hu
      rintro q σ wq ⟨⟨ρ, rfl⟩, hq, hu⟩
      (repeat (first | refine swp_seq ?_ | refine swp_block ?_)); refine swp_region (by kernel_rfl) ?_
      repeat (first | refine x_move (by rfl) ?_ | refine x_as (by rfl) (by rfl) ?_ | refine x_skip (by rfl) ?_ | refine x_fld (by rfl) (by rfl) FldO.h ?_)
      refine x_idx i (by rfl) (by rfl) (by rfl) ElSz.h rfl hi' ?_
      repeat (first | refine x_move (by rfl) ?_ | refine x_as (by rfl) (by rfl) ?_ | refine x_skip (by rfl) ?_ | refine x_fld (by rfl) (by rfl) FldO.h ?_)
      refine w_load (by rfl) (by rfl) (load_one_cell OneT.h (rd_cell (v := .slice x.m.na x.m.names.length x.m.nc) (j := 1) wt_len (hrd.at hu) hyi (by rw [markW_cells]; rfl) hzl.symm rfl)) ?_
      repeat (first | refine x_move (by rfl) ?_ | refine x_as (by rfl) (by rfl) ?_ | refine x_len (by rfl) (by rfl) ElOf.some ?_ | refine x_add (by rfl) (by rfl) (by rfl) (by omega) ?_ | refine x_lss (by rfl) (by rfl) (by rfl) ?_)
      refine x_nilw ?_
      (repeat (first | refine swp_seq ?_ | refine swp_block ?_))
      refine swp_if (by rfl) (fun hcq => swp_skip ?_) (fun hcq => ?_)
      · have hq' : q < x.m.names.length := by omega
        have hpq := rV1.pos (by omega)
        obtain ⟨gb, go', gc, hVe, -, -⟩ := hpq
        have rVq := rV1.at hu
        rw [hVe] at rVq
        have hget : ((List.range x.m.names.length).map fun _ => nmk (i : Nat) 0)[q]? = some (nmk (i : Nat) 0) := by rw [List.getElem?_map, List.getElem?_range hq']; rfl
        (repeat (first | with_reducible refine n_then ?_ | with_reducible refine n_block ?_ | with_reducible refine n_jump ?_))
        (repeat (first | refine swp_seq ?_ | refine swp_block ?_)); refine swp_region (by kernel_rfl) ?_
        repeat (first | refine x_move (by rfl) ?_ | refine x_as (by rfl) (by rfl) ?_ | refine x_skip (by rfl) ?_ | refine x_fld (by rfl) (by rfl) FldO.h ?_)
        refine x_idx i (by rfl) (by rfl) (by rfl) ElSz.h rfl hi' ?_
        repeat (first | refine x_move (by rfl) ?_ | refine x_as (by rfl) (by rfl) ?_ | refine x_skip (by rfl) ?_ | refine x_fld (by rfl) (by rfl) FldO.h ?_)
        refine w_load (by rfl) (by rfl) (load_one_cell OneT.h (rd_cell (v := .slice (some ⟨gb, go', none⟩) x.m.names.length gc) (j := 1) wt_len (hrd.at hu) hyi (by rw [markW_cells, ← hVe]; rfl) hzl.symm rfl)) ?_
        repeat (first | refine x_move (by rfl) ?_ | refine x_as (by rfl) (by rfl) ?_ | refine x_skip (by rfl) ?_ | refine x_fld (by rfl) (by rfl) FldO.h ?_)
        refine x_idx q (by rfl) (by rfl) (by rfl) ElSz.h rfl hq' ?_
        repeat (first | refine x_move (by rfl) ?_ | refine x_as (by rfl) (by rfl) ?_ | refine x_skip (by rfl) ?_ | refine x_fld (by rfl) (by rfl) FldO.h ?_)
        refine w_load (by rfl) (by rfl) (load_one_cell OneT.h (rd_cell (v := .int .i64 (i : Nat)) (j := 0) nm_len' rVq hget rfl (by simp) rfl)) ?_
        repeat (first | refine x_move (by rfl) ?_ | refine x_as (by rfl) (by rfl) ?_ | refine x_skip (by rfl) ?_ | refine x_fld (by rfl) (by rfl) FldO.h ?_)
        refine x_neqF (by rfl) (by rfl) (by rfl) (fun h => h rfl) ?_
        repeat (first | refine x_move (by rfl) ?_ | refine x_as (by rfl) (by rfl) ?_ | refine x_skip (by rfl) ?_ | refine x_fld (by rfl) (by rfl) FldO.h ?_)
        refine x_nilw ?_
        (repeat (first | refine swp_seq ?_ | refine swp_block ?_))
        refine swp_false (by rfl) (swp_skip ?_)
        (repeat (first | with_reducible refine n_then ?_ | with_reducible refine n_block ?_ | with_reducible refine n_jump ?_))
        (repeat (first | refine swp_seq ?_ | refine swp_block ?_)); refine swp_region (by kernel_rfl) ?_
        repeat (first | refine x_move (by rfl) ?_ | refine x_as (by rfl) (by rfl) ?_ | refine x_len (by rfl) (by rfl) ElOf.some ?_ | refine x_add (by rfl) (by rfl) (by rfl) (by omega) ?_ | refine x_lss (by rfl) (by rfl) (by rfl) ?_)
        refine x_nilw ?_
        exact ⟨q + 1, ⟨at_ ⟨rfl, rfl, rfl, trivial⟩, hq', hu⟩, by omega⟩
      · refine swp_exit ?_; (repeat (first | with_reducible refine e_then ?_ | with_reducible refine e_jump ?_)); refine e_block ?_; (repeat (first | with_reducible refine n_then ?_ | with_reducible refine n_block ?_ | with_reducible refine n_jump ?_))
        exact ⟨rfl, at_ ⟨rfl, rfl, trivial⟩, hu⟩
    clear hu
    rintro σ w2 ⟨⟨ρ, rfl⟩, hu⟩
    refine n_then ?_
    refine swp_seq ?_
    refine PEv.swp_cutQ (fun σ w' => At σ [(0, .slice (some ⟨pb, po, none⟩) xs.length c0), (9, .int .i64 (i : Nat))] ∧ Ext w1 w') ?_ ?_
    · (repeat (first | refine swp_seq ?_ | refine swp_block ?_)); refine swp_region (by kernel_rfl) ?_
      repeat (first | refine x_move (by rfl) ?_ | refine x_as (by rfl) (by rfl) ?_ | refine x_skip (by rfl) ?_ | refine x_fld (by rfl) (by rfl) FldO.h ?_)
      refine x_nilw ?_
      refine swp_fit [(0, .slice (some ⟨pb, po, none⟩) xs.length c0), (9, .int .i64 (i : Nat)), (11, .int .i64 ((0 : Nat) : Int))] ⟨rfl, rfl, rfl, trivial⟩ fun ρ => ?_
      (repeat (first | refine swp_seq ?_ | refine swp_block ?_))
      refine swp_loop (fun (q : Nat) σ w' => At σ [(0, .slice (some ⟨pb, po, none⟩) xs.length c0), (9, .int .i64 (i : Nat)), (11, .int .i64 (q : Nat))] ∧ q ≤ x.m.lens.length ∧ Ext w1 w') (fun q => x.m.lens.length - q) 0 ⟨at_ ⟨rfl, rfl, rfl, trivial⟩, by omega, hu⟩ ?_
      clear hu
      rintro q σ wq ⟨⟨ρ, rfl⟩, hq, hu⟩
      (repeat (first | refine swp_seq ?_ | refine swp_block ?_)); refine swp_region (by kernel_rfl) ?_
      repeat (first | refine x_move (by rfl) ?_ | refine x_as (by rfl) (by rfl) ?_ | refine x_skip (by rfl) ?_ | refine x_fld (by rfl) (by rfl) FldO.h ?_)
      refine x_idx i (by rfl) (by rfl) (by rfl) ElSz.h rfl hi' ?_
      repeat (first | refine x_move (by rfl) ?_ | refine x_as (by rfl) (by rfl) ?_ | refine x_skip (by rfl) ?_ | refine x_fld (by rfl) (by rfl) FldO.h ?_)
      refine w_load (by rfl) (by rfl) (load_one_cell OneT.h (rd_cell (v := .slice x.m.la x.m.lens.length x.m.lc) (j := 2) wt_len (hrd.at hu) hyi (by rw [markW_cells]; rfl) hzl.symm rfl)) ?_
      repeat (first | refine x_move (by rfl) ?_ | refine x_as (by rfl) (by rfl) ?_ | refine x_len (by rfl) (by rfl) ElOf.some ?_ | refine x_add (by rfl) (by rfl) (by rfl) (by omega) ?_ | refine x_lss (by rfl) (by rfl) (by rfl) ?_)
      refine x_nilw ?_
      (repeat (first | refine swp_seq ?_ | refine swp_block ?_))
      refine swp_if (by rfl) (fun hcq => swp_skip ?_) (fun hcq => ?_)
      · have hq' : q < x.m.lens.length := by omega
        have hpq := rV2.pos (by omega)
        obtain ⟨gb, go', gc, hVe, -, -⟩ := hpq
        have rVq := rV2.at hu
        rw [hVe] at rVq
        have hget : ((List.range x.m.lens.length).map fun _ => ((i : Nat) : Int))[q]? = some ((i : Nat) : Int) := by rw [List.getElem?_map, List.getElem?_range hq']; rfl
        (repeat (first | with_reducible refine n_then ?_ | with_reducible refine n_block ?_ | with_reducible refine n_jump ?_))
        (repeat (first | refine swp_seq ?_ | refine swp_block ?_)); refine swp_region (by kernel_rfl) ?_
        repeat (first | refine x_move (by rfl) ?_ | refine x_as (by rfl) (by rfl) ?_ | refine x_skip (by rfl) ?_ | refine x_fld (by rfl) (by rfl) FldO.h ?_)
        refine x_idx i (by rfl) (by rfl) (by rfl) ElSz.h rfl hi' ?_
        repeat (first | refine x_move (by rfl) ?_ | refine x_as (by rfl) (by rfl) ?_ | refine x_skip (by rfl) ?_ | refine x_fld (by rfl) (by rfl) FldO.h ?_)
        refine w_load (by rfl) (by rfl) (load_one_cell OneT.h (rd_cell (v := .slice (some ⟨gb, go', none⟩) x.m.lens.length gc) (j := 2) wt_len (hrd.at hu) hyi (by rw [markW_cells, ← hVe]; rfl) hzl.symm rfl)) ?_
        repeat (first | refine x_move (by rfl) ?_ | refine x_as (by rfl) (by rfl) ?_ | refine x_skip (by rfl) ?_ | refine x_fld (by rfl) (by rfl) FldO.h ?_)
        refine x_idx q (by rfl) (by rfl) (by rfl) ElSz.h rfl hq' ?_
        refine w_load (by rfl) (by rfl) (load_one_cell OneT.h (rd_cell (v := .int .i64 (i : Nat)) (j := 0) encN_len rVq hget rfl (by simp) rfl)) ?_
        repeat (first | refine x_move (by rfl) ?_ | refine x_as (by rfl) (by rfl) ?_ | refine x_skip (by rfl) ?_ | refine x_fld (by rfl) (by rfl) FldO.h ?_)
        refine x_neqF (by rfl) (by rfl) (by rfl) (fun h => h rfl) ?_
        repeat (first | refine x_move (by rfl) ?_ | refine x_as (by rfl) (by rfl) ?_ | refine x_skip (by rfl) ?_ | refine x_fld (by rfl) (by rfl) FldO.h ?_)
        refine x_nilw ?_
        (repeat (first | refine swp_seq ?_ | refine swp_block ?_))
        refine swp_false (by rfl) (swp_skip ?_)
        (repeat (first | with_reducible refine n_then ?_ | with_reducible refine n_block ?_ | with_reducible refine n_jump ?_))
        (repeat (first | refine swp_seq ?_ | refine swp_block ?_)); refine swp_region (by kernel_rfl) ?_
        repeat (first | refine x_move (by rfl) ?_ | refine x_as (by rfl) (by rfl) ?_ | refine x_len (by rfl) (by rfl) ElOf.some ?_ | refine x_add (by rfl) (by rfl) (by rfl) (by omega) ?_ | refine x_lss (by rfl) (by rfl) (by rfl) ?_)
        refine x_nilw ?_
        exact ⟨q + 1, ⟨at_ ⟨rfl, rfl, rfl, trivial⟩, hq', hu⟩, by omega⟩
      · refine swp_exit ?_; (repeat (first | with_reducible refine e_then ?_ | with_reducible refine e_jump ?_)); refine e_block ?_; (repeat (first | with_reducible refine n_then ?_ | with_reducible refine n_block ?_ | with_reducible refine n_jump ?_))
        exact ⟨rfl, at_ ⟨rfl, rfl, trivial⟩, hu⟩
    clear hu
    rintro σ w2 ⟨⟨ρ, rfl⟩, hu⟩
    refine n_then ?_
    refine swp_seq ?_
    refine PEv.swp_cutQ (fun σ w' => At σ [(0, .slice (some ⟨pb, po, none⟩) xs.length c0), (9, .int .i64 (i : Nat))] ∧ Ext w1 w') ?_ ?_
    · (repeat (first | refine swp_seq ?_ | refine swp_block ?_)); refine swp_region (by kernel_rfl) ?_
      repeat (first | refine x_move (by rfl) ?_ | refine x_as (by rfl) (by rfl) ?_ | refine x_skip (by rfl) ?_ | refine x_fld (by rfl) (by rfl) FldO.h ?_)
      refine x_nilw ?_
      refine swp_fit [(0, .slice (some ⟨pb, po, none⟩) xs.length c0), (9, .int .i64 (i : Nat)), (12, .int .i64 ((0 : Nat) : Int))] ⟨rfl, rfl, rfl, trivial⟩ fun ρ => ?_
      (repeat (first | refine swp_seq ?_ | refine swp_block ?_))
      refine swp_loop (fun (q : Nat) σ w' => At σ [(0, .slice (some ⟨pb, po, none⟩) xs.length c0), (9, .int .i64 (i : Nat)), (12, .int .i64 (q : Nat))] ∧ q ≤ x.m.vals.length ∧ Ext w1 w') (fun q => x.m.vals.length - q) 0 ⟨at_ ⟨rfl, rfl, rfl, trivial⟩, by omega, hu⟩ ?_
      clear hu
      rintro q σ wq ⟨⟨ρ, rfl⟩, hq, hu⟩
      (repeat (first | refine swp_seq ?_ | refine swp_block ?_)); refine swp_region (by kernel_rfl) ?_
      repeat (first | refine x_move (by rfl) ?_ | refine x_as (by rfl) (by rfl) ?_ | refine x_skip (by rfl) ?_ | refine x_fld (by rfl) (by rfl) FldO.h ?_)
      refine x_idx i (by rfl) (by rfl) (by rfl) ElSz.h rfl hi' ?_
      repeat (first | refine x_move (by rfl) ?_ | refine x_as (by rfl) (by rfl) ?_ | refine x_skip (by rfl) ?_ | refine x_fld (by rfl) (by rfl) FldO.h ?_)
      refine w_load (by rfl) (by rfl) (load_one_cell OneT.h (rd_cell (v := .slice x.m.va x.m.vals.length x.m.vc) (j := 3) wt_len (hrd.at hu) hyi (by rw [markW_cells]; rfl) hzl.symm rfl)) ?_
      repeat (first | refine x_move (by rfl) ?_ | refine x_as (by rfl) (by rfl) ?_ | refine x_len (by rfl) (by rfl) ElOf.some ?_ | refine x_add (by rfl) (by rfl) (by rfl) (by omega) ?_ | refine x_lss (by rfl) (by rfl) (by rfl) ?_)
      refine x_nilw ?_
      (repeat (first | refine swp_seq ?_ | refine swp_block ?_))
      refine swp_if (by rfl) (fun hcq => swp_skip ?_) (fun hcq => ?_)
      · have hq' : q < x.m.vals.length := by omega
        have hpq := rV3.pos (by omega)
        obtain ⟨gb, go', gc, hVe, -, -⟩ := hpq
        have rVq := rV3.at hu
        rw [hVe] at rVq
        have hget : ((List.range x.m.vals.length).map fun _ => vmk false (i : Nat))[q]? = some (vmk false (i : Nat)) := by rw [List.getElem?_map, List.getElem?_range hq']; rfl
        (repeat (first | with_reducible refine n_then ?_ | with_reducible refine n_block ?_ | with_reducible refine n_jump ?_))
        (repeat (first | refine swp_seq ?_ | refine swp_block ?_)); refine swp_region (by kernel_rfl) ?_
        repeat (first | refine x_move (by rfl) ?_ | refine x_as (by rfl) (by rfl) ?_ | refine x_skip (by rfl) ?_ | refine x_fld (by rfl) (by rfl) FldO.h ?_)
        refine x_idx i (by rfl) (by rfl) (by rfl) ElSz.h rfl hi' ?_
        repeat (first | refine x_move (by rfl) ?_ | refine x_as (by rfl) (by rfl) ?_ | refine x_skip (by rfl) ?_ | refine x_fld (by rfl) (by rfl) FldO.h ?_)
        refine w_load (by rfl) (by rfl) (load_one_cell OneT.h (rd_cell (v := .slice (some ⟨gb, go', none⟩) x.m.vals.length gc) (j := 3) wt_len (hrd.at hu) hyi (by rw [markW_cells, ← hVe]; rfl) hzl.symm rfl)) ?_
        repeat (first | refine x_move (by rfl) ?_ | refine x_as (by rfl) (by rfl) ?_ | refine x_skip (by rfl) ?_ | refine x_fld (by rfl) (by rfl) FldO.h ?_)
        refine x_idx q (by rfl) (by rfl) (by rfl) ElSz.h rfl hq' ?_
        repeat (first | refine x_move (by rfl) ?_ | refine x_as (by rfl) (by rfl) ?_ | refine x_skip (by rfl) ?_ | refine x_fld (by rfl) (by rfl) FldO.h ?_)
        refine w_load (by rfl) (by rfl) (load_one_cell OneT.h (rd_cell (v := .int .i64 (i : Nat)) (j := 1) vl_len rVq hget rfl (by simp) rfl)) ?_
        repeat (first | refine x_move (by rfl) ?_ | refine x_as (by rfl) (by rfl) ?_ | refine x_skip (by rfl) ?_ | refine x_fld (by rfl) (by rfl) FldO.h ?_)
        refine x_neqF (by rfl) (by rfl) (by rfl) (fun h => h rfl) ?_
        repeat (first | refine x_move (by rfl) ?_ | refine x_as (by rfl) (by rfl) ?_ | refine x_skip (by rfl) ?_ | refine x_fld (by rfl) (by rfl) FldO.h ?_)
        refine x_nilw ?_
        (repeat (first | refine swp_seq ?_ | refine swp_block ?_))
        refine swp_false (by rfl) (swp_skip ?_)
        (repeat (first | with_reducible refine n_then ?_ | with_reducible refine n_block ?_ | with_reducible refine n_jump ?_))
        (repeat (first | refine swp_seq ?_ | refine swp_block ?_)); refine swp_region (by kernel_rfl) ?_
        repeat (first | refine x_move (by rfl) ?_ | refine x_as (by rfl) (by rfl) ?_ | refine x_len (by rfl) (by rfl) ElOf.some ?_ | refine x_add (by rfl) (by rfl) (by rfl) (by omega) ?_ | refine x_lss (by rfl) (by rfl) (by rfl) ?_)
        refine x_nilw ?_
        exact ⟨q + 1, ⟨at_ ⟨rfl, rfl, rfl, trivial⟩, hq', hu⟩, by omega⟩
      · refine swp_exit ?_; (repeat (first | with_reducible refine e_then ?_ | with_reducible refine e_jump ?_)); refine e_block ?_; (repeat (first | with_reducible refine n_then ?_ | with_reducible refine n_block ?_ | with_reducible refine n_jump ?_))
        exact ⟨rfl, at_ ⟨rfl, rfl, trivial⟩, hu⟩
    clear hu
    rintro σ w2 ⟨⟨ρ, rfl⟩, hu⟩
    refine n_then ?_
    refine PEv.swp_cutQ (fun σ w' => At σ [(0, .slice (some ⟨pb, po, none⟩) xs.length c0), (9, .int .i64 (i : Nat))] ∧ Ext w1 w') ?_ ?_
    · (repeat (first | refine swp_seq ?_ | refine swp_block ?_)); refine swp_region (by kernel_rfl) ?_
      repeat (first | refine x_move (by rfl) ?_ | refine x_as (by rfl) (by rfl) ?_ | refine x_skip (by rfl) ?_ | refine x_fld (by rfl) (by rfl) FldO.h ?_)
      refine x_nilw ?_
      refine swp_fit [(0, .slice (some ⟨pb, po, none⟩) xs.length c0), (9, .int .i64 (i : Nat)), (13, .int .i64 ((0 : Nat) : Int))] ⟨rfl, rfl, rfl, trivial⟩ fun ρ => ?_
      (repeat (first | refine swp_seq ?_ | refine swp_block ?_))
      refine swp_loop (fun (k : Nat) σ w' => At σ [(0, .slice (some ⟨pb, po, none⟩) xs.length c0), (9, .int .i64 (i : Nat)), (13, .int .i64 (k : Nat))] ∧ k ≤ x.bs.length ∧ Ext w1 w') (fun k => x.bs.length - k) 0 ⟨at_ ⟨rfl, rfl, rfl, trivial⟩, by omega, hu⟩ ?_
      clear hu
      rintro k σ w2 ⟨⟨ρ, rfl⟩, hk, hu⟩
      (repeat (first | refine swp_seq ?_ | refine swp_block ?_)); refine swp_region (by kernel_rfl) ?_
      repeat (first | refine x_move (by rfl) ?_ | refine x_as (by rfl) (by rfl) ?_ | refine x_skip (by rfl) ?_ | refine x_fld (by rfl) (by rfl) FldO.h ?_)
      refine x_idx i (by rfl) (by rfl) (by rfl) ElSz.h rfl hi' ?_
      repeat (first | refine x_move (by rfl) ?_ | refine x_as (by rfl) (by rfl) ?_ | refine x_skip (by rfl) ?_ | refine x_fld (by rfl) (by rfl) FldO.h ?_)
      refine w_load (by rfl) (by rfl) (load_one_cell OneT.h (rd_cell (v := .slice x.ba x.bs.length x.bc) (j := 4) wt_len (hrd.at hu) hyi (by rw [markW_cells]; rfl) hzl.symm rfl)) ?_
      repeat (first | refine x_move (by rfl) ?_ | refine x_as (by rfl) (by rfl) ?_ | refine x_len (by rfl) (by rfl) ElOf.some ?_ | refine x_add (by rfl) (by rfl) (by rfl) (by omega) ?_ | refine x_lss (by rfl) (by rfl) (by rfl) ?_)
      refine x_nilw ?_
      (repeat (first | refine swp_seq ?_ | refine swp_block ?_))
      refine swp_if (by rfl) (fun hck => swp_skip ?_) (fun hck => ?_)
      · have hk' : k < x.bs.length := by omega
        have hee0 := nthE hk'
        obtain ⟨e, hee⟩ := hee0
        have Le := L.e e (List.mem_of_getElem? hee)
        have hem : (x.bs.mapIdx fun k e => markE i k e)[k]? = some (markE i k e) := by rw [List.getElem?_mapIdx, hee]; rfl
        have rEk := rE k e hee
        have pbv := rB.pos (by omega)
        obtain ⟨vb, vo, vc, hve, -, -⟩ := pbv
        have rB' := rB
        rw [hve] at rB'
        (repeat (first | with_reducible refine n_then ?_ | with_reducible refine n_block ?_ | with_reducible refine n_jump ?_))
        refine swp_fit [(0, .slice (some ⟨pb, po, none⟩) xs.length c0), (9, .int .i64 (i : Nat)), (13, .int .i64 (k : Nat))] ⟨rfl, rfl, rfl, trivial⟩ fun ρ => ?_
        refine swp_seq ?_
        refine swp_block ?_
        refine PEv.swp_cutQ (fun σ w' => At σ [(0, .slice (some ⟨pb, po, none⟩) xs.length c0), (9, .int .i64 (i : Nat)), (13, .int .i64 (k : Nat))] ∧ Ext w1 w') ?_ ?_
        · (repeat (first | refine swp_seq ?_ | refine swp_block ?_)); refine swp_region (by kernel_rfl) ?_
          repeat (first | refine x_move (by rfl) ?_ | refine x_as (by rfl) (by rfl) ?_ | refine x_skip (by rfl) ?_ | refine x_fld (by rfl) (by rfl) FldO.h ?_)
          refine x_nilw ?_
          refine swp_fit [(0, .slice (some ⟨pb, po, none⟩) xs.length c0), (9, .int .i64 (i : Nat)), (13, .int .i64 (k : Nat)), (14, .int .i64 ((0 : Nat) : Int))] ⟨rfl, rfl, rfl, rfl, trivial⟩ fun ρ => ?_
          (repeat (first | refine swp_seq ?_ | refine swp_block ?_))
          refine swp_loop (fun (q : Nat) σ w' => At σ [(0, .slice (some ⟨pb, po, none⟩) xs.length c0), (9, .int .i64 (i : Nat)), (13, .int .i64 (k : Nat)), (14, .int .i64 (q : Nat))] ∧ q ≤ e.evs.length ∧ Ext w1 w') (fun q => e.evs.length - q) 0 ⟨at_ ⟨rfl, rfl, rfl, rfl, trivial⟩, by omega, hu⟩ ?_
          clear hu
          rintro q σ wq ⟨⟨ρ, rfl⟩, hq, hu⟩
          (repeat (first | refine swp_seq ?_ | refine swp_block ?_)); refine swp_region (by kernel_rfl) ?_
          repeat (first | refine x_move (by rfl) ?_ | refine x_as (by rfl) (by rfl) ?_ | refine x_skip (by rfl) ?_ | refine x_fld (by rfl) (by rfl) FldO.h ?_)
          refine x_idx i (by rfl) (by rfl) (by rfl) ElSz.h rfl hi' ?_
          repeat (first | refine x_move (by rfl) ?_ | refine x_as (by rfl) (by rfl) ?_ | refine x_skip (by rfl) ?_ | refine x_fld (by rfl) (by rfl) FldO.h ?_)
          refine w_load (by rfl) (by rfl) (load_one_cell OneT.h (rd_cell (v := .slice (some ⟨vb, vo, none⟩) x.bs.length vc) (j := 4) wt_len (hrd.at hu) hyi (by rw [markW_cells, ← hve]; rfl) hzl.symm rfl)) ?_
          repeat (first | refine x_move (by rfl) ?_ | refine x_as (by rfl) (by rfl) ?_ | refine x_skip (by rfl) ?_ | refine x_fld (by rfl) (by rfl) FldO.h ?_)
          refine x_idx k (by rfl) (by rfl) (by rfl) ElSz.h rfl hk' ?_
          refine w_load (by rfl) (by rfl) (load_one_cell OneT.h (rd_cell (v := .slice e.a e.evs.length e.c) (j := 0) el_len (rB'.at hu) hem (by rw [markE_cells]; rfl) hbl.symm rfl)) ?_
          repeat (first | refine x_move (by rfl) ?_ | refine x_as (by rfl) (by rfl) ?_ | refine x_len (by rfl) (by rfl) ElOf.some ?_ | refine x_add (by rfl) (by rfl) (by rfl) (by omega) ?_ | refine x_lss (by rfl) (by rfl) (by rfl) ?_)
          refine x_nilw ?_
          (repeat (first | refine swp_seq ?_ | refine swp_block ?_))
          refine swp_if (by rfl) (fun hcq => swp_skip ?_) (fun hcq => ?_)
          · have hq' : q < e.evs.length := by omega
            have hpq := rEk.pos (by omega)
            obtain ⟨gb, go', gc, hVe, -, -⟩ := hpq
            have rVq := rEk.at hu
            rw [hVe] at rVq
            have hget : ((List.range e.evs.length).map fun _ => emk (i : Nat) 0 (k : Nat))[q]? = some (emk (i : Nat) 0 (k : Nat)) := by rw [List.getElem?_map, List.getElem?_range hq']; rfl
            (repeat (first | with_reducible refine n_then ?_ | with_reducible refine n_block ?_ | with_reducible refine n_jump ?_))
            (repeat (first | refine swp_seq ?_ | refine swp_block ?_)); refine swp_region (by kernel_rfl) ?_
            repeat (first | refine x_move (by rfl) ?_ | refine x_as (by rfl) (by rfl) ?_ | refine x_skip (by rfl) ?_ | refine x_fld (by rfl) (by rfl) FldO.h ?_)
            refine x_idx i (by rfl) (by rfl) (by rfl) ElSz.h rfl hi' ?_
            repeat (first | refine x_move (by rfl) ?_ | refine x_as (by rfl) (by rfl) ?_ | refine x_skip (by rfl) ?_ | refine x_fld (by rfl) (by rfl) FldO.h ?_)
            refine w_load (by rfl) (by rfl) (load_one_cell OneT.h (rd_cell (v := .slice (some ⟨vb, vo, none⟩) x.bs.length vc) (j := 4) wt_len (hrd.at hu) hyi (by rw [markW_cells, ← hve]; rfl) hzl.symm rfl)) ?_
            repeat (first | refine x_move (by rfl) ?_ | refine x_as (by rfl) (by rfl) ?_ | refine x_skip (by rfl) ?_ | refine x_fld (by rfl) (by rfl) FldO.h ?_)
            refine x_idx k (by rfl) (by rfl) (by rfl) ElSz.h rfl hk' ?_
            refine w_load (by rfl) (by rfl) (load_one_cell OneT.h (rd_cell (v := .slice (some ⟨gb, go', none⟩) e.evs.length gc) (j := 0) el_len (rB'.at hu) hem (by rw [markE_cells, ← hVe]; rfl) hbl.symm rfl)) ?_
            repeat (first | refine x_move (by rfl) ?_ | refine x_as (by rfl) (by rfl) ?_ | refine x_skip (by rfl) ?_ | refine x_fld (by rfl) (by rfl) FldO.h ?_)
            refine x_idx q (by rfl) (by rfl) (by rfl) ElSz.h rfl hq' ?_
            repeat (first | refine x_move (by rfl) ?_ | refine x_as (by rfl) (by rfl) ?_ | refine x_skip (by rfl) ?_ | refine x_fld (by rfl) (by rfl) FldO.h ?_)
            refine w_load (by rfl) (by rfl) (load_one_cell OneT.h (rd_cell (v := .int .i64 (i : Nat)) (j := 0) ev_len rVq hget rfl (by simp) rfl)) ?_
            repeat (first | refine x_move (by rfl) ?_ | refine x_as (by rfl) (by rfl) ?_ | refine x_skip (by rfl) ?_ | refine x_fld (by rfl) (by rfl) FldO.h ?_)
            refine x_neqF (by rfl) (by rfl) (by rfl) (fun h => h rfl) ?_
            repeat (first | refine x_move (by rfl) ?_ | refine x_as (by rfl) (by rfl) ?_ | refine x_skip (by rfl) ?_ | refine x_fld (by rfl) (by rfl) FldO.h ?_)
            repeat (first | refine x_move (by rfl) ?_ | refine x_as (by rfl) (by rfl) ?_ | refine x_skip (by rfl) ?_ | refine x_fld (by rfl) (by rfl) FldO.h ?_)
            refine x_idx i (by rfl) (by rfl) (by rfl) ElSz.h rfl hi' ?_
            repeat (first | refine x_move (by rfl) ?_ | refine x_as (by rfl) (by rfl) ?_ | refine x_skip (by rfl) ?_ | refine x_fld (by rfl) (by rfl) FldO.h ?_)
            refine w_load (by rfl) (by rfl) (load_one_cell OneT.h (rd_cell (v := .slice (some ⟨vb, vo, none⟩) x.bs.length vc) (j := 4) wt_len (hrd.at hu) hyi (by rw [markW_cells, ← hve]; rfl) hzl.symm rfl)) ?_
            repeat (first | refine x_move (by rfl) ?_ | refine x_as (by rfl) (by rfl) ?_ | refine x_skip (by rfl) ?_ | refine x_fld (by rfl) (by rfl) FldO.h ?_)
            refine x_idx k (by rfl) (by rfl) (by rfl) ElSz.h rfl hk' ?_
            refine w_load (by rfl) (by rfl) (load_one_cell OneT.h (rd_cell (v := .slice (some ⟨gb, go', none⟩) e.evs.length gc) (j := 0) el_len (rB'.at hu) hem (by rw [markE_cells, ← hVe]; rfl) hbl.symm rfl)) ?_
            repeat (first | refine x_move (by rfl) ?_ | refine x_as (by rfl) (by rfl) ?_ | refine x_skip (by rfl) ?_ | refine x_fld (by rfl) (by rfl) FldO.h ?_)
            refine x_idx q (by rfl) (by rfl) (by rfl) ElSz.h rfl hq' ?_
            repeat (first | refine x_move (by rfl) ?_ | refine x_as (by rfl) (by rfl) ?_ | refine x_skip (by rfl) ?_ | refine x_fld (by rfl) (by rfl) FldO.h ?_)
            refine w_load (by rfl) (by rfl) (load_one_cell OneT.h (rd_cell (v := .int .i64 (k : Nat)) (j := 2) ev_len rVq hget rfl (by simp) rfl)) ?_
            repeat (first | refine x_move (by rfl) ?_ | refine x_as (by rfl) (by rfl) ?_ | refine x_skip (by rfl) ?_ | refine x_fld (by rfl) (by rfl) FldO.h ?_)
            refine x_neqF (by rfl) (by rfl) (by rfl) (fun h => h rfl) ?_
            repeat (first | refine x_move (by rfl) ?_ | refine x_as (by rfl) (by rfl) ?_ | refine x_skip (by rfl) ?_ | refine x_fld (by rfl) (by rfl) FldO.h ?_ | refine x_nilck (by rfl) (by rfl) ?_ | refine x_len (by rfl) (by rfl) ElOf.some ?_ | refine x_ext (by rfl) (by rfl) (by rfl) ?_ | refine x_pickT (by rfl) (by rfl) (by rfl) ?_ | refine x_pickF (by rfl) (by rfl) (by rfl) ?_ | refine x_add (by rfl) (by rfl) (by rfl) (by omega) ?_ | refine x_sub (by rfl) (by rfl) (by rfl) (by omega) ?_ | refine x_not (by rfl) (by rfl) ?_)
            refine x_nilw ?_
            (repeat (first | refine swp_seq ?_ | refine swp_block ?_))
            refine swp_false (by rfl) (swp_skip ?_)
            (repeat (first | with_reducible refine n_then ?_ | with_reducible refine n_block ?_ | with_reducible refine n_jump ?_))
            (repeat (first | refine swp_seq ?_ | refine swp_block ?_)); refine swp_region (by kernel_rfl) ?_
            repeat (first | refine x_move (by rfl) ?_ | refine x_as (by rfl) (by rfl) ?_ | refine x_len (by rfl) (by rfl) ElOf.some ?_ | refine x_add (by rfl) (by rfl) (by rfl) (by omega) ?_ | refine x_lss (by rfl) (by rfl) (by rfl) ?_)
            refine x_nilw ?_
            exact ⟨q + 1, ⟨at_ ⟨rfl, rfl, rfl, rfl, trivial⟩, hq', hu⟩, by omega⟩
          · refine swp_exit ?_; (repeat (first | with_reducible refine e_then ?_ | with_reducible refine e_jump ?_)); refine e_block ?_; (repeat (first | with_reducible refine n_then ?_ | with_reducible refine n_block ?_ | with_reducible refine n_jump ?_))
            exact ⟨rfl, at_ ⟨rfl, rfl, rfl, trivial⟩, hu⟩
        clear hu
        rintro σ w2 ⟨⟨ρ, rfl⟩, hu⟩
        (repeat (first | with_reducible refine n_then ?_ | with_reducible refine n_block ?_ | with_reducible refine n_jump ?_))
        (repeat (first | refine swp_seq ?_ | refine swp_block ?_)); refine swp_region (by kernel_rfl) ?_
        repeat (first | refine x_move (by rfl) ?_ | refine x_as (by rfl) (by rfl) ?_ | refine x_len (by rfl) (by rfl) ElOf.some ?_ | refine x_add (by rfl) (by rfl) (by rfl) (by omega) ?_ | refine x_lss (by rfl) (by rfl) (by rfl) ?_)
        refine x_nilw ?_
        exact ⟨k + 1, ⟨at_ ⟨rfl, rfl, rfl, trivial⟩, hk', hu⟩, by omega⟩
      · refine swp_exit ?_; (repeat (first | with_reducible refine e_then ?_ | with_reducible refine e_jump ?_)); refine e_block ?_; (repeat (first | with_reducible refine n_then ?_ | with_reducible refine n_block ?_ | with_reducible refine n_jump ?_))
        exact ⟨rfl, at_ ⟨rfl, rfl, trivial⟩, hu⟩
    clear hu
    rintro σ w2 ⟨⟨ρ, rfl⟩, hu⟩
    (repeat (first | with_reducible refine n_then ?_ | with_reducible refine n_block ?_ | with_reducible refine n_jump ?_))
    (repeat (first | refine swp_seq ?_ | refine swp_block ?_)); refine swp_region (by kernel_rfl) ?_
    repeat (first | refine x_move (by rfl) ?_ | refine x_as (by rfl) (by rfl) ?_ | refine x_len (by rfl) (by rfl) ElOf.some ?_ | refine x_add (by rfl) (by rfl) (by rfl) (by omega) ?_ | refine x_lss (by rfl) (by rfl) (by rfl) ?_)
    refine x_nilw ?_
    exact ⟨i + 1, ⟨at_ ⟨rfl, rfl, trivial⟩, hi', hu⟩, by omega⟩
  · refine swp_exit ?_; (repeat (first | with_reducible refine e_then ?_ | with_reducible refine e_jump ?_)); refine e_block ?_; (repeat (first | with_reducible refine n_then ?_ | with_reducible refine n_block ?_ | with_reducible refine n_jump ?_))
    (repeat (first | refine swp_seq ?_ | refine swp_block ?_)); refine swp_region (by kernel_rfl) ?_
    repeat (first | refine x_move (by rfl) ?_ | refine x_as (by rfl) (by rfl) ?_ | refine x_skip (by rfl) ?_ | refine x_fld (by rfl) (by rfl) FldO.h ?_)
    refine x_nilw ?_
    refine swp_ret ?_; (repeat (first | with_reducible refine r_then ?_ | with_reducible refine r_block ?_ | with_reducible refine r_jump ?_))
    have hcm : (xs.mapIdx markW).map Wt.cells = xs.map Wt.cells := by
      apply List.ext_getElem?
      intro j
      rw [List.getElem?_map, List.getElem?_mapIdx, List.getElem?_map]
      cases xs[j]? with
      | none => rfl
      | some e => simp [markW_cells]
    refine post1 rfl rfl ⟨_, rfl, rfl, ⟨xs.mapIdx markW, hcm, fun y hy => ?_, hR.at hu, fun b ⟨y, hy, hb⟩ => ?_⟩, hu1.ext hu⟩
    · obtain ⟨j, hj, rfl⟩ := List.getElem_of_mem hy
      rw [hzl] at hj
      have L := hx _ (List.getElem_mem hj)
      rw [List.getElem_mapIdx]
      refine ⟨by simp [markW]; exact L.n, by simp [markW]; exact L.l, by simp [markW]; exact L.v, by simp [markW]; exact L.b, fun e he => ?_⟩
      obtain ⟨k, hk, rfl⟩ := List.getElem_of_mem he
      have hk' : k < xs[j].bs.length := by simpa [markW] using hk
      have : (markW j xs[j]).bs[k] = markE j k xs[j].bs[k] := by simp [markW]
      rw [this, markE_len]
      exact L.e _ (List.getElem_mem hk')
    · obtain ⟨j, hj, rfl⟩ := List.getElem_of_mem hy
      rw [hzl] at hj
      refine ⟨xs[j], List.getElem_mem hj, ?_⟩
      rw [List.getElem_mapIdx] at hb
      exact markW_in hb
end Go.Proofs.Ytpnigekkbmanlaa
