/- apart: lists that lie apart keep what is written into each, and what is laid behind each. Conditions: few things, room. -/
import Derived.Test.YtnhecopgecoloaaKp
namespace Go.Proofs.Ytnhecopgecoloaa
open Hp Sx

def set1 {α : Type} (f : Nat → α) (i : Nat) (a : α) : Nat → α := fun j => if j = i then a else f j
theorem set1_eq {α : Type} (f : Nat → α) (i : Nat) (a : α) : set1 f i a i = a := if_pos rfl
theorem set1_ne {α : Type} (f : Nat → α) {i j : Nat} (a : α) (h : j ≠ i) : set1 f i a j = f j := if_neg h
/-- the lists, and what each has grown into -/
def apf (n : Nat) (V gv : Nat → Value) (X Y : Nat → List Ev) : As := As.all (fam n fun j => aTwin (V j) (gv j) (X j) (Y j))
def e1 (i : Nat) : Ev := mk ((1000 + i : Nat) : Int) 0
def e2 (i : Nat) : Ev := mk ((500000 + i : Nat) : Int) 1
def full (L : Nat → List Ev) (j : Nat) : List Ev := List.replicate (L j).length (e1 j)
theorem full_len (L : Nat → List Ev) (j : Nat) : (full L j).length = (L j).length := by simp [full]
theorem apf_at {n : Nat} {V gv : Nat → Value} {X Y : Nat → List Ev} {w : World} (h : (apf n V gv X Y).P w) {j : Nat} (hj : j < n) : Twin w (V j) (gv j) (X j) (Y j) := Star.nth h (fam_nth (f := fun j => aTwin (V j) (gv j) (X j) (Y j)) hj)
theorem apf_in {n : Nat} {V gv : Nat → Value} {X Y : Nat → List Ev} {j b : Nat} (hj : j < n) (hb : isIn (V j) b ∨ isIn (gv j) b) : (apf n V gv X Y).In b := ⟨_, List.mem_of_getElem? (fam_nth (f := fun j => aTwin (V j) (gv j) (X j) (Y j)) hj), hb⟩
theorem apf_upd {n i k : Nat} {V gv : Nat → Value} {X Y : Nat → List Ev} {F : Nat → Prop} {w w' : World} {sq : List As} {gv' : Nat → Value} {X' Y' : Nat → List Ev} (h : Star w sq) (hk : sq[k]? = some (apf n V gv X Y)) (hi : i < n) (hf : ∀ j, j ≠ i → gv' j = gv j ∧ X' j = X j ∧ Y' j = Y j) (u : Upd F w w') (hF : ∀ b, b < w.heap.size → F b → isIn (V i) b ∨ isIn (gv i) b) (p : Twin w' (V i) (gv' i) (X' i) (Y' i)) (hin : ∀ b, isIn (gv' i) b → isIn (gv i) b ∨ w.heap.size ≤ b) : Star w' (sq.set k (apf n V gv' X' Y')) :=
  fam_in (i := i) h hk hi (fun j hj => by obtain ⟨h1, h2, h3⟩ := hf j hj; show aTwin (V j) (gv' j) (X' j) (Y' j) = aTwin (V j) (gv j) (X j) (Y j); rw [h1, h2, h3]) u hF p fun b hb => by
    rcases hb with hb | hb
    · exact .inl (.inl hb)
    · exact (hin b hb).imp .inr id

set_option maxHeartbeats 4000000 in
set_option maxRecDepth 100000 in
theorem apart_ {w : World} {lv : Value} (n : Nat) (V : Nat → Value) (L : Nat → List Ev) (hs : Star w [apf n V V L L, aOwn 32 1 lv n (fl encV (vals n V))]) (hn : n ≤ 4611686018427387903) (hR : Room n 24) (hL : ∀ j, j < n → (L j).length ≤ 4096) :
    Gets Try.prog 29 [lv] w fun v w' => v = .bool true ∧ Upd (fun b => ∃ j, j < n ∧ isIn (V j) b) w w' := by
  have hVs : ∀ j, j < n → ∃ a c, V j = .slice a (L j).length c := fun j hj => (apf_at hs.1 hj).sl
  obtain ⟨la, lc, rfl⟩ := (show Own w 32 1 lv n (fl encV (vals n V)) from hs.2.2.1).slice
  refine ⟨GoFn.h, calls_of_swp 133 Try.func29 Try.ntmps29 rfl (Nat.le_of_ble_eq_true rfl) ?_⟩
  (repeat (first | refine swp_seq ?_ | refine swp_block ?_)); refine swp_region (by kernel_rfl) ?_
  repeat (first | refine x_move (by rfl) ?_ | refine x_as (by rfl) (by rfl) ?_ | refine x_skip (by rfl) ?_ | refine x_fld (by rfl) (by rfl) FldO.h ?_ | refine x_nilck (by rfl) (by rfl) ?_ | refine x_len (by rfl) (by rfl) ElOf.some ?_ | refine x_ext (by rfl) (by rfl) (by rfl) ?_ | refine x_pickT (by rfl) (by rfl) (by rfl) ?_ | refine x_pickF (by rfl) (by rfl) (by rfl) ?_ | refine x_add (by rfl) (by rfl) (by rfl) (by omega) ?_ | refine x_sub (by rfl) (by rfl) (by rfl) (by omega) ?_ | refine x_not (by rfl) (by rfl) ?_)
  refine x_nilw ?_
  (repeat (first | refine swp_seq ?_ | refine swp_block ?_)); refine swp_region (by kernel_rfl) ?_
  repeat (first | refine x_move (by rfl) ?_ | refine x_as (by rfl) (by rfl) ?_ | refine x_skip (by rfl) ?_ | refine x_fld (by rfl) (by rfl) FldO.h ?_ | refine x_nilck (by rfl) (by rfl) ?_ | refine x_len (by rfl) (by rfl) ElOf.some ?_ | refine x_ext (by rfl) (by rfl) (by rfl) ?_ | refine x_pickT (by rfl) (by rfl) (by rfl) ?_ | refine x_pickF (by rfl) (by rfl) (by rfl) ?_ | refine x_add (by rfl) (by rfl) (by rfl) (by omega) ?_ | refine x_sub (by rfl) (by rfl) (by rfl) (by omega) ?_ | refine x_not (by rfl) (by rfl) ?_)
  refine x_nilw ?_
  refine swp_fit [(0, .slice la n lc), (3, .int .i64 ((0 : Nat) : Int))] ⟨rfl, rfl, trivial⟩ fun ρ => ?_
  refine PEv.swp_cutQ (fun σ w' => At σ [(0, .slice la n lc)] ∧ Star w' [apf n V V (full L) (full L), aOwn 32 1 (.slice la n lc) n (fl encV (vals n V))] ∧ Upd (fun b => ∃ j, j < n ∧ isIn (V j) b) w w') ?_ ?_
  · (repeat (first | refine swp_seq ?_ | refine swp_block ?_))
    refine swp_loop (fun (i : Nat) σ w' => ∃ C, At σ [(0, .slice la n lc), (3, .int .i64 (i : Nat))] ∧ i ≤ n ∧ (∀ j, (C j).length = (L j).length) ∧ (∀ j, j < i → C j = full L j) ∧ Star w' [apf n V V C C, aOwn 32 1 (.slice la n lc) n (fl encV (vals n V))] ∧ Upd (fun b => ∃ j, j < n ∧ isIn (V j) b) w w') (fun i => n - i) 0 ⟨L, at_ ⟨rfl, rfl, trivial⟩, by omega, fun _ => rfl, fun j hj => absurd hj (by omega), hs, Upd.refl _ _⟩ ?_
    rintro i σ w1 ⟨C, ⟨ρ, rfl⟩, hi, hlen, hC, s1, u1⟩
    (repeat (first | refine swp_seq ?_ | refine swp_block ?_)); refine swp_region (by kernel_rfl) ?_
    repeat (first | refine x_move (by rfl) ?_ | refine x_as (by rfl) (by rfl) ?_ | refine x_skip (by rfl) ?_ | refine x_fld (by rfl) (by rfl) FldO.h ?_ | refine w_load (by rfl) (by rfl) (load_one OneT.h (by assumption) (by rfl)) ?_ | refine x_nilck (by rfl) (by rfl) ?_ | refine x_len (by rfl) (by rfl) ElOf.some ?_ | refine x_iface (by rfl) (by rfl) NIf.h ?_ | refine x_ext (by rfl) (by rfl) (by rfl) ?_ | refine x_pickT (by rfl) (by rfl) (by rfl) ?_ | refine x_pickF (by rfl) (by rfl) (by rfl) ?_ | refine x_add (by rfl) (by rfl) (by rfl) (by omega) ?_ | refine x_sub (by rfl) (by rfl) (by rfl) (by omega) ?_ | refine x_lss (by rfl) (by rfl) (by rfl) ?_ | refine x_geq (by rfl) (by rfl) (by rfl) ?_ | refine x_leq (by rfl) (by rfl) (by rfl) ?_ | refine x_gtr (by rfl) (by rfl) (by rfl) ?_ | refine x_eql (by rfl) (by rfl) (by rfl) ?_ | refine x_neq (by rfl) (by rfl) (by rfl) ?_ | refine x_not (by rfl) (by rfl) ?_)
    refine x_nilw ?_
    (repeat (first | refine swp_seq ?_ | refine swp_block ?_))
    refine swp_if (by rfl) (fun hc => swp_skip ?_) (fun hc => ?_)
    · have hi' : i < n := by omega
      have rl0 := (show Own w1 32 1 (.slice la n lc) n (fl encV (vals n V)) from s1.2.2.1).rd
      obtain ⟨lb, lo, ld, hle, -, -⟩ := rl0.pos (by omega)
      simp only [Value.slice.injEq] at hle
      obtain ⟨rfl, _, rfl⟩ := hle
      obtain ⟨va, vc, hVi⟩ := hVs i hi'
      have hLi := hL i hi'
      (repeat (first | with_reducible refine n_then ?_ | with_reducible refine n_block ?_ | with_reducible refine n_jump ?_))
      (repeat (first | refine swp_seq ?_ | refine swp_block ?_)); refine swp_region (by kernel_rfl) ?_
      repeat (first | refine x_move (by rfl) ?_ | refine x_as (by rfl) (by rfl) ?_ | refine x_skip (by rfl) ?_ | refine x_fld (by rfl) (by rfl) FldO.h ?_ | refine x_nilck (by rfl) (by rfl) ?_ | refine x_len (by rfl) (by rfl) ElOf.some ?_ | refine x_ext (by rfl) (by rfl) (by rfl) ?_ | refine x_pickT (by rfl) (by rfl) (by rfl) ?_ | refine x_pickF (by rfl) (by rfl) (by rfl) ?_ | refine x_add (by rfl) (by rfl) (by rfl) (by omega) ?_ | refine x_sub (by rfl) (by rfl) (by rfl) (by omega) ?_ | refine x_not (by rfl) (by rfl) ?_)
      refine x_nilw ?_
      (repeat (first | refine swp_seq ?_ | refine swp_block ?_))
      refine swp_loop (fun (k : Nat) σ w' => ∃ C, At σ [(0, .slice (some ⟨lb, lo, none⟩) n lc), (3, .int .i64 (i : Nat)), (4, .int .i64 (k : Nat))] ∧ k ≤ (L i).length ∧ (∀ j, (C j).length = (L j).length) ∧ (∀ j, j < i → C j = full L j) ∧ (∀ m, m < k → (C i)[m]? = some (e1 i)) ∧ Star w' [apf n V V C C, aOwn 32 1 (.slice (some ⟨lb, lo, none⟩) n lc) n (fl encV (vals n V))] ∧ Upd (fun b => ∃ j, j < n ∧ isIn (V j) b) w w') (fun k => (L i).length - k) 0 ⟨C, at_ ⟨rfl, rfl, rfl, trivial⟩, by omega, hlen, hC, fun m hm => absurd hm (by omega), s1, u1⟩ ?_
      clear s1 u1 hlen hC rl0
      rintro k σ w2 ⟨C, ⟨ρ, rfl⟩, hk, hlen, hC, hCi, s2, u2⟩
      have rl := (show Own w2 32 1 (.slice (some ⟨lb, lo, none⟩) n lc) n (fl encV (vals n V)) from s2.2.2.1).rd
      (repeat (first | refine swp_seq ?_ | refine swp_block ?_)); refine swp_region (by kernel_rfl) ?_
      repeat (first | refine x_move (by rfl) ?_ | refine x_as (by rfl) (by rfl) ?_ | refine x_skip (by rfl) ?_ | refine x_fld (by rfl) (by rfl) FldO.h ?_ | refine x_nilck (by rfl) (by rfl) ?_ | refine x_len (by rfl) (by rfl) ElOf.some ?_ | refine x_ext (by rfl) (by rfl) (by rfl) ?_ | refine x_pickT (by rfl) (by rfl) (by rfl) ?_ | refine x_pickF (by rfl) (by rfl) (by rfl) ?_ | refine x_add (by rfl) (by rfl) (by rfl) (by omega) ?_ | refine x_sub (by rfl) (by rfl) (by rfl) (by omega) ?_ | refine x_not (by rfl) (by rfl) ?_)
      refine x_idx i (by rfl) (by rfl) (by rfl) ElSz.h rfl hi' ?_
      refine w_load (by rfl) (by rfl) (load_one_cell OneT.h (rd_cell (v := .slice va (L i).length vc) (j := 0) encV_len rl (vals_get hi') (by rw [hVi]; rfl) (by rw [vals_len]) rfl)) ?_
      repeat (first | refine x_move (by rfl) ?_ | refine x_as (by rfl) (by rfl) ?_ | refine x_skip (by rfl) ?_ | refine x_fld (by rfl) (by rfl) FldO.h ?_ | refine w_load (by rfl) (by rfl) (load_one OneT.h (by assumption) (by rfl)) ?_ | refine x_nilck (by rfl) (by rfl) ?_ | refine x_len (by rfl) (by rfl) ElOf.some ?_ | refine x_iface (by rfl) (by rfl) NIf.h ?_ | refine x_ext (by rfl) (by rfl) (by rfl) ?_ | refine x_pickT (by rfl) (by rfl) (by rfl) ?_ | refine x_pickF (by rfl) (by rfl) (by rfl) ?_ | refine x_add (by rfl) (by rfl) (by rfl) (by omega) ?_ | refine x_sub (by rfl) (by rfl) (by rfl) (by omega) ?_ | refine x_lss (by rfl) (by rfl) (by rfl) ?_ | refine x_geq (by rfl) (by rfl) (by rfl) ?_ | refine x_leq (by rfl) (by rfl) (by rfl) ?_ | refine x_gtr (by rfl) (by rfl) (by rfl) ?_ | refine x_eql (by rfl) (by rfl) (by rfl) ?_ | refine x_neq (by rfl) (by rfl) (by rfl) ?_ | refine x_not (by rfl) (by rfl) ?_)
      refine x_nilw ?_
      (repeat (first | refine swp_seq ?_ | refine swp_block ?_))
      refine swp_if (by rfl) (fun hck => swp_skip ?_) (fun hck => ?_)
      · have hk' : k < (L i).length := by omega
        have hCl := hlen i
        have ow := (apf_at s2.1 hi').own
        obtain ⟨g, cap, R, hVe, hb, hc1, hc2, hc3⟩ := ow.pos (by omega)
        have hfl : (fl Ev.cells (C i)).length = (L i).length * 11 := by rw [fl_length ev_len, hCl]
        (repeat (first | with_reducible refine n_then ?_ | with_reducible refine n_block ?_ | with_reducible refine n_jump ?_))
        (repeat (first | refine swp_seq ?_ | refine swp_block ?_)); refine swp_region (by kernel_rfl) ?_
        repeat (first | refine x_move (by rfl) ?_ | refine x_as (by rfl) (by rfl) ?_ | refine x_skip (by rfl) ?_ | refine x_fld (by rfl) (by rfl) FldO.h ?_ | refine x_nilck (by rfl) (by rfl) ?_ | refine x_len (by rfl) (by rfl) ElOf.some ?_ | refine x_ext (by rfl) (by rfl) (by rfl) ?_ | refine x_pickT (by rfl) (by rfl) (by rfl) ?_ | refine x_pickF (by rfl) (by rfl) (by rfl) ?_ | refine x_add (by rfl) (by rfl) (by rfl) (by omega) ?_ | refine x_sub (by rfl) (by rfl) (by rfl) (by omega) ?_ | refine x_not (by rfl) (by rfl) ?_)
        refine x_idx i (by rfl) (by rfl) (by rfl) ElSz.h rfl hi' ?_
        refine w_load (by rfl) (by rfl) (load_one_cell OneT.h (rd_cell (v := .slice (some ⟨g, 0, none⟩) (C i).length cap) (j := 0) encV_len rl (vals_get hi') (by rw [hVe]; rfl) (by rw [vals_len]) rfl)) ?_
        repeat (first | refine x_move (by rfl) ?_ | refine x_as (by rfl) (by rfl) ?_ | refine x_skip (by rfl) ?_ | refine x_fld (by rfl) (by rfl) FldO.h ?_ | refine x_nilck (by rfl) (by rfl) ?_ | refine x_len (by rfl) (by rfl) ElOf.some ?_ | refine x_ext (by rfl) (by rfl) (by rfl) ?_ | refine x_pickT (by rfl) (by rfl) (by rfl) ?_ | refine x_pickF (by rfl) (by rfl) (by rfl) ?_ | refine x_add (by rfl) (by rfl) (by rfl) (by omega) ?_ | refine x_sub (by rfl) (by rfl) (by rfl) (by omega) ?_ | refine x_not (by rfl) (by rfl) ?_)
        refine x_build (v := (e1 i).v) (by rfl) (by rfl) (fun _ => by rw [show (e1 i).v = .agg (mk (1000 + (i : Nat)) 0).cells.toArray by simp [e1]]; kernel_rfl) ?_
        refine x_idx k (by rfl) (by rfl) (by rfl) ElSz.h rfl (by omega) ?_
        refine w_store (xs := (e1 i).cells) (by rfl) (by rfl) (by rfl) (by rfl) SzT.h (by rfl) (by rfl) hb (by rw [List.length_append, hfl]; omega) ?_
        intro w3 u3 hb3 s3
        refine x_nilw ?_
        (repeat (first | with_reducible refine n_then ?_ | with_reducible refine n_block ?_ | with_reducible refine n_jump ?_))
        (repeat (first | refine swp_seq ?_ | refine swp_block ?_)); refine swp_region (by kernel_rfl) ?_
        repeat (first | refine x_move (by rfl) ?_ | refine x_as (by rfl) (by rfl) ?_ | refine x_skip (by rfl) ?_ | refine x_fld (by rfl) (by rfl) FldO.h ?_ | refine w_load (by rfl) (by rfl) (load_one OneT.h (by assumption) (by rfl)) ?_ | refine x_nilck (by rfl) (by rfl) ?_ | refine x_len (by rfl) (by rfl) ElOf.some ?_ | refine x_iface (by rfl) (by rfl) NIf.h ?_ | refine x_ext (by rfl) (by rfl) (by rfl) ?_ | refine x_pickT (by rfl) (by rfl) (by rfl) ?_ | refine x_pickF (by rfl) (by rfl) (by rfl) ?_ | refine x_add (by rfl) (by rfl) (by rfl) (by omega) ?_ | refine x_sub (by rfl) (by rfl) (by rfl) (by omega) ?_ | refine x_lss (by rfl) (by rfl) (by rfl) ?_ | refine x_geq (by rfl) (by rfl) (by rfl) ?_ | refine x_leq (by rfl) (by rfl) (by rfl) ?_ | refine x_gtr (by rfl) (by rfl) (by rfl) ?_ | refine x_eql (by rfl) (by rfl) (by rfl) ?_ | refine x_neq (by rfl) (by rfl) (by rfl) ?_ | refine x_not (by rfl) (by rfl) ?_)
        refine x_nilw ?_
        have own3 := own_put (i := k) (x := e1 i) ev_len hb3 (by omega) (by omega) hc1 hc2 hc3
        rw [← hVe] at own3
        refine ⟨k + 1, ⟨set1 C i ((C i).set k (e1 i)), at_ ⟨rfl, rfl, rfl, trivial⟩, hk', fun j => ?_, fun j hj => ?_, fun m hm => ?_, ?_, u2.trans (u3.mono fun b e => ⟨i, hi', by rw [hVe]; exact e⟩)⟩, by omega⟩
        · by_cases e : j = i
          · subst e
            rw [set1_eq, List.length_set]
            exact hCl
          · rw [set1_ne _ _ e]
            exact hlen j
        · rw [set1_ne _ _ (by omega)]
          exact hC j hj
        · rw [set1_eq]
          by_cases e : m = k
          · subst e
            rw [List.getElem?_set_self (by omega)]
          · rw [List.getElem?_set_ne (fun h => e h.symm)]
            exact hCi m (by omega)
        · refine apf_upd (i := i) (k := 0) s2 rfl hi' (fun j hj => ⟨rfl, set1_ne _ _ hj, set1_ne _ _ hj⟩) u3 (fun b _ e => .inl (by rw [hVe]; exact e)) ?_ (fun b hb => .inl hb)
          rw [set1_eq]
          exact Twin.of (by rw [List.length_set]; exact own3)
      · have hkl : k = (L i).length := by omega
        refine swp_exit ?_; (repeat (first | with_reducible refine e_then ?_ | with_reducible refine e_jump ?_)); refine e_block ?_; (repeat (first | with_reducible refine n_then ?_ | with_reducible refine n_block ?_ | with_reducible refine n_jump ?_))
        (repeat (first | refine swp_seq ?_ | refine swp_block ?_)); refine swp_region (by kernel_rfl) ?_
        repeat (first | refine x_move (by rfl) ?_ | refine x_as (by rfl) (by rfl) ?_ | refine x_skip (by rfl) ?_ | refine x_fld (by rfl) (by rfl) FldO.h ?_ | refine w_load (by rfl) (by rfl) (load_one OneT.h (by assumption) (by rfl)) ?_ | refine x_nilck (by rfl) (by rfl) ?_ | refine x_len (by rfl) (by rfl) ElOf.some ?_ | refine x_iface (by rfl) (by rfl) NIf.h ?_ | refine x_ext (by rfl) (by rfl) (by rfl) ?_ | refine x_pickT (by rfl) (by rfl) (by rfl) ?_ | refine x_pickF (by rfl) (by rfl) (by rfl) ?_ | refine x_add (by rfl) (by rfl) (by rfl) (by omega) ?_ | refine x_sub (by rfl) (by rfl) (by rfl) (by omega) ?_ | refine x_lss (by rfl) (by rfl) (by rfl) ?_ | refine x_geq (by rfl) (by rfl) (by rfl) ?_ | refine x_leq (by rfl) (by rfl) (by rfl) ?_ | refine x_gtr (by rfl) (by rfl) (by rfl) ?_ | refine x_eql (by rfl) (by rfl) (by rfl) ?_ | refine x_neq (by rfl) (by rfl) (by rfl) ?_ | refine x_not (by rfl) (by rfl) ?_)
        refine x_nilw ?_
        refine ⟨i + 1, ⟨C, at_ ⟨rfl, rfl, trivial⟩, hi', hlen, fun j hj => ?_, s2, u2⟩, by omega⟩
        by_cases e : j = i
        · subst e
          refine List.eq_replicate_iff.2 ⟨hlen j, fun x hx => ?_⟩
          obtain ⟨m, hm, rfl⟩ := List.getElem_of_mem hx
          have := hCi m (by rw [hkl, ← hlen j]; exact hm)
          rw [List.getElem?_eq_getElem hm] at this
          exact Option.some.inj this
        · exact hC j (by omega)
    · have hin : i = n := by omega
      refine swp_exit ?_; (repeat (first | with_reducible refine e_then ?_ | with_reducible refine e_jump ?_)); refine e_block ?_; (repeat (first | with_reducible refine n_then ?_ | with_reducible refine n_block ?_ | with_reducible refine n_jump ?_))
      refine ⟨rfl, at_ ⟨rfl, trivial⟩, ?_, u1⟩
      have hfam : fam n (fun j => aTwin (V j) (V j) (C j) (C j)) = fam n (fun j => aTwin (V j) (V j) (full L j) (full L j)) := List.map_congr_left fun j hj => by
        have := hC j (by have := List.mem_range.1 hj; omega)
        rw [this]
      have s1' := s1
      unfold apf at s1' ⊢
      rw [hfam] at s1'
      exact s1'
  rintro σ w1 ⟨⟨ρ, rfl⟩, s1, u1⟩
  refine n_then ?_
  have hU : ∀ j, j < n → ∀ b, isIn (V j) b → b < w.heap.size := fun j hj b hb => (apf_at hs.1 hj).lt b hb
  have z1 := u1.size
  have hVs' : ∀ j, j < n → ∃ a c, V j = .slice a (full L j).length c := fun j hj => by rw [full_len]; exact hVs j hj
  (repeat (first | refine swp_seq ?_ | refine swp_block ?_)); refine swp_region (by kernel_rfl) ?_
  repeat (first | refine x_move (by rfl) ?_ | refine x_as (by rfl) (by rfl) ?_ | refine x_skip (by rfl) ?_ | refine x_fld (by rfl) (by rfl) FldO.h ?_ | refine x_nilck (by rfl) (by rfl) ?_ | refine x_len (by rfl) (by rfl) ElOf.some ?_ | refine x_ext (by rfl) (by rfl) (by rfl) ?_ | refine x_pickT (by rfl) (by rfl) (by rfl) ?_ | refine x_pickF (by rfl) (by rfl) (by rfl) ?_ | refine x_add (by rfl) (by rfl) (by rfl) (by omega) ?_ | refine x_sub (by rfl) (by rfl) (by rfl) (by omega) ?_ | refine x_not (by rfl) (by rfl) ?_)
  refine x_nilw ?_
  refine swp_seq ?_
  refine PEv.swp_cutQ (fun σ w' => ∃ gv sv, At σ [(0, .slice la n lc), (5, sv)] ∧ Star w' [apf n V gv (full L) (fun j => full L j ++ List.replicate 70 (e2 j)), aOwn 32 1 (.slice la n lc) n (fl encV (vals n V)), aOwn 32 1 sv n (fl encV (vals n gv))] ∧ Upd (fun b => ∃ j, j < n ∧ isIn (V j) b) w w') ?_ ?_
  · (repeat (first | refine swp_seq ?_ | refine swp_block ?_)); refine swp_region (by kernel_rfl) ?_
    repeat (first | refine x_move (by rfl) ?_ | refine x_as (by rfl) (by rfl) ?_ | refine x_skip (by rfl) ?_ | refine x_fld (by rfl) (by rfl) FldO.h ?_ | refine x_nilck (by rfl) (by rfl) ?_ | refine x_len (by rfl) (by rfl) ElOf.some ?_ | refine x_ext (by rfl) (by rfl) (by rfl) ?_ | refine x_pickT (by rfl) (by rfl) (by rfl) ?_ | refine x_pickF (by rfl) (by rfl) (by rfl) ?_ | refine x_add (by rfl) (by rfl) (by rfl) (by omega) ?_ | refine x_sub (by rfl) (by rfl) (by rfl) (by omega) ?_ | refine x_not (by rfl) (by rfl) ?_)
    refine x_nilw ?_
    refine swp_fit [(0, .slice la n lc), (5, .slice none 0 0), (6, .int .i64 ((0 : Nat) : Int))] ⟨rfl, rfl, rfl, trivial⟩ fun ρ => ?_
    have s1' : Star w1 [apf n V V (full L) (full L), aOwn 32 1 (.slice la n lc) n (fl encV (vals n V)), aOwn 32 1 (.slice none 0 0) 0 (fl encV (vals 0 V))] := by
      refine Star.app (sq := [apf n V V (full L) (full L), aOwn 32 1 (.slice la n lc) n (fl encV (vals n V))]).2 ⟨s1, ⟨Own.nil _ _ _, by simp, trivial⟩, fun a _ b _ c hc hcb => ?_⟩
      rw [List.mem_singleton.1 hc] at hcb
      exact hcb.elim
    (repeat (first | refine swp_seq ?_ | refine swp_block ?_))
    refine swp_loop (fun (i : Nat) σ w' => ∃ gv Y sv, At σ [(0, .slice la n lc), (5, sv), (6, .int .i64 (i : Nat))] ∧ i ≤ n ∧ (∀ j, j < i → Y j = full L j ++ List.replicate 70 (e2 j)) ∧ (∀ j, i ≤ j → gv j = V j ∧ Y j = full L j) ∧ Star w' [apf n V gv (full L) Y, aOwn 32 1 (.slice la n lc) n (fl encV (vals n V)), aOwn 32 1 sv i (fl encV (vals i gv))] ∧ (∀ j, j < n → ∀ b, isIn (gv j) b → isIn (V j) b ∨ w.heap.size ≤ b) ∧ (∀ b, isIn sv b → w.heap.size ≤ b) ∧ Upd (fun b => ∃ j, j < n ∧ isIn (V j) b) w w') (fun i => n - i) 0 ⟨V, full L, _, at_ ⟨rfl, rfl, rfl, trivial⟩, by omega, fun j hj => absurd hj (by omega), fun _ _ => ⟨rfl, rfl⟩, s1', fun _ _ _ hb => .inl hb, fun b hb => hb.elim, u1⟩ ?_
    clear s1 s1' u1 z1
    rintro i σ w1 ⟨gv, Y, sv, ⟨ρ, rfl⟩, hi, hY, hV, s1, hgn, hsn, u1⟩
    (repeat (first | refine swp_seq ?_ | refine swp_block ?_)); refine swp_region (by kernel_rfl) ?_
    repeat (first | refine x_move (by rfl) ?_ | refine x_as (by rfl) (by rfl) ?_ | refine x_skip (by rfl) ?_ | refine x_fld (by rfl) (by rfl) FldO.h ?_ | refine w_load (by rfl) (by rfl) (load_one OneT.h (by assumption) (by rfl)) ?_ | refine x_nilck (by rfl) (by rfl) ?_ | refine x_len (by rfl) (by rfl) ElOf.some ?_ | refine x_iface (by rfl) (by rfl) NIf.h ?_ | refine x_ext (by rfl) (by rfl) (by rfl) ?_ | refine x_pickT (by rfl) (by rfl) (by rfl) ?_ | refine x_pickF (by rfl) (by rfl) (by rfl) ?_ | refine x_add (by rfl) (by rfl) (by rfl) (by omega) ?_ | refine x_sub (by rfl) (by rfl) (by rfl) (by omega) ?_ | refine x_lss (by rfl) (by rfl) (by rfl) ?_ | refine x_geq (by rfl) (by rfl) (by rfl) ?_ | refine x_leq (by rfl) (by rfl) (by rfl) ?_ | refine x_gtr (by rfl) (by rfl) (by rfl) ?_ | refine x_eql (by rfl) (by rfl) (by rfl) ?_ | refine x_neq (by rfl) (by rfl) (by rfl) ?_ | refine x_not (by rfl) (by rfl) ?_)
    refine x_nilw ?_
    (repeat (first | refine swp_seq ?_ | refine swp_block ?_))
    refine swp_if (by rfl) (fun hc => swp_skip ?_) (fun hc => ?_)
    · have hi' : i < n := by omega
      have rl0 := (show Own w1 32 1 (.slice la n lc) n (fl encV (vals n V)) from s1.2.2.1).rd
      obtain ⟨lb, lo, ld, hle, -, -⟩ := rl0.pos (by omega)
      simp only [Value.slice.injEq] at hle
      obtain ⟨rfl, _, rfl⟩ := hle
      obtain ⟨va, vc, hVi⟩ := hVs' i hi'
      have hLi := hL i hi'
      (repeat (first | with_reducible refine n_then ?_ | with_reducible refine n_block ?_ | with_reducible refine n_jump ?_))
      (repeat (first | refine swp_seq ?_ | refine swp_block ?_)); refine swp_region (by kernel_rfl) ?_
      repeat (first | refine x_move (by rfl) ?_ | refine x_as (by rfl) (by rfl) ?_ | refine x_skip (by rfl) ?_ | refine x_fld (by rfl) (by rfl) FldO.h ?_ | refine x_nilck (by rfl) (by rfl) ?_ | refine x_len (by rfl) (by rfl) ElOf.some ?_ | refine x_ext (by rfl) (by rfl) (by rfl) ?_ | refine x_pickT (by rfl) (by rfl) (by rfl) ?_ | refine x_pickF (by rfl) (by rfl) (by rfl) ?_ | refine x_add (by rfl) (by rfl) (by rfl) (by omega) ?_ | refine x_sub (by rfl) (by rfl) (by rfl) (by omega) ?_ | refine x_not (by rfl) (by rfl) ?_)
      refine x_idx i (by rfl) (by rfl) (by rfl) ElSz.h rfl hi' ?_
      refine w_load (by rfl) (by rfl) (load_one_cell OneT.h (rd_cell (v := V i) (j := 0) encV_len rl0 (vals_get hi') rfl (by rw [vals_len]) rfl)) ?_
      repeat (first | refine x_move (by rfl) ?_ | refine x_as (by rfl) (by rfl) ?_ | refine x_skip (by rfl) ?_ | refine x_fld (by rfl) (by rfl) FldO.h ?_ | refine x_nilck (by rfl) (by rfl) ?_ | refine x_len (by rfl) (by rfl) ElOf.some ?_ | refine x_ext (by rfl) (by rfl) (by rfl) ?_ | refine x_pickT (by rfl) (by rfl) (by rfl) ?_ | refine x_pickF (by rfl) (by rfl) (by rfl) ?_ | refine x_add (by rfl) (by rfl) (by rfl) (by omega) ?_ | refine x_sub (by rfl) (by rfl) (by rfl) (by omega) ?_ | refine x_not (by rfl) (by rfl) ?_)
      refine x_nilw ?_
      (repeat (first | refine swp_seq ?_ | refine swp_block ?_)); refine swp_region (by kernel_rfl) ?_
      repeat (first | refine x_move (by rfl) ?_ | refine x_as (by rfl) (by rfl) ?_ | refine x_skip (by rfl) ?_ | refine x_fld (by rfl) (by rfl) FldO.h ?_ | refine x_nilck (by rfl) (by rfl) ?_ | refine x_len (by rfl) (by rfl) ElOf.some ?_ | refine x_ext (by rfl) (by rfl) (by rfl) ?_ | refine x_pickT (by rfl) (by rfl) (by rfl) ?_ | refine x_pickF (by rfl) (by rfl) (by rfl) ?_ | refine x_add (by rfl) (by rfl) (by rfl) (by omega) ?_ | refine x_sub (by rfl) (by rfl) (by rfl) (by omega) ?_ | refine x_not (by rfl) (by rfl) ?_)
      refine x_nilw ?_
      refine swp_fit [(0, .slice (some ⟨lb, lo, none⟩) n lc), (5, sv), (6, .int .i64 (i : Nat)), (7, V i), (8, .int .i64 ((0 : Nat) : Int))] ⟨rfl, rfl, rfl, rfl, rfl, trivial⟩ fun ρ => ?_
      refine PEv.swp_cutQ (fun σ w' => ∃ gv' Y', At σ [(0, .slice (some ⟨lb, lo, none⟩) n lc), (5, sv), (6, .int .i64 (i : Nat)), (7, gv' i)] ∧ (∀ j, j < i → Y' j = full L j ++ List.replicate 70 (e2 j)) ∧ (∀ j, i < j → gv' j = V j ∧ Y' j = full L j) ∧ Y' i = full L i ++ List.replicate 70 (e2 i) ∧ vals i gv' = vals i gv ∧ Star w' [apf n V gv' (full L) Y', aOwn 32 1 (.slice (some ⟨lb, lo, none⟩) n lc) n (fl encV (vals n V)), aOwn 32 1 sv i (fl encV (vals i gv))] ∧ (∀ j, j < n → ∀ b, isIn (gv' j) b → isIn (V j) b ∨ w.heap.size ≤ b) ∧ Upd (fun b => ∃ j, j < n ∧ isIn (V j) b) w w') ?_ ?_
      · (repeat (first | refine swp_seq ?_ | refine swp_block ?_))
        refine swp_loop (fun (k : Nat) σ w' => ∃ gv' Y', At σ [(0, .slice (some ⟨lb, lo, none⟩) n lc), (5, sv), (6, .int .i64 (i : Nat)), (7, gv' i), (8, .int .i64 (k : Nat))] ∧ k ≤ 70 ∧ (∀ j, j < i → Y' j = full L j ++ List.replicate 70 (e2 j)) ∧ (∀ j, i < j → gv' j = V j ∧ Y' j = full L j) ∧ Y' i = full L i ++ List.replicate k (e2 i) ∧ vals i gv' = vals i gv ∧ Star w' [apf n V gv' (full L) Y', aOwn 32 1 (.slice (some ⟨lb, lo, none⟩) n lc) n (fl encV (vals n V)), aOwn 32 1 sv i (fl encV (vals i gv))] ∧ (∀ j, j < n → ∀ b, isIn (gv' j) b → isIn (V j) b ∨ w.heap.size ≤ b) ∧ Upd (fun b => ∃ j, j < n ∧ isIn (V j) b) w w') (fun k => 70 - k) 0 ⟨gv, Y, at_ ⟨rfl, rfl, rfl, (hV i (Nat.le_refl i)).1.symm, rfl, trivial⟩, by omega, hY, fun j hj => hV j (by omega), by rw [(hV i (Nat.le_refl i)).2]; simp, rfl, s1, hgn, u1⟩ ?_
        clear s1 u1 hgn hY hV rl0
        rintro k σ w2 ⟨gv', Y', ⟨ρ, rfl⟩, hk, hY, hV, hYi, hvg, s2, hgn, u2⟩
        (repeat (first | refine swp_seq ?_ | refine swp_block ?_)); refine swp_region (by kernel_rfl) ?_
        repeat (first | refine x_move (by rfl) ?_ | refine x_as (by rfl) (by rfl) ?_ | refine x_skip (by rfl) ?_ | refine x_fld (by rfl) (by rfl) FldO.h ?_ | refine w_load (by rfl) (by rfl) (load_one OneT.h (by assumption) (by rfl)) ?_ | refine x_nilck (by rfl) (by rfl) ?_ | refine x_len (by rfl) (by rfl) ElOf.some ?_ | refine x_iface (by rfl) (by rfl) NIf.h ?_ | refine x_ext (by rfl) (by rfl) (by rfl) ?_ | refine x_pickT (by rfl) (by rfl) (by rfl) ?_ | refine x_pickF (by rfl) (by rfl) (by rfl) ?_ | refine x_add (by rfl) (by rfl) (by rfl) (by omega) ?_ | refine x_sub (by rfl) (by rfl) (by rfl) (by omega) ?_ | refine x_lss (by rfl) (by rfl) (by rfl) ?_ | refine x_geq (by rfl) (by rfl) (by rfl) ?_ | refine x_leq (by rfl) (by rfl) (by rfl) ?_ | refine x_gtr (by rfl) (by rfl) (by rfl) ?_ | refine x_eql (by rfl) (by rfl) (by rfl) ?_ | refine x_neq (by rfl) (by rfl) (by rfl) ?_ | refine x_not (by rfl) (by rfl) ?_)
        refine x_nilw ?_
        (repeat (first | refine swp_seq ?_ | refine swp_block ?_))
        refine swp_if (by rfl) (fun hck => swp_skip ?_) (fun hck => ?_)
        · have hk' : k < 70 := by omega
          have tw := apf_at s2.1 hi'
          have hYl : (Y' i).length = (L i).length + k := by rw [hYi, List.length_append, full_len, List.length_replicate]
          have z2 := u2.size
          (repeat (first | with_reducible refine n_then ?_ | with_reducible refine n_block ?_ | with_reducible refine n_jump ?_))
          (repeat (first | refine swp_seq ?_ | refine swp_block ?_)); refine swp_region (by kernel_rfl) ?_
          repeat (first | refine x_move (by rfl) ?_ | refine x_as (by rfl) (by rfl) ?_ | refine x_skip (by rfl) ?_ | refine x_fld (by rfl) (by rfl) FldO.h ?_ | refine x_nilck (by rfl) (by rfl) ?_ | refine x_len (by rfl) (by rfl) ElOf.some ?_ | refine x_ext (by rfl) (by rfl) (by rfl) ?_ | refine x_pickT (by rfl) (by rfl) (by rfl) ?_ | refine x_pickF (by rfl) (by rfl) (by rfl) ?_ | refine x_add (by rfl) (by rfl) (by rfl) (by omega) ?_ | refine x_sub (by rfl) (by rfl) (by rfl) (by omega) ?_ | refine x_not (by rfl) (by rfl) ?_)
          refine x_build (v := (e2 i).v) (by rfl) (by rfl) (fun _ => by rw [show (e2 i).v = .agg (mk (500000 + (i : Nat)) 1).cells.toArray by simp [e2]]; kernel_rfl) ?_
          refine w_bslice (e := 30) (cs := (e2 i).cells) (by rfl) (by rfl) (by rfl) (by kernel_rfl) ?_
          intro b6 w3 _ u3 h6
          have s3 := s2.ext u3
          have tw3 := tw.get u3 fun _ _ h => h
          have z3 := u3.size
          refine w_append2 (more := []) (news := (e2 i).cells) (by rfl) (by rfl) (by rfl) (by rfl) SlC.h tw3.own (by rw [List.append_nil]; exact h6) (by rfl) (by rfl) (by omega) (room88 (by omega)) ?_
          intro gx w4 own4 hc4
          repeat (first | refine x_move (by rfl) ?_ | refine x_as (by rfl) (by rfl) ?_ | refine x_skip (by rfl) ?_ | refine x_fld (by rfl) (by rfl) FldO.h ?_ | refine x_nilck (by rfl) (by rfl) ?_ | refine x_len (by rfl) (by rfl) ElOf.some ?_ | refine x_ext (by rfl) (by rfl) (by rfl) ?_ | refine x_pickT (by rfl) (by rfl) (by rfl) ?_ | refine x_pickF (by rfl) (by rfl) (by rfl) ?_ | refine x_add (by rfl) (by rfl) (by rfl) (by omega) ?_ | refine x_sub (by rfl) (by rfl) (by rfl) (by omega) ?_ | refine x_not (by rfl) (by rfl) ?_)
          refine x_nilw ?_
          (repeat (first | with_reducible refine n_then ?_ | with_reducible refine n_block ?_ | with_reducible refine n_jump ?_))
          (repeat (first | refine swp_seq ?_ | refine swp_block ?_)); refine swp_region (by kernel_rfl) ?_
          repeat (first | refine x_move (by rfl) ?_ | refine x_as (by rfl) (by rfl) ?_ | refine x_skip (by rfl) ?_ | refine x_fld (by rfl) (by rfl) FldO.h ?_ | refine w_load (by rfl) (by rfl) (load_one OneT.h (by assumption) (by rfl)) ?_ | refine x_nilck (by rfl) (by rfl) ?_ | refine x_len (by rfl) (by rfl) ElOf.some ?_ | refine x_iface (by rfl) (by rfl) NIf.h ?_ | refine x_ext (by rfl) (by rfl) (by rfl) ?_ | refine x_pickT (by rfl) (by rfl) (by rfl) ?_ | refine x_pickF (by rfl) (by rfl) (by rfl) ?_ | refine x_add (by rfl) (by rfl) (by rfl) (by omega) ?_ | refine x_sub (by rfl) (by rfl) (by rfl) (by omega) ?_ | refine x_lss (by rfl) (by rfl) (by rfl) ?_ | refine x_geq (by rfl) (by rfl) (by rfl) ?_ | refine x_leq (by rfl) (by rfl) (by rfl) ?_ | refine x_gtr (by rfl) (by rfl) (by rfl) ?_ | refine x_eql (by rfl) (by rfl) (by rfl) ?_ | refine x_neq (by rfl) (by rfl) (by rfl) ?_ | refine x_not (by rfl) (by rfl) ?_)
          refine x_nilw ?_
          have tw4 := tw3.grow (N := [e2 i]) (by rw [fl_one]; exact own4) (by simp) hc4
          have hYk : Y' i ++ [e2 i] = full L i ++ List.replicate (k + 1) (e2 i) := by rw [hYi, List.append_assoc, List.replicate_succ']
          have hgx : ∀ b, isIn gx b → isIn (gv' i) b ∨ w3.heap.size ≤ b := fun b hb => by
            rcases hc4 with ⟨_, hin⟩ | ⟨_, hin⟩
            · exact .inl (hin b hb)
            · exact .inr (hin b hb)
          have u34 : Upd (isIn (gv' i)) w3 w4 := by
            rcases hc4 with ⟨u, _⟩ | ⟨u, _⟩
            · exact u
            · exact u.of _
          refine ⟨k + 1, ⟨set1 gv' i gx, set1 Y' i (Y' i ++ [e2 i]), at_ ⟨rfl, rfl, rfl, (set1_eq gv' i gx).symm, rfl, trivial⟩, hk', fun j hj => ?_, fun j hj => ?_, ?_, ?_, ?_, fun j hj b hb => ?_, ?_⟩, by omega⟩
          · rw [set1_ne _ _ (by omega)]
            exact hY j hj
          · rw [set1_ne _ _ (by omega), set1_ne _ _ (by omega)]
            exact hV j hj
          · rw [set1_eq]
            exact hYk
          · rw [← hvg]
            exact vals_eq fun j hj => set1_ne _ _ (by omega)
          · refine apf_upd (i := i) (k := 0) s3 rfl hi' (fun j hj => ⟨set1_ne _ _ hj, rfl, set1_ne _ _ hj⟩) u34 (fun b _ e => .inr e) ?_ (fun b hb => ?_)
            · rw [set1_eq, set1_eq]
              exact tw4
            · rw [set1_eq] at hb
              exact hgx b hb
          · by_cases e : j = i
            · subst e
              rw [set1_eq] at hb
              rcases hgx b hb with hb | hb
              · exact hgn j hj b hb
              · exact .inr (by omega)
            · rw [set1_ne _ _ e] at hb
              exact hgn j hj b hb
          · refine (u2.ext u3).trans' u34 fun b hb e => ?_
            rcases hgn i hi' b e with h | h
            · exact ⟨i, hi', h⟩
            · omega
        · have hk70 : k = 70 := by omega
          subst hk70
          refine swp_exit ?_; (repeat (first | with_reducible refine e_then ?_ | with_reducible refine e_jump ?_)); refine e_block ?_; (repeat (first | with_reducible refine n_then ?_ | with_reducible refine n_block ?_ | with_reducible refine n_jump ?_))
          exact ⟨rfl, gv', Y', at_ ⟨rfl, rfl, rfl, rfl, trivial⟩, hY, hV, hYi, hvg, s2, hgn, u2⟩
      clear s1 u1 hgn hY hV rl0
      rintro σ w2 ⟨gv', Y', ⟨ρ, rfl⟩, hY, hV, hYi, hvg, s2, hgn, u2⟩
      refine n_then ?_
      have tw := apf_at s2.1 hi'
      obtain ⟨ga, gc, hgi⟩ := tw.own.slice
      have own2 := (show Own w2 32 1 sv i (fl encV (vals i gv)) from s2.2.2.2.2.1)
      have z2 := u2.size
      (repeat (first | refine swp_seq ?_ | refine swp_block ?_)); refine swp_region (by kernel_rfl) ?_
      repeat (first | refine x_move (by rfl) ?_ | refine x_as (by rfl) (by rfl) ?_ | refine x_skip (by rfl) ?_ | refine x_fld (by rfl) (by rfl) FldO.h ?_ | refine x_nilck (by rfl) (by rfl) ?_ | refine x_len (by rfl) (by rfl) ElOf.some ?_ | refine x_ext (by rfl) (by rfl) (by rfl) ?_ | refine x_pickT (by rfl) (by rfl) (by rfl) ?_ | refine x_pickF (by rfl) (by rfl) (by rfl) ?_ | refine x_add (by rfl) (by rfl) (by rfl) (by omega) ?_ | refine x_sub (by rfl) (by rfl) (by rfl) (by omega) ?_ | refine x_not (by rfl) (by rfl) ?_)
      refine w_bslice (e := 32) (cs := [gv' i]) (by rfl) (by rfl) (by rfl) (by rw [hgi]; kernel_rfl) ?_
      intro b6 w3 _ u3 h6
      have z3 := u3.size
      refine w_append (more := []) (news := [gv' i]) (by rfl) (by rfl) (by rfl) (by rfl) SlC.h (own2.at u3) (by rw [List.append_nil]; exact h6) (by rfl) (by rw [hgi]; rfl) (by omega) (hR.le (by omega)) ?_
      intro sv' w4 own4 u4 hin4
      repeat (first | refine x_move (by rfl) ?_ | refine x_as (by rfl) (by rfl) ?_ | refine x_skip (by rfl) ?_ | refine x_fld (by rfl) (by rfl) FldO.h ?_ | refine x_nilck (by rfl) (by rfl) ?_ | refine x_len (by rfl) (by rfl) ElOf.some ?_ | refine x_ext (by rfl) (by rfl) (by rfl) ?_ | refine x_pickT (by rfl) (by rfl) (by rfl) ?_ | refine x_pickF (by rfl) (by rfl) (by rfl) ?_ | refine x_add (by rfl) (by rfl) (by rfl) (by omega) ?_ | refine x_sub (by rfl) (by rfl) (by rfl) (by omega) ?_ | refine x_not (by rfl) (by rfl) ?_)
      refine x_nilw ?_
      (repeat (first | with_reducible refine n_then ?_ | with_reducible refine n_block ?_ | with_reducible refine n_jump ?_))
      (repeat (first | refine swp_seq ?_ | refine swp_block ?_)); refine swp_region (by kernel_rfl) ?_
      repeat (first | refine x_move (by rfl) ?_ | refine x_as (by rfl) (by rfl) ?_ | refine x_skip (by rfl) ?_ | refine x_fld (by rfl) (by rfl) FldO.h ?_ | refine w_load (by rfl) (by rfl) (load_one OneT.h (by assumption) (by rfl)) ?_ | refine x_nilck (by rfl) (by rfl) ?_ | refine x_len (by rfl) (by rfl) ElOf.some ?_ | refine x_iface (by rfl) (by rfl) NIf.h ?_ | refine x_ext (by rfl) (by rfl) (by rfl) ?_ | refine x_pickT (by rfl) (by rfl) (by rfl) ?_ | refine x_pickF (by rfl) (by rfl) (by rfl) ?_ | refine x_add (by rfl) (by rfl) (by rfl) (by omega) ?_ | refine x_sub (by rfl) (by rfl) (by rfl) (by omega) ?_ | refine x_lss (by rfl) (by rfl) (by rfl) ?_ | refine x_geq (by rfl) (by rfl) (by rfl) ?_ | refine x_leq (by rfl) (by rfl) (by rfl) ?_ | refine x_gtr (by rfl) (by rfl) (by rfl) ?_ | refine x_eql (by rfl) (by rfl) (by rfl) ?_ | refine x_neq (by rfl) (by rfl) (by rfl) ?_ | refine x_not (by rfl) (by rfl) ?_)
      refine x_nilw ?_
      have own4' : Own w4 32 1 sv' (i + 1) (fl encV (vals (i + 1) gv')) := by
        rw [vals_succ, fl_append, fl_one, hvg]
        exact own4
      refine ⟨i + 1, ⟨gv', Y', sv', at_ ⟨rfl, rfl, rfl, trivial⟩, hi', fun j hj => ?_, fun j hj => hV j (by omega), ?_, hgn, fun b hb => ?_, (u2.ext u3).trans' u4 fun b hb e => by have := hsn b e; omega⟩, by omega⟩
      · by_cases e : j = i
        · subst e
          exact hYi
        · exact hY j (by omega)
      · exact (s2.ext u3).upd (i := 2) (a' := aOwn 32 1 sv' (i + 1) (fl encV (vals (i + 1) gv'))) rfl u4 (fun b _ e => e) own4' hin4
      · rcases hin4 b hb with h | h
        · exact hsn b h
        · omega
    · have hin : i = n := by omega
      subst hin
      refine swp_exit ?_; (repeat (first | with_reducible refine e_then ?_ | with_reducible refine e_jump ?_)); refine e_block ?_; (repeat (first | with_reducible refine n_then ?_ | with_reducible refine n_block ?_ | with_reducible refine n_jump ?_))
      refine ⟨rfl, gv, sv, at_ ⟨rfl, rfl, trivial⟩, ?_, u1⟩
      have hfam : fam i (fun j => aTwin (V j) (gv j) (full L j) (Y j)) = fam i (fun j => aTwin (V j) (gv j) (full L j) (full L j ++ List.replicate 70 (e2 j))) := List.map_congr_left fun j hj => by
        have := hY j (by have := List.mem_range.1 hj; omega)
        rw [this]
      have s1' := s1
      unfold apf at s1' ⊢
      rw [hfam] at s1'
      exact s1'
  rintro σ w2 ⟨gv, sv, ⟨ρ, rfl⟩, s2, u2⟩
  refine n_then ?_
  have rl := (show Own w2 32 1 (.slice la n lc) n (fl encV (vals n V)) from s2.2.2.1).rd
  have rs := (show Own w2 32 1 sv n (fl encV (vals n gv)) from s2.2.2.2.2.1).rd
  obtain ⟨sa, sc, rfl⟩ := rs.slice
  have tw := fun j (hj : j < n) => apf_at s2.1 hj
  (repeat (first | refine swp_seq ?_ | refine swp_block ?_)); refine swp_region (by kernel_rfl) ?_
  repeat (first | refine x_move (by rfl) ?_ | refine x_as (by rfl) (by rfl) ?_ | refine x_skip (by rfl) ?_ | refine x_fld (by rfl) (by rfl) FldO.h ?_ | refine x_nilck (by rfl) (by rfl) ?_ | refine x_len (by rfl) (by rfl) ElOf.some ?_ | refine x_ext (by rfl) (by rfl) (by rfl) ?_ | refine x_pickT (by rfl) (by rfl) (by rfl) ?_ | refine x_pickF (by rfl) (by rfl) (by rfl) ?_ | refine x_add (by rfl) (by rfl) (by rfl) (by omega) ?_ | refine x_sub (by rfl) (by rfl) (by rfl) (by omega) ?_ | refine x_not (by rfl) (by rfl) ?_)
  refine x_nilw ?_
  refine swp_fit [(0, .slice la n lc), (5, .slice sa n sc), (9, .int .i64 ((0 : Nat) : Int))] ⟨rfl, rfl, rfl, trivial⟩ fun ρ => ?_
  (repeat (first | refine swp_seq ?_ | refine swp_block ?_))
  refine swp_loop (fun (i : Nat) σ w' => At σ [(0, .slice la n lc), (5, .slice sa n sc), (9, .int .i64 (i : Nat))] ∧ i ≤ n ∧ Ext w2 w') (fun i => n - i) 0 ⟨at_ ⟨rfl, rfl, rfl, trivial⟩, by omega, Upd.refl _ _⟩ ?_
  clear s1 s2
  rintro i σ w3 ⟨⟨ρ, rfl⟩, hi, u3⟩
  (repeat (first | refine swp_seq ?_ | refine swp_block ?_)); refine swp_region (by kernel_rfl) ?_
  repeat (first | refine x_move (by rfl) ?_ | refine x_as (by rfl) (by rfl) ?_ | refine x_skip (by rfl) ?_ | refine x_fld (by rfl) (by rfl) FldO.h ?_ | refine w_load (by rfl) (by rfl) (load_one OneT.h (by assumption) (by rfl)) ?_ | refine x_nilck (by rfl) (by rfl) ?_ | refine x_len (by rfl) (by rfl) ElOf.some ?_ | refine x_iface (by rfl) (by rfl) NIf.h ?_ | refine x_ext (by rfl) (by rfl) (by rfl) ?_ | refine x_pickT (by rfl) (by rfl) (by rfl) ?_ | refine x_pickF (by rfl) (by rfl) (by rfl) ?_ | refine x_add (by rfl) (by rfl) (by rfl) (by omega) ?_ | refine x_sub (by rfl) (by rfl) (by rfl) (by omega) ?_ | refine x_lss (by rfl) (by rfl) (by rfl) ?_ | refine x_geq (by rfl) (by rfl) (by rfl) ?_ | refine x_leq (by rfl) (by rfl) (by rfl) ?_ | refine x_gtr (by rfl) (by rfl) (by rfl) ?_ | refine x_eql (by rfl) (by rfl) (by rfl) ?_ | refine x_neq (by rfl) (by rfl) (by rfl) ?_ | refine x_not (by rfl) (by rfl) ?_)
  refine x_nilw ?_
  (repeat (first | refine swp_seq ?_ | refine swp_block ?_))
  refine swp_if (by rfl) (fun hc => swp_skip ?_) (fun hc => ?_)
  · have hi' : i < n := by omega
    obtain ⟨lb, lo, ld, hle, -, -⟩ := rl.pos (by omega)
    simp only [Value.slice.injEq] at hle
    obtain ⟨rfl, _, rfl⟩ := hle
    obtain ⟨sb, so, sd, hse, -, -⟩ := rs.pos (by omega)
    simp only [Value.slice.injEq] at hse
    obtain ⟨rfl, _, rfl⟩ := hse
    have ti := tw i hi'
    have hYl : (full L i ++ List.replicate 70 (e2 i)).length = (L i).length + 70 := by rw [List.length_append, full_len, List.length_replicate]
    have hXl := full_len L i
    have hLi := hL i hi'
    have rY := ti.own.rd
    have rX := ti.rd
    obtain ⟨gb, go', gc, hgi, -, -⟩ := rY.pos (by omega)
    rw [hgi] at rY
    obtain ⟨va, vc, hVi⟩ := hVs' i hi'
    rw [hVi] at rX
    (repeat (first | with_reducible refine n_then ?_ | with_reducible refine n_block ?_ | with_reducible refine n_jump ?_))
    (repeat (first | refine swp_seq ?_ | refine swp_block ?_)); refine swp_region (by kernel_rfl) ?_
    repeat (first | refine x_move (by rfl) ?_ | refine x_as (by rfl) (by rfl) ?_ | refine x_skip (by rfl) ?_ | refine x_fld (by rfl) (by rfl) FldO.h ?_ | refine x_nilck (by rfl) (by rfl) ?_ | refine x_len (by rfl) (by rfl) ElOf.some ?_ | refine x_ext (by rfl) (by rfl) (by rfl) ?_ | refine x_pickT (by rfl) (by rfl) (by rfl) ?_ | refine x_pickF (by rfl) (by rfl) (by rfl) ?_ | refine x_add (by rfl) (by rfl) (by rfl) (by omega) ?_ | refine x_sub (by rfl) (by rfl) (by rfl) (by omega) ?_ | refine x_not (by rfl) (by rfl) ?_)
    refine x_nilw ?_
    (repeat (first | refine swp_seq ?_ | refine swp_block ?_))
    refine swp_loop (fun (k : Nat) σ w' => At σ [(0, .slice (some ⟨lb, lo, none⟩) n lc), (5, .slice (some ⟨sb, so, none⟩) n sc), (9, .int .i64 (i : Nat)), (10, .int .i64 (k : Nat))] ∧ k ≤ (L i).length + 70 ∧ Ext w2 w') (fun k => (L i).length + 70 - k) 0 ⟨at_ ⟨rfl, rfl, rfl, rfl, trivial⟩, by omega, u3⟩ ?_
    rintro k σ w4 ⟨⟨ρ, rfl⟩, hk, u4⟩
    have rlk := rl.at u4
    have rsk := rs.at u4
    have rYk := rY.at u4
    have rXk := rX.at u4
    (repeat (first | refine swp_seq ?_ | refine swp_block ?_)); refine swp_region (by kernel_rfl) ?_
    repeat (first | refine x_move (by rfl) ?_ | refine x_as (by rfl) (by rfl) ?_ | refine x_skip (by rfl) ?_ | refine x_fld (by rfl) (by rfl) FldO.h ?_ | refine x_nilck (by rfl) (by rfl) ?_ | refine x_len (by rfl) (by rfl) ElOf.some ?_ | refine x_ext (by rfl) (by rfl) (by rfl) ?_ | refine x_pickT (by rfl) (by rfl) (by rfl) ?_ | refine x_pickF (by rfl) (by rfl) (by rfl) ?_ | refine x_add (by rfl) (by rfl) (by rfl) (by omega) ?_ | refine x_sub (by rfl) (by rfl) (by rfl) (by omega) ?_ | refine x_not (by rfl) (by rfl) ?_)
    refine x_idx i (by rfl) (by rfl) (by rfl) ElSz.h rfl hi' ?_
    refine w_load (by rfl) (by rfl) (load_one_cell OneT.h (rd_cell (v := .slice (some ⟨gb, go', none⟩) (full L i ++ List.replicate 70 (e2 i)).length gc) (j := 0) encV_len rsk (vals_get hi') (by rw [hgi]; rfl) (by rw [vals_len]) rfl)) ?_
    repeat (first | refine x_move (by rfl) ?_ | refine x_as (by rfl) (by rfl) ?_ | refine x_skip (by rfl) ?_ | refine x_fld (by rfl) (by rfl) FldO.h ?_ | refine w_load (by rfl) (by rfl) (load_one OneT.h (by assumption) (by rfl)) ?_ | refine x_nilck (by rfl) (by rfl) ?_ | refine x_len (by rfl) (by rfl) ElOf.some ?_ | refine x_iface (by rfl) (by rfl) NIf.h ?_ | refine x_ext (by rfl) (by rfl) (by rfl) ?_ | refine x_pickT (by rfl) (by rfl) (by rfl) ?_ | refine x_pickF (by rfl) (by rfl) (by rfl) ?_ | refine x_add (by rfl) (by rfl) (by rfl) (by omega) ?_ | refine x_sub (by rfl) (by rfl) (by rfl) (by omega) ?_ | refine x_lss (by rfl) (by rfl) (by rfl) ?_ | refine x_geq (by rfl) (by rfl) (by rfl) ?_ | refine x_leq (by rfl) (by rfl) (by rfl) ?_ | refine x_gtr (by rfl) (by rfl) (by rfl) ?_ | refine x_eql (by rfl) (by rfl) (by rfl) ?_ | refine x_neq (by rfl) (by rfl) (by rfl) ?_ | refine x_not (by rfl) (by rfl) ?_)
    refine x_nilw ?_
    (repeat (first | refine swp_seq ?_ | refine swp_block ?_))
    refine swp_if (by rfl) (fun hck => swp_skip ?_) (fun hck => ?_)
    · have hk' : k < (L i).length + 70 := by omega
      (repeat (first | with_reducible refine n_then ?_ | with_reducible refine n_block ?_ | with_reducible refine n_jump ?_))
      (repeat (first | refine swp_seq ?_ | refine swp_block ?_))
      refine PEv.swp_cutQ (fun σ w' => At σ [(0, .slice (some ⟨lb, lo, none⟩) n lc), (5, .slice (some ⟨sb, so, none⟩) n sc), (9, .int .i64 (i : Nat)), (10, .int .i64 (k : Nat)), (132, .bool false)] ∧ Ext w4 w') ?_ ?_
      · (repeat (first | refine swp_seq ?_ | refine swp_block ?_)); refine swp_draw (Ext w4) [] Mixed.h (by kernel_rfl) (by kernel_rfl) (ext_drew w4) ?_
        by_cases hkl : k < (L i).length
        · have hxk : (full L i)[k]? = some (e1 i) := by
            unfold full
            rw [List.getElem?_replicate, if_pos hkl]
          have hyk : (full L i ++ List.replicate 70 (e2 i))[k]? = some (e1 i) := by rw [List.getElem?_append_left (by omega)]; exact hxk
          obtain ⟨vb, vo, vd, hve, -, -⟩ := rX.pos (by omega)
          simp only [Value.slice.injEq] at hve
          obtain ⟨rfl, _, rfl⟩ := hve
          repeat (first | refine x_move (by rfl) ?_ | refine x_as (by rfl) (by rfl) ?_ | refine x_skip (by rfl) ?_ | refine x_fld (by rfl) (by rfl) FldO.h ?_ | refine x_nilck (by rfl) (by rfl) ?_ | refine x_len (by rfl) (by rfl) ElOf.some ?_ | refine x_ext (by rfl) (by rfl) (by rfl) ?_ | refine x_pickT (by rfl) (by rfl) (by rfl) ?_ | refine x_pickF (by rfl) (by rfl) (by rfl) ?_ | refine x_add (by rfl) (by rfl) (by rfl) (by omega) ?_ | refine x_sub (by rfl) (by rfl) (by rfl) (by omega) ?_ | refine x_not (by rfl) (by rfl) ?_)
          refine x_idx i (by rfl) (by rfl) (by rfl) ElSz.h rfl hi' ?_
          refine q_load (by rfl) (by rfl) (by rfl) (fun w' hw' => load_one_cell OneT.h (rd_cell (v := .slice (some ⟨vb, vo, none⟩) (full L i).length vc) (j := 0) encV_len (rlk.at hw') (vals_get hi') (by rw [hVi]; rfl) (by rw [vals_len]) rfl)) ?_
          repeat (first | refine x_move (by rfl) ?_ | refine x_as (by rfl) (by rfl) ?_ | refine x_skip (by rfl) ?_ | refine x_fld (by rfl) (by rfl) FldO.h ?_ | refine x_nilck (by rfl) (by rfl) ?_ | refine x_len (by rfl) (by rfl) ElOf.some ?_ | refine x_ext (by rfl) (by rfl) (by rfl) ?_ | refine x_pickT (by rfl) (by rfl) (by rfl) ?_ | refine x_pickF (by rfl) (by rfl) (by rfl) ?_ | refine x_add (by rfl) (by rfl) (by rfl) (by omega) ?_ | refine x_sub (by rfl) (by rfl) (by rfl) (by omega) ?_ | refine x_not (by rfl) (by rfl) ?_)
          refine x_lssT (by rfl) (by rfl) (by rfl) (by omega) ?_
          repeat (first | refine x_move (by rfl) ?_ | refine x_as (by rfl) (by rfl) ?_ | refine x_skip (by rfl) ?_ | refine x_fld (by rfl) (by rfl) FldO.h ?_ | refine x_nilck (by rfl) (by rfl) ?_ | refine x_len (by rfl) (by rfl) ElOf.some ?_ | refine x_ext (by rfl) (by rfl) (by rfl) ?_ | refine x_pickT (by rfl) (by rfl) (by rfl) ?_ | refine x_pickF (by rfl) (by rfl) (by rfl) ?_ | refine x_add (by rfl) (by rfl) (by rfl) (by omega) ?_ | refine x_sub (by rfl) (by rfl) (by rfl) (by omega) ?_ | refine x_not (by rfl) (by rfl) ?_)
          refine x_idx i (by rfl) (by rfl) (by rfl) ElSz.h rfl hi' ?_
          refine q_load (by rfl) (by rfl) (by rfl) (fun w' hw' => load_one_cell OneT.h (rd_cell (v := .slice (some ⟨vb, vo, none⟩) (full L i).length vc) (j := 0) encV_len (rlk.at hw') (vals_get hi') (by rw [hVi]; rfl) (by rw [vals_len]) rfl)) ?_
          repeat (first | refine x_move (by rfl) ?_ | refine x_as (by rfl) (by rfl) ?_ | refine x_skip (by rfl) ?_ | refine x_fld (by rfl) (by rfl) FldO.h ?_ | refine x_nilck (by rfl) (by rfl) ?_ | refine x_len (by rfl) (by rfl) ElOf.some ?_ | refine x_ext (by rfl) (by rfl) (by rfl) ?_ | refine x_pickT (by rfl) (by rfl) (by rfl) ?_ | refine x_pickF (by rfl) (by rfl) (by rfl) ?_ | refine x_add (by rfl) (by rfl) (by rfl) (by omega) ?_ | refine x_sub (by rfl) (by rfl) (by rfl) (by omega) ?_ | refine x_not (by rfl) (by rfl) ?_)
          refine x_idx k (by rfl) (by rfl) (by rfl) ElSz.h rfl (by omega) ?_
          refine q_load (by rfl) (by rfl) (by rfl) (fun w' hw' => rd_load ev_len AggT.h (rXk.at hw') hxk rfl rfl) ?_
          repeat (first | refine x_move (by rfl) ?_ | refine x_as (by rfl) (by rfl) ?_ | refine x_skip (by rfl) ?_ | refine x_fld (by rfl) (by rfl) FldO.h ?_ | refine x_nilck (by rfl) (by rfl) ?_ | refine x_len (by rfl) (by rfl) ElOf.some ?_ | refine x_ext (by rfl) (by rfl) (by rfl) ?_ | refine x_pickT (by rfl) (by rfl) (by rfl) ?_ | refine x_pickF (by rfl) (by rfl) (by rfl) ?_ | refine x_add (by rfl) (by rfl) (by rfl) (by omega) ?_ | refine x_sub (by rfl) (by rfl) (by rfl) (by omega) ?_ | refine x_not (by rfl) (by rfl) ?_)
          refine x_build (v := (e1 i).v) (by rfl) (by rfl) (fun _ => by rw [show (e1 i).v = .agg (mk (1000 + (i : Nat)) 0).cells.toArray by simp [e1]]; kernel_rfl) ?_
          refine x_neqA (a := e1 i) (b := e1 i) eq_ev (by rfl) (by rfl) (by rfl) ?_
          rw [show (!decide (e1 i = e1 i)) = false by simp]
          repeat (first | refine x_move (by rfl) ?_ | refine x_as (by rfl) (by rfl) ?_ | refine x_skip (by rfl) ?_ | refine x_fld (by rfl) (by rfl) FldO.h ?_ | refine x_nilck (by rfl) (by rfl) ?_ | refine x_len (by rfl) (by rfl) ElOf.some ?_ | refine x_ext (by rfl) (by rfl) (by rfl) ?_ | refine x_pickT (by rfl) (by rfl) (by rfl) ?_ | refine x_pickF (by rfl) (by rfl) (by rfl) ?_ | refine x_add (by rfl) (by rfl) (by rfl) (by omega) ?_ | refine x_sub (by rfl) (by rfl) (by rfl) (by omega) ?_ | refine x_not (by rfl) (by rfl) ?_)
          refine x_idx i (by rfl) (by rfl) (by rfl) ElSz.h rfl hi' ?_
          refine q_load (by rfl) (by rfl) (by rfl) (fun w' hw' => load_one_cell OneT.h (rd_cell (v := .slice (some ⟨gb, go', none⟩) (full L i ++ List.replicate 70 (e2 i)).length gc) (j := 0) encV_len (rsk.at hw') (vals_get hi') (by rw [hgi]; rfl) (by rw [vals_len]) rfl)) ?_
          repeat (first | refine x_move (by rfl) ?_ | refine x_as (by rfl) (by rfl) ?_ | refine x_skip (by rfl) ?_ | refine x_fld (by rfl) (by rfl) FldO.h ?_ | refine x_nilck (by rfl) (by rfl) ?_ | refine x_len (by rfl) (by rfl) ElOf.some ?_ | refine x_ext (by rfl) (by rfl) (by rfl) ?_ | refine x_pickT (by rfl) (by rfl) (by rfl) ?_ | refine x_pickF (by rfl) (by rfl) (by rfl) ?_ | refine x_add (by rfl) (by rfl) (by rfl) (by omega) ?_ | refine x_sub (by rfl) (by rfl) (by rfl) (by omega) ?_ | refine x_not (by rfl) (by rfl) ?_)
          refine x_idx k (by rfl) (by rfl) (by rfl) ElSz.h rfl (by omega) ?_
          refine q_load (by rfl) (by rfl) (by rfl) (fun w' hw' => rd_load ev_len AggT.h (rYk.at hw') hyk rfl rfl) ?_
          repeat (first | refine x_move (by rfl) ?_ | refine x_as (by rfl) (by rfl) ?_ | refine x_skip (by rfl) ?_ | refine x_fld (by rfl) (by rfl) FldO.h ?_ | refine x_nilck (by rfl) (by rfl) ?_ | refine x_len (by rfl) (by rfl) ElOf.some ?_ | refine x_ext (by rfl) (by rfl) (by rfl) ?_ | refine x_pickT (by rfl) (by rfl) (by rfl) ?_ | refine x_pickF (by rfl) (by rfl) (by rfl) ?_ | refine x_add (by rfl) (by rfl) (by rfl) (by omega) ?_ | refine x_sub (by rfl) (by rfl) (by rfl) (by omega) ?_ | refine x_not (by rfl) (by rfl) ?_)
          refine x_idx i (by rfl) (by rfl) (by rfl) ElSz.h rfl hi' ?_
          refine q_load (by rfl) (by rfl) (by rfl) (fun w' hw' => load_one_cell OneT.h (rd_cell (v := .slice (some ⟨vb, vo, none⟩) (full L i).length vc) (j := 0) encV_len (rlk.at hw') (vals_get hi') (by rw [hVi]; rfl) (by rw [vals_len]) rfl)) ?_
          repeat (first | refine x_move (by rfl) ?_ | refine x_as (by rfl) (by rfl) ?_ | refine x_skip (by rfl) ?_ | refine x_fld (by rfl) (by rfl) FldO.h ?_ | refine x_nilck (by rfl) (by rfl) ?_ | refine x_len (by rfl) (by rfl) ElOf.some ?_ | refine x_ext (by rfl) (by rfl) (by rfl) ?_ | refine x_pickT (by rfl) (by rfl) (by rfl) ?_ | refine x_pickF (by rfl) (by rfl) (by rfl) ?_ | refine x_add (by rfl) (by rfl) (by rfl) (by omega) ?_ | refine x_sub (by rfl) (by rfl) (by rfl) (by omega) ?_ | refine x_not (by rfl) (by rfl) ?_)
          refine x_idx k (by rfl) (by rfl) (by rfl) ElSz.h rfl (by omega) ?_
          refine q_load (by rfl) (by rfl) (by rfl) (fun w' hw' => rd_load ev_len AggT.h (rXk.at hw') hxk rfl rfl) ?_
          refine x_neqA (a := e1 i) (b := e1 i) eq_ev (by rfl) (by rfl) (by rfl) ?_
          rw [show (!decide (e1 i = e1 i)) = false by simp]
          repeat (first | refine x_move (by rfl) ?_ | refine x_as (by rfl) (by rfl) ?_ | refine x_skip (by rfl) ?_ | refine x_fld (by rfl) (by rfl) FldO.h ?_ | refine x_nilck (by rfl) (by rfl) ?_ | refine x_len (by rfl) (by rfl) ElOf.some ?_ | refine x_ext (by rfl) (by rfl) (by rfl) ?_ | refine x_pickT (by rfl) (by rfl) (by rfl) ?_ | refine x_pickF (by rfl) (by rfl) (by rfl) ?_ | refine x_add (by rfl) (by rfl) (by rfl) (by omega) ?_ | refine x_sub (by rfl) (by rfl) (by rfl) (by omega) ?_ | refine x_not (by rfl) (by rfl) ?_)
          refine x_idx i (by rfl) (by rfl) (by rfl) ElSz.h rfl hi' ?_
          refine q_load (by rfl) (by rfl) (by rfl) (fun w' hw' => load_one_cell OneT.h (rd_cell (v := .slice (some ⟨vb, vo, none⟩) (full L i).length vc) (j := 0) encV_len (rlk.at hw') (vals_get hi') (by rw [hVi]; rfl) (by rw [vals_len]) rfl)) ?_
          repeat (first | refine x_move (by rfl) ?_ | refine x_as (by rfl) (by rfl) ?_ | refine x_skip (by rfl) ?_ | refine x_fld (by rfl) (by rfl) FldO.h ?_ | refine x_nilck (by rfl) (by rfl) ?_ | refine x_len (by rfl) (by rfl) ElOf.some ?_ | refine x_ext (by rfl) (by rfl) (by rfl) ?_ | refine x_pickT (by rfl) (by rfl) (by rfl) ?_ | refine x_pickF (by rfl) (by rfl) (by rfl) ?_ | refine x_add (by rfl) (by rfl) (by rfl) (by omega) ?_ | refine x_sub (by rfl) (by rfl) (by rfl) (by omega) ?_ | refine x_not (by rfl) (by rfl) ?_)
          refine x_geqF (by rfl) (by rfl) (by rfl) (by omega) ?_
          repeat (first | refine x_move (by rfl) ?_ | refine x_as (by rfl) (by rfl) ?_ | refine x_skip (by rfl) ?_ | refine x_fld (by rfl) (by rfl) FldO.h ?_ | refine x_nilck (by rfl) (by rfl) ?_ | refine x_len (by rfl) (by rfl) ElOf.some ?_ | refine x_ext (by rfl) (by rfl) (by rfl) ?_ | refine x_pickT (by rfl) (by rfl) (by rfl) ?_ | refine x_pickF (by rfl) (by rfl) (by rfl) ?_ | refine x_add (by rfl) (by rfl) (by rfl) (by omega) ?_ | refine x_sub (by rfl) (by rfl) (by rfl) (by omega) ?_ | refine x_not (by rfl) (by rfl) ?_)
          refine x_nil fun w5 u5 => ?_
          exact ⟨rfl, at_ ⟨rfl, rfl, rfl, rfl, rfl, trivial⟩, u5⟩
        · have hyk : (full L i ++ List.replicate 70 (e2 i))[k]? = some (e2 i) := by
            rw [List.getElem?_append_right (by omega), List.getElem?_replicate, if_pos (by omega)]
          repeat (first | refine x_move (by rfl) ?_ | refine x_as (by rfl) (by rfl) ?_ | refine x_skip (by rfl) ?_ | refine x_fld (by rfl) (by rfl) FldO.h ?_ | refine x_nilck (by rfl) (by rfl) ?_ | refine x_len (by rfl) (by rfl) ElOf.some ?_ | refine x_ext (by rfl) (by rfl) (by rfl) ?_ | refine x_pickT (by rfl) (by rfl) (by rfl) ?_ | refine x_pickF (by rfl) (by rfl) (by rfl) ?_ | refine x_add (by rfl) (by rfl) (by rfl) (by omega) ?_ | refine x_sub (by rfl) (by rfl) (by rfl) (by omega) ?_ | refine x_not (by rfl) (by rfl) ?_)
          refine x_idx i (by rfl) (by rfl) (by rfl) ElSz.h rfl hi' ?_
          refine q_load (by rfl) (by rfl) (by rfl) (fun w' hw' => load_one_cell OneT.h (rd_cell (v := .slice va (full L i).length vc) (j := 0) encV_len (rlk.at hw') (vals_get hi') (by rw [hVi]; rfl) (by rw [vals_len]) rfl)) ?_
          repeat (first | refine x_move (by rfl) ?_ | refine x_as (by rfl) (by rfl) ?_ | refine x_skip (by rfl) ?_ | refine x_fld (by rfl) (by rfl) FldO.h ?_ | refine x_nilck (by rfl) (by rfl) ?_ | refine x_len (by rfl) (by rfl) ElOf.some ?_ | refine x_ext (by rfl) (by rfl) (by rfl) ?_ | refine x_pickT (by rfl) (by rfl) (by rfl) ?_ | refine x_pickF (by rfl) (by rfl) (by rfl) ?_ | refine x_add (by rfl) (by rfl) (by rfl) (by omega) ?_ | refine x_sub (by rfl) (by rfl) (by rfl) (by omega) ?_ | refine x_not (by rfl) (by rfl) ?_)
          refine x_lssF (by rfl) (by rfl) (by rfl) (by omega) ?_
          repeat (first | refine x_move (by rfl) ?_ | refine x_as (by rfl) (by rfl) ?_ | refine x_skip (by rfl) ?_ | refine x_fld (by rfl) (by rfl) FldO.h ?_ | refine x_nilck (by rfl) (by rfl) ?_ | refine x_len (by rfl) (by rfl) ElOf.some ?_ | refine x_ext (by rfl) (by rfl) (by rfl) ?_ | refine x_pickT (by rfl) (by rfl) (by rfl) ?_ | refine x_pickF (by rfl) (by rfl) (by rfl) ?_ | refine x_add (by rfl) (by rfl) (by rfl) (by omega) ?_ | refine x_sub (by rfl) (by rfl) (by rfl) (by omega) ?_ | refine x_not (by rfl) (by rfl) ?_)
          refine x_idx i (by rfl) (by rfl) (by rfl) ElSz.h rfl hi' ?_
          refine q_load (by rfl) (by rfl) (by rfl) (fun w' hw' => load_one_cell OneT.h (rd_cell (v := .slice va (full L i).length vc) (j := 0) encV_len (rlk.at hw') (vals_get hi') (by rw [hVi]; rfl) (by rw [vals_len]) rfl)) ?_
          repeat (first | refine x_move (by rfl) ?_ | refine x_as (by rfl) (by rfl) ?_ | refine x_skip (by rfl) ?_ | refine x_fld (by rfl) (by rfl) FldO.h ?_ | refine x_nilck (by rfl) (by rfl) ?_ | refine x_len (by rfl) (by rfl) ElOf.some ?_ | refine x_ext (by rfl) (by rfl) (by rfl) ?_ | refine x_pickT (by rfl) (by rfl) (by rfl) ?_ | refine x_pickF (by rfl) (by rfl) (by rfl) ?_ | refine x_add (by rfl) (by rfl) (by rfl) (by omega) ?_ | refine x_sub (by rfl) (by rfl) (by rfl) (by omega) ?_ | refine x_not (by rfl) (by rfl) ?_)
          refine x_geqT (by rfl) (by rfl) (by rfl) (by omega) ?_
          repeat (first | refine x_move (by rfl) ?_ | refine x_as (by rfl) (by rfl) ?_ | refine x_skip (by rfl) ?_ | refine x_fld (by rfl) (by rfl) FldO.h ?_ | refine x_nilck (by rfl) (by rfl) ?_ | refine x_len (by rfl) (by rfl) ElOf.some ?_ | refine x_ext (by rfl) (by rfl) (by rfl) ?_ | refine x_pickT (by rfl) (by rfl) (by rfl) ?_ | refine x_pickF (by rfl) (by rfl) (by rfl) ?_ | refine x_add (by rfl) (by rfl) (by rfl) (by omega) ?_ | refine x_sub (by rfl) (by rfl) (by rfl) (by omega) ?_ | refine x_not (by rfl) (by rfl) ?_)
          refine x_idx i (by rfl) (by rfl) (by rfl) ElSz.h rfl hi' ?_
          refine q_load (by rfl) (by rfl) (by rfl) (fun w' hw' => load_one_cell OneT.h (rd_cell (v := .slice (some ⟨gb, go', none⟩) (full L i ++ List.replicate 70 (e2 i)).length gc) (j := 0) encV_len (rsk.at hw') (vals_get hi') (by rw [hgi]; rfl) (by rw [vals_len]) rfl)) ?_
          repeat (first | refine x_move (by rfl) ?_ | refine x_as (by rfl) (by rfl) ?_ | refine x_skip (by rfl) ?_ | refine x_fld (by rfl) (by rfl) FldO.h ?_ | refine x_nilck (by rfl) (by rfl) ?_ | refine x_len (by rfl) (by rfl) ElOf.some ?_ | refine x_ext (by rfl) (by rfl) (by rfl) ?_ | refine x_pickT (by rfl) (by rfl) (by rfl) ?_ | refine x_pickF (by rfl) (by rfl) (by rfl) ?_ | refine x_add (by rfl) (by rfl) (by rfl) (by omega) ?_ | refine x_sub (by rfl) (by rfl) (by rfl) (by omega) ?_ | refine x_not (by rfl) (by rfl) ?_)
          refine x_idx k (by rfl) (by rfl) (by rfl) ElSz.h rfl (by omega) ?_
          refine q_load (by rfl) (by rfl) (by rfl) (fun w' hw' => rd_load ev_len AggT.h (rYk.at hw') hyk rfl rfl) ?_
          repeat (first | refine x_move (by rfl) ?_ | refine x_as (by rfl) (by rfl) ?_ | refine x_skip (by rfl) ?_ | refine x_fld (by rfl) (by rfl) FldO.h ?_ | refine x_nilck (by rfl) (by rfl) ?_ | refine x_len (by rfl) (by rfl) ElOf.some ?_ | refine x_ext (by rfl) (by rfl) (by rfl) ?_ | refine x_pickT (by rfl) (by rfl) (by rfl) ?_ | refine x_pickF (by rfl) (by rfl) (by rfl) ?_ | refine x_add (by rfl) (by rfl) (by rfl) (by omega) ?_ | refine x_sub (by rfl) (by rfl) (by rfl) (by omega) ?_ | refine x_not (by rfl) (by rfl) ?_)
          refine x_build (v := (e2 i).v) (by rfl) (by rfl) (fun _ => by rw [show (e2 i).v = .agg (mk (500000 + (i : Nat)) 1).cells.toArray by simp [e2]]; kernel_rfl) ?_
          refine x_neqA (a := e2 i) (b := e2 i) eq_ev (by rfl) (by rfl) (by rfl) ?_
          rw [show (!decide (e2 i = e2 i)) = false by simp]
          repeat (first | refine x_move (by rfl) ?_ | refine x_as (by rfl) (by rfl) ?_ | refine x_skip (by rfl) ?_ | refine x_fld (by rfl) (by rfl) FldO.h ?_ | refine x_nilck (by rfl) (by rfl) ?_ | refine x_len (by rfl) (by rfl) ElOf.some ?_ | refine x_ext (by rfl) (by rfl) (by rfl) ?_ | refine x_pickT (by rfl) (by rfl) (by rfl) ?_ | refine x_pickF (by rfl) (by rfl) (by rfl) ?_ | refine x_add (by rfl) (by rfl) (by rfl) (by omega) ?_ | refine x_sub (by rfl) (by rfl) (by rfl) (by omega) ?_ | refine x_not (by rfl) (by rfl) ?_)
          refine x_nil fun w5 u5 => ?_
          exact ⟨rfl, at_ ⟨rfl, rfl, rfl, rfl, rfl, trivial⟩, u5⟩
      rintro σ w5 ⟨⟨ρ, rfl⟩, u5⟩
      refine n_then ?_
      (repeat (first | refine swp_seq ?_ | refine swp_block ?_))
      refine swp_false (by rfl) (swp_skip ?_)
      (repeat (first | with_reducible refine n_then ?_ | with_reducible refine n_block ?_ | with_reducible refine n_jump ?_))
      (repeat (first | refine swp_seq ?_ | refine swp_block ?_)); refine swp_region (by kernel_rfl) ?_
      repeat (first | refine x_move (by rfl) ?_ | refine x_as (by rfl) (by rfl) ?_ | refine x_skip (by rfl) ?_ | refine x_fld (by rfl) (by rfl) FldO.h ?_ | refine w_load (by rfl) (by rfl) (load_one OneT.h (by assumption) (by rfl)) ?_ | refine x_nilck (by rfl) (by rfl) ?_ | refine x_len (by rfl) (by rfl) ElOf.some ?_ | refine x_iface (by rfl) (by rfl) NIf.h ?_ | refine x_ext (by rfl) (by rfl) (by rfl) ?_ | refine x_pickT (by rfl) (by rfl) (by rfl) ?_ | refine x_pickF (by rfl) (by rfl) (by rfl) ?_ | refine x_add (by rfl) (by rfl) (by rfl) (by omega) ?_ | refine x_sub (by rfl) (by rfl) (by rfl) (by omega) ?_ | refine x_lss (by rfl) (by rfl) (by rfl) ?_ | refine x_geq (by rfl) (by rfl) (by rfl) ?_ | refine x_leq (by rfl) (by rfl) (by rfl) ?_ | refine x_gtr (by rfl) (by rfl) (by rfl) ?_ | refine x_eql (by rfl) (by rfl) (by rfl) ?_ | refine x_neq (by rfl) (by rfl) (by rfl) ?_ | refine x_not (by rfl) (by rfl) ?_)
      refine x_nilw ?_
      exact ⟨k + 1, ⟨at_ ⟨rfl, rfl, rfl, rfl, trivial⟩, hk', u4.trans u5⟩, by omega⟩
    · refine swp_exit ?_; (repeat (first | with_reducible refine e_then ?_ | with_reducible refine e_jump ?_)); refine e_block ?_; (repeat (first | with_reducible refine n_then ?_ | with_reducible refine n_block ?_ | with_reducible refine n_jump ?_))
      (repeat (first | refine swp_seq ?_ | refine swp_block ?_)); refine swp_region (by kernel_rfl) ?_
      repeat (first | refine x_move (by rfl) ?_ | refine x_as (by rfl) (by rfl) ?_ | refine x_skip (by rfl) ?_ | refine x_fld (by rfl) (by rfl) FldO.h ?_ | refine w_load (by rfl) (by rfl) (load_one OneT.h (by assumption) (by rfl)) ?_ | refine x_nilck (by rfl) (by rfl) ?_ | refine x_len (by rfl) (by rfl) ElOf.some ?_ | refine x_iface (by rfl) (by rfl) NIf.h ?_ | refine x_ext (by rfl) (by rfl) (by rfl) ?_ | refine x_pickT (by rfl) (by rfl) (by rfl) ?_ | refine x_pickF (by rfl) (by rfl) (by rfl) ?_ | refine x_add (by rfl) (by rfl) (by rfl) (by omega) ?_ | refine x_sub (by rfl) (by rfl) (by rfl) (by omega) ?_ | refine x_lss (by rfl) (by rfl) (by rfl) ?_ | refine x_geq (by rfl) (by rfl) (by rfl) ?_ | refine x_leq (by rfl) (by rfl) (by rfl) ?_ | refine x_gtr (by rfl) (by rfl) (by rfl) ?_ | refine x_eql (by rfl) (by rfl) (by rfl) ?_ | refine x_neq (by rfl) (by rfl) (by rfl) ?_ | refine x_not (by rfl) (by rfl) ?_)
      refine x_nilw ?_
      exact ⟨i + 1, ⟨at_ ⟨rfl, rfl, rfl, trivial⟩, hi', u4⟩, by omega⟩
  · refine swp_exit ?_; (repeat (first | with_reducible refine e_then ?_ | with_reducible refine e_jump ?_)); refine e_block ?_; (repeat (first | with_reducible refine n_then ?_ | with_reducible refine n_block ?_ | with_reducible refine n_jump ?_))
    (repeat (first | refine swp_seq ?_ | refine swp_block ?_)); refine swp_region (by kernel_rfl) ?_
    repeat (first | refine x_move (by rfl) ?_ | refine x_as (by rfl) (by rfl) ?_ | refine x_skip (by rfl) ?_ | refine x_fld (by rfl) (by rfl) FldO.h ?_ | refine x_nilck (by rfl) (by rfl) ?_ | refine x_len (by rfl) (by rfl) ElOf.some ?_ | refine x_ext (by rfl) (by rfl) (by rfl) ?_ | refine x_pickT (by rfl) (by rfl) (by rfl) ?_ | refine x_pickF (by rfl) (by rfl) (by rfl) ?_ | refine x_add (by rfl) (by rfl) (by rfl) (by omega) ?_ | refine x_sub (by rfl) (by rfl) (by rfl) (by omega) ?_ | refine x_not (by rfl) (by rfl) ?_)
    refine x_nilw ?_
    refine swp_ret ?_; (repeat (first | with_reducible refine r_then ?_ | with_reducible refine r_block ?_ | with_reducible refine r_jump ?_))
    exact post1 rfl rfl ⟨_, rfl, rfl, u2.ext u3⟩
end Go.Proofs.Ytnhecopgecoloaa
