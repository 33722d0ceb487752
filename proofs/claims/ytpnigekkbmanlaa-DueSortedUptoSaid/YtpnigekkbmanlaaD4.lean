/- DueSorted's walk: it answers true. Conditions: what is read; so few matches that there is room. -/
import Derived.Test.YtpnigekkbmanlaaD3
namespace Go.Proofs.Ytpnigekkbmanlaa
open Sx Hp

section
variable {α κ : Type} [DecidableEq κ]
/-- what is not gone -/
def ung : List α → List Bool → List α
  | x :: xs, g :: gs => if g then ung xs gs else x :: ung xs gs
  | _, _ => []
theorem ung_all : ∀ M : List α, ung M (List.replicate M.length false) = M
  | [] => rfl
  | x :: M => by rw [List.length_cons, List.replicate_succ]; simp [ung, ung_all M]
theorem ung_none (f : α → κ) (c : κ) : ∀ (M : List α) (G : List Bool), M.length = G.length → (∀ (j : Nat) (z : α), M[j]? = some z → G[j]? = some true ∨ f z ≠ c) → (ung M G).filter (fun z => decide (f z = c)) = []
  | [], _, _, _ => by simp [ung]
  | x :: M, [], h, _ => by simp at h
  | x :: M, g :: G, h, hn => by
    have ih := ung_none f c M G (by simpa using h) fun j z hz => by simpa using hn (j + 1) z hz
    have h0 := hn 0 x rfl
    cases g with
    | true => simpa [ung] using ih
    | false =>
      have hx : f x ≠ c := by simpa using h0
      simp [ung, hx]
      simpa using ih
theorem ung_set (f : α → κ) {c : κ} : ∀ (M : List α) (G : List Bool) (i : Nat) (m : α), M.length = G.length → M[i]? = some m → G[i]? = some false → f m = c → (∀ (j : Nat) (z : α), j < i → M[j]? = some z → G[j]? = some true ∨ f z ≠ c) →
    (ung M G).filter (fun z => decide (f z = c)) = m :: (ung M (G.set i true)).filter (fun z => decide (f z = c)) ∧ ∀ c', c' ≠ c → (ung M (G.set i true)).filter (fun z => decide (f z = c')) = (ung M G).filter (fun z => decide (f z = c'))
  | [], _, _, _, _, h, _, _, _ => by simp at h
  | x :: M, [], _, _, h, _, _, _, _ => by simp at h
  | x :: M, g :: G, 0, m, hl, hm, hg, hc, _ => by
    simp only [List.getElem?_cons_zero, Option.some.injEq] at hm hg
    subst hm; subst hg
    refine ⟨by simp [ung, hc], fun c' hc' => ?_⟩
    have : f x ≠ c' := fun e => hc' (by rw [← e, hc])
    simp [ung, this]
  | x :: M, g :: G, i + 1, m, hl, hm, hg, hc, hn => by
    obtain ⟨ih1, ih2⟩ := ung_set f M G i m (by simpa using hl) (by simpa using hm) (by simpa using hg) hc fun j z hj hz => by simpa using hn (j + 1) z (by omega) hz
    have h0 := hn 0 x (by omega) rfl
    cases g with
    | true => exact ⟨by simpa [ung] using ih1, fun c' hc' => by simpa [ung] using ih2 c' hc'⟩
    | false =>
      have hx : f x ≠ c := by simpa using h0
      refine ⟨by simpa [ung, hx] using ih1, fun c' hc' => ?_⟩
      have := ih2 c' hc'
      simp only [ung, List.set_cons_succ, Bool.false_eq_true, if_false, List.filter_cons]
      split <;> rw [this]
theorem put_filter {lt : α → α → Bool} {kl : κ → κ → Bool} (f : α → κ) (hf : ∀ a b, lt a b = kl (f a) (f b)) (c : κ) {x : α} : ∀ {l : List α}, Srt lt l → (hx : kl (f x) (f x) = false) → (put lt l x).filter (fun z => decide (f z = c)) = l.filter (fun z => decide (f z = c)) ++ [x].filter (fun z => decide (f z = c))
  | [], _, _ => rfl
  | y :: l, hs, hx => by
    obtain ⟨h1, h2⟩ := List.pairwise_cons.1 hs
    unfold put
    split
    · rename_i hxy
      by_cases hc : f x = c
      · have hno : ∀ z ∈ y :: l, ¬ f z = c := fun z hz e => by
          rcases List.mem_cons.1 hz with rfl | hz
          · rw [hf, hc, e, ← hc, hx] at hxy; cases hxy
          · have := h1 z hz
            rw [hf, e, ← hc, ← hf, hxy] at this
            cases this
        have : (y :: l).filter (fun z => decide (f z = c)) = [] := List.filter_eq_nil_iff.2 fun z hz => by simpa using hno z hz
        rw [List.filter_cons, this]
        simp [hc]
      · simp [hc]
    · have ih := put_filter f hf c (x := x) h2 hx
      rw [List.filter_cons, List.filter_cons, ih]
      split <;> simp
theorem foldl_filter {lt : α → α → Bool} {kl : κ → κ → Bool} (ho : Ord lt) (f : α → κ) (hf : ∀ a b, lt a b = kl (f a) (f b)) (c : κ) : ∀ (l acc : List α), Srt lt acc → (l.foldl (put lt) acc).filter (fun z => decide (f z = c)) = acc.filter (fun z => decide (f z = c)) ++ l.filter (fun z => decide (f z = c)) ∧ Srt lt (l.foldl (put lt) acc)
  | [], acc, hs => by simpa using hs
  | x :: l, acc, hs => by
    obtain ⟨h1, h2⟩ := foldl_filter ho f hf c l (put lt acc x) (srt_put ho hs)
    refine ⟨?_, h2⟩
    rw [List.foldl_cons, h1, put_filter f hf c hs (by rw [← hf]; exact ho.irr x), List.append_assoc, ← List.filter_append]
    rfl
end

abbrev Sy := Int × List Nm × List Int × List Vl
def sky (s : Sy) : Int × List Nm × List Int := (s.1, s.2.1, s.2.2.1)
/-- what is not gone is what is to come, kind by kind -/
def GInv (M : List Sy) (G : List Bool) (R : List Sy) : Prop := G.length = M.length ∧ ∀ c, (ung M G).filter (fun z => decide (sky z = c)) = R.filter (fun z => decide (sky z = c))
theorem GInv.init (A : List Sy) : GInv (A.foldl (put slt) []) (List.replicate (A.foldl (put slt) []).length false) A := by
  refine ⟨by simp, fun c => ?_⟩
  rw [ung_all, (foldl_filter slt_ord sky (kl := klt) (fun _ _ => rfl) c A [] List.Pairwise.nil).1]
  rfl
theorem GInv.found {M : List Sy} {G : List Bool} {x : Sy} {R : List Sy} (h : GInv M G (x :: R)) (hn : ∀ (j : Nat) (z : Sy), M[j]? = some z → G[j]? = some true ∨ sky z ≠ sky x) : False := by
  have h1 := h.2 (sky x)
  rw [ung_none sky (sky x) M G h.1.symm hn] at h1
  simp at h1
theorem GInv.step {M : List Sy} {G : List Bool} {x : Sy} {R : List Sy} (h : GInv M G (x :: R)) {i : Nat} {m : Sy} (hm : M[i]? = some m) (hg : G[i]? = some false) (hk : sky m = sky x) (hn : ∀ (j : Nat) (z : Sy), j < i → M[j]? = some z → G[j]? = some true ∨ sky z ≠ sky x) : m = x ∧ GInv M (G.set i true) R := by
  obtain ⟨h1, h2⟩ := ung_set sky M G i m h.1.symm hm hg hk hn
  have h3 := h.2 (sky x)
  rw [h1, List.filter_cons, if_pos (by simp)] at h3
  injection h3 with h3 h4
  refine ⟨h3, by simpa using h.1, fun c => ?_⟩
  by_cases hc : c = sky x
  · rw [hc]; exact h4
  · rw [h2 c hc, h.2 c, List.filter_cons, if_neg (by simpa using Ne.symm hc)]

set_option maxRecDepth 100000 in
theorem alike (x y : Mt) (w : World) (hx : x.Rdy w) (hy : y.Rdy w) : Gets Try.prog 17 [x.v, y.v] w fun v w' => v = .bool (decide (x.key = y.key)) ∧ Ext w w' := by
  have k1 : mlt x y = true → x.key ≠ y.key := fun h e => by rw [mlt, e, klt_tot.irr] at h; cases h
  have k2 : mlt y x = true → x.key ≠ y.key := fun h e => by rw [mlt, e, klt_tot.irr] at h; cases h
  have k3 : mlt x y = false → mlt y x = false → x.key = y.key := fun h1 h2 => Classical.byContradiction fun hn => by
    rcases klt_tot.tri _ _ hn with h | h
    · rw [mlt, h] at h1; cases h1
    · rw [mlt, h] at h2; cases h2
  refine ⟨GoFn.h, calls_of_swp 15 Try.func17 Try.ntmps17 rfl (Nat.le_of_ble_eq_true rfl) ?_⟩
  (repeat (first | refine swp_seq ?_ | refine swp_block ?_)); refine swp_region (by kernel_rfl) ?_
  refine w_boxA (by rfl) (by rfl) (by rfl) ?_; intro b0 w0 e0 u0 h0
  refine w_boxA (by rfl) (by rfl) (by rfl) ?_; intro b1 w1 e1 u1 h1
  replace h0 : Blk w1 b0 29 x.cells := h0.at u1
  replace h1 : Blk w1 b1 29 y.cells := h1
  have u := u0.trans u1
  repeat (first | refine x_move (by rfl) ?_ | refine x_as (by rfl) (by rfl) ?_ | refine x_skip (by rfl) ?_ | refine x_fld (by rfl) (by rfl) FldO.h ?_ | refine w_load (by rfl) (by rfl) (load_one OneT.h (by assumption) (by rfl)) ?_ | refine x_nilck (by rfl) (by rfl) ?_ | refine x_len (by rfl) (by rfl) ElOf.some ?_ | refine x_iface (by rfl) (by rfl) NIf.h ?_ | refine x_ext (by rfl) (by rfl) (by rfl) ?_ | refine x_pickT (by rfl) (by rfl) (by rfl) ?_ | refine x_pickF (by rfl) (by rfl) (by rfl) ?_ | refine x_add (by rfl) (by rfl) (by rfl) (by omega) ?_ | refine x_sub (by rfl) (by rfl) (by rfl) (by omega) ?_ | refine x_lss (by rfl) (by rfl) (by rfl) ?_ | refine x_geq (by rfl) (by rfl) (by rfl) ?_ | refine x_leq (by rfl) (by rfl) (by rfl) ?_ | refine x_gtr (by rfl) (by rfl) (by rfl) ?_ | refine x_eql (by rfl) (by rfl) (by rfl) ?_ | refine x_neq (by rfl) (by rfl) (by rfl) ?_ | refine x_not (by rfl) (by rfl) ?_)
  refine x_nilw ?_
  (repeat (first | refine swp_seq ?_ | refine swp_block ?_)); refine swp_region (by kernel_rfl) ?_
  repeat (first | refine x_move (by rfl) ?_ | refine x_as (by rfl) (by rfl) ?_ | refine x_skip (by rfl) ?_ | refine x_fld (by rfl) (by rfl) FldO.h ?_ | refine x_nilck (by rfl) (by rfl) ?_ | refine x_len (by rfl) (by rfl) ElOf.some ?_ | refine x_ext (by rfl) (by rfl) (by rfl) ?_ | refine x_pickT (by rfl) (by rfl) (by rfl) ?_ | refine x_pickF (by rfl) (by rfl) (by rfl) ?_ | refine x_add (by rfl) (by rfl) (by rfl) (by omega) ?_ | refine x_sub (by rfl) (by rfl) (by rfl) (by omega) ?_ | refine x_not (by rfl) (by rfl) ?_)
  refine w_load (by rfl) (by rfl) (load_agg (xs := x.cells) AggT.h h0 (by rfl) (by rfl)) ?_
  repeat (first | refine x_move (by rfl) ?_ | refine x_as (by rfl) (by rfl) ?_ | refine x_skip (by rfl) ?_ | refine x_fld (by rfl) (by rfl) FldO.h ?_ | refine x_nilck (by rfl) (by rfl) ?_ | refine x_len (by rfl) (by rfl) ElOf.some ?_ | refine x_ext (by rfl) (by rfl) (by rfl) ?_ | refine x_pickT (by rfl) (by rfl) (by rfl) ?_ | refine x_pickF (by rfl) (by rfl) (by rfl) ?_ | refine x_add (by rfl) (by rfl) (by rfl) (by omega) ?_ | refine x_sub (by rfl) (by rfl) (by rfl) (by omega) ?_ | refine x_not (by rfl) (by rfl) ?_)
  refine w_load (by rfl) (by rfl) (load_agg (xs := y.cells) AggT.h h1 (by rfl) (by rfl)) ?_
  refine w_call (by rfl) (by rfl) (by rfl) (match_before x y w1 (hx.at u) (hy.at u)) ?_
  rintro _ w2 ⟨rfl, u2⟩
  cases c1 : mlt x y with
  | true =>
    repeat (first | refine x_move (by rfl) ?_ | refine x_as (by rfl) (by rfl) ?_ | refine x_skip (by rfl) ?_ | refine x_fld (by rfl) (by rfl) FldO.h ?_ | refine x_nilck (by rfl) (by rfl) ?_ | refine x_len (by rfl) (by rfl) ElOf.some ?_ | refine x_ext (by rfl) (by rfl) (by rfl) ?_ | refine x_pickT (by rfl) (by rfl) (by rfl) ?_ | refine x_pickF (by rfl) (by rfl) (by rfl) ?_ | refine x_add (by rfl) (by rfl) (by rfl) (by omega) ?_ | refine x_sub (by rfl) (by rfl) (by rfl) (by omega) ?_ | refine x_not (by rfl) (by rfl) ?_)
    refine x_nilw ?_
    refine swp_ret ?_; (repeat (first | with_reducible refine r_then ?_ | with_reducible refine r_block ?_ | with_reducible refine r_jump ?_))
    exact post1 rfl rfl ⟨_, rfl, by rw [decide_eq_false (k1 c1)]; rfl, u.trans u2⟩
  | false =>
    repeat (first | refine x_move (by rfl) ?_ | refine x_as (by rfl) (by rfl) ?_ | refine x_skip (by rfl) ?_ | refine x_fld (by rfl) (by rfl) FldO.h ?_ | refine x_nilck (by rfl) (by rfl) ?_ | refine x_len (by rfl) (by rfl) ElOf.some ?_ | refine x_ext (by rfl) (by rfl) (by rfl) ?_ | refine x_pickT (by rfl) (by rfl) (by rfl) ?_ | refine x_pickF (by rfl) (by rfl) (by rfl) ?_ | refine x_add (by rfl) (by rfl) (by rfl) (by omega) ?_ | refine x_sub (by rfl) (by rfl) (by rfl) (by omega) ?_ | refine x_not (by rfl) (by rfl) ?_)
    refine w_load (by rfl) (by rfl) (load_agg (xs := y.cells) AggT.h (h1.at u2) (by rfl) (by rfl)) ?_
    repeat (first | refine x_move (by rfl) ?_ | refine x_as (by rfl) (by rfl) ?_ | refine x_skip (by rfl) ?_ | refine x_fld (by rfl) (by rfl) FldO.h ?_ | refine x_nilck (by rfl) (by rfl) ?_ | refine x_len (by rfl) (by rfl) ElOf.some ?_ | refine x_ext (by rfl) (by rfl) (by rfl) ?_ | refine x_pickT (by rfl) (by rfl) (by rfl) ?_ | refine x_pickF (by rfl) (by rfl) (by rfl) ?_ | refine x_add (by rfl) (by rfl) (by rfl) (by omega) ?_ | refine x_sub (by rfl) (by rfl) (by rfl) (by omega) ?_ | refine x_not (by rfl) (by rfl) ?_)
    refine w_load (by rfl) (by rfl) (load_agg (xs := x.cells) AggT.h (h0.at u2) (by rfl) (by rfl)) ?_
    refine w_call (by rfl) (by rfl) (by rfl) (match_before y x w2 ((hy.at u).at u2) ((hx.at u).at u2)) ?_
    rintro _ w3 ⟨rfl, u3⟩
    cases c2 : mlt y x with
    | true =>
      repeat (first | refine x_move (by rfl) ?_ | refine x_as (by rfl) (by rfl) ?_ | refine x_skip (by rfl) ?_ | refine x_fld (by rfl) (by rfl) FldO.h ?_ | refine x_nilck (by rfl) (by rfl) ?_ | refine x_len (by rfl) (by rfl) ElOf.some ?_ | refine x_ext (by rfl) (by rfl) (by rfl) ?_ | refine x_pickT (by rfl) (by rfl) (by rfl) ?_ | refine x_pickF (by rfl) (by rfl) (by rfl) ?_ | refine x_add (by rfl) (by rfl) (by rfl) (by omega) ?_ | refine x_sub (by rfl) (by rfl) (by rfl) (by omega) ?_ | refine x_not (by rfl) (by rfl) ?_)
      refine x_nilw ?_
      refine swp_ret ?_; (repeat (first | with_reducible refine r_then ?_ | with_reducible refine r_block ?_ | with_reducible refine r_jump ?_))
      exact post1 rfl rfl ⟨_, rfl, by rw [decide_eq_false (k2 c2)]; rfl, (u.trans u2).trans u3⟩
    | false =>
      repeat (first | refine x_move (by rfl) ?_ | refine x_as (by rfl) (by rfl) ?_ | refine x_skip (by rfl) ?_ | refine x_fld (by rfl) (by rfl) FldO.h ?_ | refine x_nilck (by rfl) (by rfl) ?_ | refine x_len (by rfl) (by rfl) ElOf.some ?_ | refine x_ext (by rfl) (by rfl) (by rfl) ?_ | refine x_pickT (by rfl) (by rfl) (by rfl) ?_ | refine x_pickF (by rfl) (by rfl) (by rfl) ?_ | refine x_add (by rfl) (by rfl) (by rfl) (by omega) ?_ | refine x_sub (by rfl) (by rfl) (by rfl) (by omega) ?_ | refine x_not (by rfl) (by rfl) ?_)
      refine x_nilw ?_
      refine swp_ret ?_; (repeat (first | with_reducible refine r_then ?_ | with_reducible refine r_block ?_ | with_reducible refine r_jump ?_))
      exact post1 rfl rfl ⟨_, rfl, by rw [decide_eq_true (k3 c1 c2)]; rfl, (u.trans u2).trans u3⟩

theorem flat_drop {rows : List Ml} {i : Nat} {r : Ml} (h : rows[i]? = some r) : allMs (rows.drop i) = r.ms ++ allMs (rows.drop (i + 1)) := by rw [drop_cons' h]; simp [allMs]

set_option maxHeartbeats 4000000 in
set_option maxRecDepth 100000 in
theorem walk4 {w : World} {a0 : Option Addr} {c0 : Nat} {rows : List Ml} (hrd : Rd w 1 (.slice a0 rows.length c0) rows.length (fl Ml.cells rows)) (hR : ∀ r ∈ rows, r.Rdy w) (hl : rows.length ≤ 1048576) (hlt : (allMs rows).length ≤ 1048576) :
    Gets Try.prog 4 [.slice a0 rows.length c0] w fun v w' => v = .bool true ∧ Ext w w' := by
  have hr88 : Room (allMs rows).length 88 := room_of (by omega) (by omega)
  refine ⟨GoFn.h, calls_of_swp 111 Try.func4 Try.ntmps4 rfl (Nat.le_of_ble_eq_true rfl) ?_⟩
  (repeat (first | refine swp_seq ?_ | refine swp_block ?_)); refine swp_region (by kernel_rfl) ?_
  repeat (first | refine x_move (by rfl) ?_ | refine x_as (by rfl) (by rfl) ?_ | refine x_skip (by rfl) ?_ | refine x_fld (by rfl) (by rfl) FldO.h ?_ | refine x_nilck (by rfl) (by rfl) ?_ | refine x_len (by rfl) (by rfl) ElOf.some ?_ | refine x_ext (by rfl) (by rfl) (by rfl) ?_ | refine x_pickT (by rfl) (by rfl) (by rfl) ?_ | refine x_pickF (by rfl) (by rfl) (by rfl) ?_ | refine x_add (by rfl) (by rfl) (by rfl) (by omega) ?_ | refine x_sub (by rfl) (by rfl) (by rfl) (by omega) ?_ | refine x_not (by rfl) (by rfl) ?_)
  refine x_nilw ?_
  (repeat (first | refine swp_seq ?_ | refine swp_block ?_)); refine swp_region (by kernel_rfl) ?_
  repeat (first | refine x_move (by rfl) ?_ | refine x_as (by rfl) (by rfl) ?_ | refine x_skip (by rfl) ?_ | refine x_fld (by rfl) (by rfl) FldO.h ?_ | refine x_nilck (by rfl) (by rfl) ?_ | refine x_len (by rfl) (by rfl) ElOf.some ?_ | refine x_ext (by rfl) (by rfl) (by rfl) ?_ | refine x_pickT (by rfl) (by rfl) (by rfl) ?_ | refine x_pickF (by rfl) (by rfl) (by rfl) ?_ | refine x_add (by rfl) (by rfl) (by rfl) (by omega) ?_ | refine x_sub (by rfl) (by rfl) (by rfl) (by omega) ?_ | refine x_not (by rfl) (by rfl) ?_)
  refine w_call (by rfl) (by rfl) (by rfl) (merge_walk hrd hR (by omega) hr88 (by omega)) ?_
  rintro vg w1 ⟨got, hG, hgs, u1⟩
  repeat (first | refine x_move (by rfl) ?_ | refine x_as (by rfl) (by rfl) ?_ | refine x_skip (by rfl) ?_ | refine x_fld (by rfl) (by rfl) FldO.h ?_ | refine x_nilck (by rfl) (by rfl) ?_ | refine x_len (by rfl) (by rfl) ElOf.some ?_ | refine x_ext (by rfl) (by rfl) (by rfl) ?_ | refine x_pickT (by rfl) (by rfl) (by rfl) ?_ | refine x_pickF (by rfl) (by rfl) (by rfl) ?_ | refine x_add (by rfl) (by rfl) (by rfl) (by omega) ?_ | refine x_sub (by rfl) (by rfl) (by rfl) (by omega) ?_ | refine x_not (by rfl) (by rfl) ?_)
  refine x_nilw ?_
  have hlg : got.length = (allMs rows).length := by
    have := congrArg List.length hgs
    rw [List.length_map, merged, len_foldl_put, List.length_map] at this
    simpa using this
  obtain ⟨ag, cg, rfl⟩ := hG.own.slice
  (repeat (first | refine swp_seq ?_ | refine swp_block ?_)); refine swp_region (by kernel_rfl) ?_
  repeat (first | refine x_move (by rfl) ?_ | refine x_as (by rfl) (by rfl) ?_ | refine x_skip (by rfl) ?_ | refine x_fld (by rfl) (by rfl) FldO.h ?_ | refine x_nilck (by rfl) (by rfl) ?_ | refine x_len (by rfl) (by rfl) ElOf.some ?_ | refine x_ext (by rfl) (by rfl) (by rfl) ?_ | refine x_pickT (by rfl) (by rfl) (by rfl) ?_ | refine x_pickF (by rfl) (by rfl) (by rfl) ?_ | refine x_add (by rfl) (by rfl) (by rfl) (by omega) ?_ | refine x_sub (by rfl) (by rfl) (by rfl) (by omega) ?_ | refine x_not (by rfl) (by rfl) ?_)
  refine x_nilw ?_
  (repeat (first | refine swp_seq ?_ | refine swp_block ?_)); refine swp_region (by kernel_rfl) ?_
  repeat (first | refine x_move (by rfl) ?_ | refine x_as (by rfl) (by rfl) ?_ | refine x_skip (by rfl) ?_ | refine x_fld (by rfl) (by rfl) FldO.h ?_ | refine x_nilck (by rfl) (by rfl) ?_ | refine x_len (by rfl) (by rfl) ElOf.some ?_ | refine x_ext (by rfl) (by rfl) (by rfl) ?_ | refine x_pickT (by rfl) (by rfl) (by rfl) ?_ | refine x_pickF (by rfl) (by rfl) (by rfl) ?_ | refine x_add (by rfl) (by rfl) (by rfl) (by omega) ?_ | refine x_sub (by rfl) (by rfl) (by rfl) (by omega) ?_ | refine x_not (by rfl) (by rfl) ?_)
  refine x_nilw ?_
  refine swp_fit [(0, .slice a0 rows.length c0), (3, .slice ag got.length cg), (4, .int .i64 ((0 : Nat) : Int)), (5, .int .i64 ((0 : Nat) : Int))] ⟨rfl, rfl, rfl, rfl, trivial⟩ fun ρ => ?_
  (repeat (first | refine swp_seq ?_ | refine swp_block ?_))
  refine swp_loop (fun (i : Nat) σ w2 => At σ [(0, .slice a0 rows.length c0), (3, .slice ag got.length cg), (4, .int .i64 ((allMs (rows.take i)).length : Nat)), (5, .int .i64 (i : Nat))] ∧ i ≤ rows.length ∧ w1 = w2) (fun i => rows.length - i) 0 ⟨at_ ⟨rfl, rfl, rfl, rfl, trivial⟩, by omega, rfl⟩ ?_
  rintro i σ w2 ⟨⟨ρ, rfl⟩, hi, rfl⟩
  have g1 := hrd.at u1
  (repeat (first | refine swp_seq ?_ | refine swp_block ?_)); refine swp_region (by kernel_rfl) ?_
  repeat (first | refine x_move (by rfl) ?_ | refine x_as (by rfl) (by rfl) ?_ | refine x_skip (by rfl) ?_ | refine x_fld (by rfl) (by rfl) FldO.h ?_ | refine w_load (by rfl) (by rfl) (load_one OneT.h (by assumption) (by rfl)) ?_ | refine x_nilck (by rfl) (by rfl) ?_ | refine x_len (by rfl) (by rfl) ElOf.some ?_ | refine x_iface (by rfl) (by rfl) NIf.h ?_ | refine x_ext (by rfl) (by rfl) (by rfl) ?_ | refine x_pickT (by rfl) (by rfl) (by rfl) ?_ | refine x_pickF (by rfl) (by rfl) (by rfl) ?_ | refine x_add (by rfl) (by rfl) (by rfl) (by omega) ?_ | refine x_sub (by rfl) (by rfl) (by rfl) (by omega) ?_ | refine x_lss (by rfl) (by rfl) (by rfl) ?_ | refine x_geq (by rfl) (by rfl) (by rfl) ?_ | refine x_leq (by rfl) (by rfl) (by rfl) ?_ | refine x_gtr (by rfl) (by rfl) (by rfl) ?_ | refine x_eql (by rfl) (by rfl) (by rfl) ?_ | refine x_neq (by rfl) (by rfl) (by rfl) ?_ | refine x_not (by rfl) (by rfl) ?_)
  refine x_nilw ?_
  (repeat (first | refine swp_seq ?_ | refine swp_block ?_))
  refine swp_if (by rfl) (fun h0 => swp_skip ?_) (fun h0 => ?_)
  · have hi' : i < rows.length := by omega
    obtain ⟨r, hr0⟩ := nthE hi'
    obtain ⟨b1, o1, d1, he1, -, -⟩ := hrd.pos (by omega)
    simp only [Value.slice.injEq] at he1
    obtain ⟨rfl, _, rfl⟩ := he1
    have hfl := flat_len hr0
    (repeat (first | with_reducible refine n_then ?_ | with_reducible refine n_block ?_ | with_reducible refine n_jump ?_))
    (repeat (first | refine swp_seq ?_ | refine swp_block ?_)); refine swp_region (by kernel_rfl) ?_
    repeat (first | refine x_move (by rfl) ?_ | refine x_as (by rfl) (by rfl) ?_ | refine x_skip (by rfl) ?_ | refine x_fld (by rfl) (by rfl) FldO.h ?_ | refine x_nilck (by rfl) (by rfl) ?_ | refine x_len (by rfl) (by rfl) ElOf.some ?_ | refine x_ext (by rfl) (by rfl) (by rfl) ?_ | refine x_pickT (by rfl) (by rfl) (by rfl) ?_ | refine x_pickF (by rfl) (by rfl) (by rfl) ?_ | refine x_add (by rfl) (by rfl) (by rfl) (by omega) ?_ | refine x_sub (by rfl) (by rfl) (by rfl) (by omega) ?_ | refine x_not (by rfl) (by rfl) ?_)
    refine x_idx i (by rfl) (by rfl) (by rfl) ElSz.h rfl hi' ?_
    refine w_load (by rfl) (by rfl) (load_one_cell OneT.h (rd_cell (v := .slice r.a r.ms.length r.c) (j := 0) ml_len g1 hr0 rfl rfl rfl)) ?_
    repeat (first | refine x_move (by rfl) ?_ | refine x_as (by rfl) (by rfl) ?_ | refine x_skip (by rfl) ?_ | refine x_fld (by rfl) (by rfl) FldO.h ?_ | refine x_nilck (by rfl) (by rfl) ?_ | refine x_len (by rfl) (by rfl) ElOf.some ?_ | refine x_ext (by rfl) (by rfl) (by rfl) ?_ | refine x_pickT (by rfl) (by rfl) (by rfl) ?_ | refine x_pickF (by rfl) (by rfl) (by rfl) ?_ | refine x_add (by rfl) (by rfl) (by rfl) (by omega) ?_ | refine x_sub (by rfl) (by rfl) (by rfl) (by omega) ?_ | refine x_not (by rfl) (by rfl) ?_)
    refine x_nilw ?_
    (repeat (first | with_reducible refine n_then ?_ | with_reducible refine n_block ?_ | with_reducible refine n_jump ?_))
    (repeat (first | refine swp_seq ?_ | refine swp_block ?_)); refine swp_region (by kernel_rfl) ?_
    repeat (first | refine x_move (by rfl) ?_ | refine x_as (by rfl) (by rfl) ?_ | refine x_skip (by rfl) ?_ | refine x_fld (by rfl) (by rfl) FldO.h ?_ | refine x_nilck (by rfl) (by rfl) ?_ | refine x_len (by rfl) (by rfl) ElOf.some ?_ | refine x_ext (by rfl) (by rfl) (by rfl) ?_ | refine x_pickT (by rfl) (by rfl) (by rfl) ?_ | refine x_pickF (by rfl) (by rfl) (by rfl) ?_ | refine x_add (by rfl) (by rfl) (by rfl) (by omega) ?_ | refine x_sub (by rfl) (by rfl) (by rfl) (by omega) ?_ | refine x_not (by rfl) (by rfl) ?_)
    refine x_nilw ?_
    exact ⟨i + 1, ⟨at_ ⟨rfl, rfl, by rw [flat_take hr0, List.length_append]; rfl, rfl, trivial⟩, hi', rfl⟩, by omega⟩
  have hin : i = rows.length := by omega
  subst hin
  rw [List.take_length]
  refine swp_exit ?_; (repeat (first | with_reducible refine e_then ?_ | with_reducible refine e_jump ?_)); refine e_block ?_; (repeat (first | with_reducible refine n_then ?_ | with_reducible refine n_block ?_ | with_reducible refine n_jump ?_))
  refine swp_fit [(0, .slice a0 rows.length c0), (3, .slice ag got.length cg), (4, .int .i64 ((allMs rows).length : Nat))] ⟨rfl, rfl, rfl, trivial⟩ fun ρ => ?_
  (repeat (first | refine swp_seq ?_ | refine swp_block ?_)); refine swp_region (by kernel_rfl) ?_
  repeat (first | refine x_move (by rfl) ?_ | refine x_as (by rfl) (by rfl) ?_ | refine x_skip (by rfl) ?_ | refine x_fld (by rfl) (by rfl) FldO.h ?_ | refine x_nilck (by rfl) (by rfl) ?_ | refine x_len (by rfl) (by rfl) ElOf.some ?_ | refine x_ext (by rfl) (by rfl) (by rfl) ?_ | refine x_pickT (by rfl) (by rfl) (by rfl) ?_ | refine x_pickF (by rfl) (by rfl) (by rfl) ?_ | refine x_add (by rfl) (by rfl) (by rfl) (by omega) ?_ | refine x_sub (by rfl) (by rfl) (by rfl) (by omega) ?_ | refine x_not (by rfl) (by rfl) ?_)
  refine x_neqF (by rfl) (by rfl) (by rfl) (by omega) ?_
  refine x_nilw ?_
  (repeat (first | refine swp_seq ?_ | refine swp_block ?_))
  refine swp_false (by rfl) (swp_skip ?_)
  (repeat (first | refine swp_seq ?_ | refine swp_block ?_)); refine swp_region (by kernel_rfl) ?_
  repeat (first | refine x_move (by rfl) ?_ | refine x_as (by rfl) (by rfl) ?_ | refine x_skip (by rfl) ?_ | refine x_fld (by rfl) (by rfl) FldO.h ?_ | refine x_nilck (by rfl) (by rfl) ?_ | refine x_len (by rfl) (by rfl) ElOf.some ?_ | refine x_ext (by rfl) (by rfl) (by rfl) ?_ | refine x_pickT (by rfl) (by rfl) (by rfl) ?_ | refine x_pickF (by rfl) (by rfl) (by rfl) ?_ | refine x_add (by rfl) (by rfl) (by rfl) (by omega) ?_ | refine x_sub (by rfl) (by rfl) (by rfl) (by omega) ?_ | refine x_not (by rfl) (by rfl) ?_)
  refine x_nilw ?_
  -- none behind one that it is before
  have hM : got.map Mt.says = ((allMs rows).map Mt.says).foldl (put slt) [] := hgs
  have hsr : Srt mlt got := by
    have h1 := (foldl_filter slt_ord sky (kl := klt) (fun _ _ => rfl) (0, [], []) ((allMs rows).map Mt.says) [] List.Pairwise.nil).2
    rw [← hM] at h1
    exact List.pairwise_map.1 h1
  refine swp_fit [(0, .slice a0 rows.length c0), (3, .slice ag got.length cg), (4, .int .i64 ((allMs rows).length : Nat)), (6, .int .i64 ((0 : Nat) : Int))] ⟨rfl, rfl, rfl, rfl, trivial⟩ fun ρ => ?_
  (repeat (first | refine swp_seq ?_ | refine swp_block ?_))
  refine swp_loop (fun (i : Nat) σ w2 => At σ [(0, .slice a0 rows.length c0), (3, .slice ag got.length cg), (4, .int .i64 ((allMs rows).length : Nat)), (6, .int .i64 (i : Nat))] ∧ i ≤ got.length ∧ Ext w1 w2) (fun i => got.length - i) 0 ⟨at_ ⟨rfl, rfl, rfl, rfl, trivial⟩, by omega, Upd.refl _ _⟩ ?_
  rintro i σ w2 ⟨⟨ρ, rfl⟩, hi, u2⟩
  have hG2 := hG.get u2 fun b _ _ h => h
  have rdg := hG2.own.rd
  (repeat (first | refine swp_seq ?_ | refine swp_block ?_)); refine swp_region (by kernel_rfl) ?_
  repeat (first | refine x_move (by rfl) ?_ | refine x_as (by rfl) (by rfl) ?_ | refine x_skip (by rfl) ?_ | refine x_fld (by rfl) (by rfl) FldO.h ?_ | refine w_load (by rfl) (by rfl) (load_one OneT.h (by assumption) (by rfl)) ?_ | refine x_nilck (by rfl) (by rfl) ?_ | refine x_len (by rfl) (by rfl) ElOf.some ?_ | refine x_iface (by rfl) (by rfl) NIf.h ?_ | refine x_ext (by rfl) (by rfl) (by rfl) ?_ | refine x_pickT (by rfl) (by rfl) (by rfl) ?_ | refine x_pickF (by rfl) (by rfl) (by rfl) ?_ | refine x_add (by rfl) (by rfl) (by rfl) (by omega) ?_ | refine x_sub (by rfl) (by rfl) (by rfl) (by omega) ?_ | refine x_lss (by rfl) (by rfl) (by rfl) ?_ | refine x_geq (by rfl) (by rfl) (by rfl) ?_ | refine x_leq (by rfl) (by rfl) (by rfl) ?_ | refine x_gtr (by rfl) (by rfl) (by rfl) ?_ | refine x_eql (by rfl) (by rfl) (by rfl) ?_ | refine x_neq (by rfl) (by rfl) (by rfl) ?_ | refine x_not (by rfl) (by rfl) ?_)
  refine x_nilw ?_
  (repeat (first | refine swp_seq ?_ | refine swp_block ?_))
  refine swp_if (by rfl) (fun h0 => swp_skip ?_) (fun h0 => ?_)
  · have hi' : i + 1 < got.length := by omega
    obtain ⟨y, hy⟩ := nthE hi'
    obtain ⟨x, hx⟩ := nthE (L := got) (i := i) (by omega)
    have hyx : mlt y x = false := by
      obtain ⟨h1, rfl⟩ := List.getElem?_eq_some_iff.1 hy
      obtain ⟨h2, rfl⟩ := List.getElem?_eq_some_iff.1 hx
      exact List.pairwise_iff_getElem.1 hsr i (i + 1) h2 h1 (by omega)
    have rx := (hG2.each x (List.mem_of_getElem? hx)).rdy
    have ry := (hG2.each y (List.mem_of_getElem? hy)).rdy
    obtain ⟨b2, o2, d2, he2, -, -⟩ := rdg.pos (by omega)
    simp only [Value.slice.injEq] at he2
    obtain ⟨rfl, _, rfl⟩ := he2
    (repeat (first | with_reducible refine n_then ?_ | with_reducible refine n_block ?_ | with_reducible refine n_jump ?_))
    (repeat (first | refine swp_seq ?_ | refine swp_block ?_)); refine swp_draw (Ext w2) [] Mixed.h (by kernel_rfl) (by kernel_rfl) (ext_drew w2) ?_
    repeat (first | refine x_move (by rfl) ?_ | refine x_as (by rfl) (by rfl) ?_ | refine x_skip (by rfl) ?_ | refine x_fld (by rfl) (by rfl) FldO.h ?_ | refine x_nilck (by rfl) (by rfl) ?_ | refine x_len (by rfl) (by rfl) ElOf.some ?_ | refine x_ext (by rfl) (by rfl) (by rfl) ?_ | refine x_pickT (by rfl) (by rfl) (by rfl) ?_ | refine x_pickF (by rfl) (by rfl) (by rfl) ?_ | refine x_add (by rfl) (by rfl) (by rfl) (by omega) ?_ | refine x_sub (by rfl) (by rfl) (by rfl) (by omega) ?_ | refine x_not (by rfl) (by rfl) ?_)
    refine x_idx (i + 1) (by rfl) (by rfl) (by rfl) ElSz.h (by omega) hi' ?_
    refine q_load (by rfl) (by rfl) (by rfl) (fun w' hw' => rd_load mt_len AggT.h (rdg.at hw') hy rfl rfl) ?_
    repeat (first | refine x_move (by rfl) ?_ | refine x_as (by rfl) (by rfl) ?_ | refine x_skip (by rfl) ?_ | refine x_fld (by rfl) (by rfl) FldO.h ?_ | refine x_nilck (by rfl) (by rfl) ?_ | refine x_len (by rfl) (by rfl) ElOf.some ?_ | refine x_ext (by rfl) (by rfl) (by rfl) ?_ | refine x_pickT (by rfl) (by rfl) (by rfl) ?_ | refine x_pickF (by rfl) (by rfl) (by rfl) ?_ | refine x_add (by rfl) (by rfl) (by rfl) (by omega) ?_ | refine x_sub (by rfl) (by rfl) (by rfl) (by omega) ?_ | refine x_not (by rfl) (by rfl) ?_)
    refine x_idx i (by rfl) (by rfl) (by rfl) ElSz.h rfl (by omega) ?_
    refine q_load (by rfl) (by rfl) (by rfl) (fun w' hw' => rd_load mt_len AggT.h (rdg.at hw') hx rfl rfl) ?_
    refine q_call (v := .bool false) (by rfl) (by rfl) (by rfl) (fun w' hw' => (match_before y x w' (ry.at hw') (rx.at hw')).mono fun v w'' h => ⟨by rw [h.1, hyx], hw'.trans h.2⟩) ?_
    refine x_nil fun w3 u3 => ?_
    (repeat (first | refine swp_seq ?_ | refine swp_block ?_))
    refine swp_false (by rfl) (swp_skip ?_)
    (repeat (first | with_reducible refine n_then ?_ | with_reducible refine n_block ?_ | with_reducible refine n_jump ?_))
    (repeat (first | refine swp_seq ?_ | refine swp_block ?_)); refine swp_region (by kernel_rfl) ?_
    repeat (first | refine x_move (by rfl) ?_ | refine x_as (by rfl) (by rfl) ?_ | refine x_skip (by rfl) ?_ | refine x_fld (by rfl) (by rfl) FldO.h ?_ | refine w_load (by rfl) (by rfl) (load_one OneT.h (by assumption) (by rfl)) ?_ | refine x_nilck (by rfl) (by rfl) ?_ | refine x_len (by rfl) (by rfl) ElOf.some ?_ | refine x_iface (by rfl) (by rfl) NIf.h ?_ | refine x_ext (by rfl) (by rfl) (by rfl) ?_ | refine x_pickT (by rfl) (by rfl) (by rfl) ?_ | refine x_pickF (by rfl) (by rfl) (by rfl) ?_ | refine x_add (by rfl) (by rfl) (by rfl) (by omega) ?_ | refine x_sub (by rfl) (by rfl) (by rfl) (by omega) ?_ | refine x_lss (by rfl) (by rfl) (by rfl) ?_ | refine x_geq (by rfl) (by rfl) (by rfl) ?_ | refine x_leq (by rfl) (by rfl) (by rfl) ?_ | refine x_gtr (by rfl) (by rfl) (by rfl) ?_ | refine x_eql (by rfl) (by rfl) (by rfl) ?_ | refine x_neq (by rfl) (by rfl) (by rfl) ?_ | refine x_not (by rfl) (by rfl) ?_)
    refine x_nilw ?_
    exact ⟨i + 1, ⟨at_ ⟨rfl, rfl, rfl, rfl, trivial⟩, by omega, u2.trans u3⟩, by omega⟩
  refine swp_exit ?_; (repeat (first | with_reducible refine e_then ?_ | with_reducible refine e_jump ?_)); refine e_block ?_; (repeat (first | with_reducible refine n_then ?_ | with_reducible refine n_block ?_ | with_reducible refine n_jump ?_))
  refine swp_fit [(0, .slice a0 rows.length c0), (3, .slice ag got.length cg), (4, .int .i64 ((allMs rows).length : Nat))] ⟨rfl, rfl, rfl, trivial⟩ fun ρ => ?_
  (repeat (first | refine swp_seq ?_ | refine swp_block ?_)); refine swp_region (by kernel_rfl) ?_
  repeat (first | refine x_move (by rfl) ?_ | refine x_as (by rfl) (by rfl) ?_ | refine x_skip (by rfl) ?_ | refine x_fld (by rfl) (by rfl) FldO.h ?_ | refine x_nilck (by rfl) (by rfl) ?_ | refine x_len (by rfl) (by rfl) ElOf.some ?_ | refine x_ext (by rfl) (by rfl) (by rfl) ?_ | refine x_pickT (by rfl) (by rfl) (by rfl) ?_ | refine x_pickF (by rfl) (by rfl) (by rfl) ?_ | refine x_add (by rfl) (by rfl) (by rfl) (by omega) ?_ | refine x_sub (by rfl) (by rfl) (by rfl) (by omega) ?_ | refine x_not (by rfl) (by rfl) ?_)
  refine w_make got.length got.length (by rfl) (by rfl) (by rfl) (by rfl) SlC.h ZeroT.h (by rw [hlg]) (by rw [hlg]) (by omega) (room_of (by omega) (by omega)) ?_
  intro b7 w7 e7 u7 h7
  repeat (first | refine x_move (by rfl) ?_ | refine x_as (by rfl) (by rfl) ?_ | refine x_skip (by rfl) ?_ | refine x_fld (by rfl) (by rfl) FldO.h ?_ | refine w_load (by rfl) (by rfl) (load_one OneT.h (by assumption) (by rfl)) ?_ | refine x_nilck (by rfl) (by rfl) ?_ | refine x_len (by rfl) (by rfl) ElOf.some ?_ | refine x_iface (by rfl) (by rfl) NIf.h ?_ | refine x_ext (by rfl) (by rfl) (by rfl) ?_ | refine x_pickT (by rfl) (by rfl) (by rfl) ?_ | refine x_pickF (by rfl) (by rfl) (by rfl) ?_ | refine x_add (by rfl) (by rfl) (by rfl) (by omega) ?_ | refine x_sub (by rfl) (by rfl) (by rfl) (by omega) ?_ | refine x_lss (by rfl) (by rfl) (by rfl) ?_ | refine x_geq (by rfl) (by rfl) (by rfl) ?_ | refine x_leq (by rfl) (by rfl) (by rfl) ?_ | refine x_gtr (by rfl) (by rfl) (by rfl) ?_ | refine x_eql (by rfl) (by rfl) (by rfl) ?_ | refine x_neq (by rfl) (by rfl) (by rfl) ?_ | refine x_not (by rfl) (by rfl) ?_)
  refine x_nilw ?_
  have h7' : Blk w7 b7 4 (fl encB (List.replicate got.length false) ++ []) := by
    rw [fl_replicate, List.append_nil]
    rw [toList_madeCells_one, Nat.mul_one] at h7
    exact h7
  have hG7 := hG2.get u7 fun b _ _ h => h
  have uw7 := (u1.trans u2).trans u7
  generalize hMd : ((allMs rows).map Mt.says).foldl (put slt) [] = M at hM
  have hML : M.length = got.length := by rw [← hM, List.length_map]
  have hI0 : GInv M (List.replicate got.length false) ((allMs rows).map Mt.says) := by
    have := GInv.init ((allMs rows).map Mt.says)
    rwa [hMd, hML] at this
  have hMat : ∀ {j : Nat} {y : Mt}, got[j]? = some y → M[j]? = some y.says := fun {j y} h => by rw [← hM, List.getElem?_map, h]; rfl
  have hb7 : ∀ b, isIn (.slice ag got.length cg) b → b < b7 := fun b hb => by have := hG2.own.lt hb; omega
  have hb7e : ∀ y ∈ got, ∀ b, y.At b → b < b7 := fun y hy b hb => by have := (hG2.each y hy).lt hb; omega
  have hwb7 : w.heap.size ≤ b7 := by have := (u1.trans u2).size; omega
  -- what a round keeps
  have kG : ∀ {w'}, Upd (fun b => b = b7) w7 w' → Outs w w' (.slice ag got.length cg) got := fun {w'} u => ⟨hG7.own.get u fun b hb e => by have := hb7 b hb; have e' : b = b7 := e; omega, fun y hy => (hG7.each y hy).get u fun b hb e => by have := hb7e y hy b hb; have e' : b = b7 := e; omega, hG7.new, hG7.newE, hG7.ap, hG7.pw⟩
  have kw : ∀ {w'}, Upd (fun b => b = b7) w7 w' → Ext w w' := fun {w'} u => uw7.trans' u fun b hb e => by have e' : b = b7 := e; omega
  refine swp_fit [(0, .slice a0 rows.length c0), (3, .slice ag got.length cg), (4, .int .i64 (got.length : Nat)), (7, .slice (some ⟨b7, 0, none⟩) got.length got.length)] ⟨rfl, rfl, by show Value.int .i64 _ = _; rw [hlg], rfl, trivial⟩ fun ρ => ?_
  (repeat (first | refine swp_seq ?_ | refine swp_block ?_)); refine swp_region (by kernel_rfl) ?_
  repeat (first | refine x_move (by rfl) ?_ | refine x_as (by rfl) (by rfl) ?_ | refine x_skip (by rfl) ?_ | refine x_fld (by rfl) (by rfl) FldO.h ?_ | refine x_nilck (by rfl) (by rfl) ?_ | refine x_len (by rfl) (by rfl) ElOf.some ?_ | refine x_ext (by rfl) (by rfl) (by rfl) ?_ | refine x_pickT (by rfl) (by rfl) (by rfl) ?_ | refine x_pickF (by rfl) (by rfl) (by rfl) ?_ | refine x_add (by rfl) (by rfl) (by rfl) (by omega) ?_ | refine x_sub (by rfl) (by rfl) (by rfl) (by omega) ?_ | refine x_not (by rfl) (by rfl) ?_)
  refine x_nilw ?_
  (repeat (first | refine swp_seq ?_ | refine swp_block ?_))
  refine swp_loop (fun (i : Nat) σ w3 => At σ [(0, .slice a0 rows.length c0), (3, .slice ag got.length cg), (4, .int .i64 (got.length : Nat)), (7, .slice (some ⟨b7, 0, none⟩) got.length got.length), (8, .int .i64 (i : Nat))] ∧ i ≤ rows.length ∧ ∃ G, GInv M G ((allMs (rows.drop i)).map Mt.says) ∧ Blk w3 b7 4 (fl encB G ++ []) ∧ Upd (fun b => b = b7) w7 w3) (fun i => rows.length - i) 0 ⟨at_ ⟨rfl, rfl, rfl, rfl, rfl, trivial⟩, by omega, _, hI0, h7', Upd.refl _ _⟩ ?_
  rintro i σ w3 ⟨⟨ρ, rfl⟩, hi, G, hI, hB, u3⟩
  (repeat (first | refine swp_seq ?_ | refine swp_block ?_)); refine swp_region (by kernel_rfl) ?_
  repeat (first | refine x_move (by rfl) ?_ | refine x_as (by rfl) (by rfl) ?_ | refine x_skip (by rfl) ?_ | refine x_fld (by rfl) (by rfl) FldO.h ?_ | refine w_load (by rfl) (by rfl) (load_one OneT.h (by assumption) (by rfl)) ?_ | refine x_nilck (by rfl) (by rfl) ?_ | refine x_len (by rfl) (by rfl) ElOf.some ?_ | refine x_iface (by rfl) (by rfl) NIf.h ?_ | refine x_ext (by rfl) (by rfl) (by rfl) ?_ | refine x_pickT (by rfl) (by rfl) (by rfl) ?_ | refine x_pickF (by rfl) (by rfl) (by rfl) ?_ | refine x_add (by rfl) (by rfl) (by rfl) (by omega) ?_ | refine x_sub (by rfl) (by rfl) (by rfl) (by omega) ?_ | refine x_lss (by rfl) (by rfl) (by rfl) ?_ | refine x_geq (by rfl) (by rfl) (by rfl) ?_ | refine x_leq (by rfl) (by rfl) (by rfl) ?_ | refine x_gtr (by rfl) (by rfl) (by rfl) ?_ | refine x_eql (by rfl) (by rfl) (by rfl) ?_ | refine x_neq (by rfl) (by rfl) (by rfl) ?_ | refine x_not (by rfl) (by rfl) ?_)
  refine x_nilw ?_
  (repeat (first | refine swp_seq ?_ | refine swp_block ?_))
  refine swp_if (by rfl) (fun h0 => swp_skip ?_) (fun h0 => ?_)
  · have hi' : i < rows.length := by omega
    obtain ⟨r, hr0⟩ := nthE hi'
    obtain ⟨b1, o1, d1, he1, -, -⟩ := hrd.pos (by omega)
    simp only [Value.slice.injEq] at he1
    obtain ⟨rfl, _, rfl⟩ := he1
    have rR := hR r (List.mem_of_getElem? hr0)
    have hfl := flat_len hr0
    rw [flat_drop hr0, List.map_append] at hI
    (repeat (first | with_reducible refine n_then ?_ | with_reducible refine n_block ?_ | with_reducible refine n_jump ?_))
    (repeat (first | refine swp_seq ?_ | refine swp_block ?_)); refine swp_region (by kernel_rfl) ?_
    repeat (first | refine x_move (by rfl) ?_ | refine x_as (by rfl) (by rfl) ?_ | refine x_skip (by rfl) ?_ | refine x_fld (by rfl) (by rfl) FldO.h ?_ | refine x_nilck (by rfl) (by rfl) ?_ | refine x_len (by rfl) (by rfl) ElOf.some ?_ | refine x_ext (by rfl) (by rfl) (by rfl) ?_ | refine x_pickT (by rfl) (by rfl) (by rfl) ?_ | refine x_pickF (by rfl) (by rfl) (by rfl) ?_ | refine x_add (by rfl) (by rfl) (by rfl) (by omega) ?_ | refine x_sub (by rfl) (by rfl) (by rfl) (by omega) ?_ | refine x_not (by rfl) (by rfl) ?_)
    refine x_nilw ?_
    (repeat (first | refine swp_seq ?_ | refine swp_block ?_))
    refine swp_loop (fun (k : Nat) σ w4 => At σ [(0, .slice (some ⟨b1, o1, none⟩) rows.length c0), (3, .slice ag got.length cg), (4, .int .i64 (got.length : Nat)), (7, .slice (some ⟨b7, 0, none⟩) got.length got.length), (8, .int .i64 (i : Nat)), (9, .int .i64 (k : Nat))] ∧ k ≤ r.ms.length ∧ ∃ G, GInv M G ((r.ms.drop k).map Mt.says ++ (allMs (rows.drop (i + 1))).map Mt.says) ∧ Blk w4 b7 4 (fl encB G ++ []) ∧ Upd (fun b => b = b7) w7 w4) (fun k => r.ms.length - k) 0 ⟨at_ ⟨rfl, rfl, rfl, rfl, rfl, rfl, trivial⟩, by omega, G, by simpa using hI, hB, u3⟩ ?_
    clear hI hB G
    rintro k σ w4 ⟨⟨ρ, rfl⟩, hk, G, hI, hB, u4⟩
    have g4 := hrd.at (kw u4)
    (repeat (first | refine swp_seq ?_ | refine swp_block ?_)); refine swp_region (by kernel_rfl) ?_
    repeat (first | refine x_move (by rfl) ?_ | refine x_as (by rfl) (by rfl) ?_ | refine x_skip (by rfl) ?_ | refine x_fld (by rfl) (by rfl) FldO.h ?_ | refine x_nilck (by rfl) (by rfl) ?_ | refine x_len (by rfl) (by rfl) ElOf.some ?_ | refine x_ext (by rfl) (by rfl) (by rfl) ?_ | refine x_pickT (by rfl) (by rfl) (by rfl) ?_ | refine x_pickF (by rfl) (by rfl) (by rfl) ?_ | refine x_add (by rfl) (by rfl) (by rfl) (by omega) ?_ | refine x_sub (by rfl) (by rfl) (by rfl) (by omega) ?_ | refine x_not (by rfl) (by rfl) ?_)
    refine x_idx i (by rfl) (by rfl) (by rfl) ElSz.h rfl hi' ?_
    refine w_load (by rfl) (by rfl) (load_one_cell OneT.h (rd_cell (v := .slice r.a r.ms.length r.c) (j := 0) ml_len g4 hr0 rfl rfl rfl)) ?_
    repeat (first | refine x_move (by rfl) ?_ | refine x_as (by rfl) (by rfl) ?_ | refine x_skip (by rfl) ?_ | refine x_fld (by rfl) (by rfl) FldO.h ?_ | refine w_load (by rfl) (by rfl) (load_one OneT.h (by assumption) (by rfl)) ?_ | refine x_nilck (by rfl) (by rfl) ?_ | refine x_len (by rfl) (by rfl) ElOf.some ?_ | refine x_iface (by rfl) (by rfl) NIf.h ?_ | refine x_ext (by rfl) (by rfl) (by rfl) ?_ | refine x_pickT (by rfl) (by rfl) (by rfl) ?_ | refine x_pickF (by rfl) (by rfl) (by rfl) ?_ | refine x_add (by rfl) (by rfl) (by rfl) (by omega) ?_ | refine x_sub (by rfl) (by rfl) (by rfl) (by omega) ?_ | refine x_lss (by rfl) (by rfl) (by rfl) ?_ | refine x_geq (by rfl) (by rfl) (by rfl) ?_ | refine x_leq (by rfl) (by rfl) (by rfl) ?_ | refine x_gtr (by rfl) (by rfl) (by rfl) ?_ | refine x_eql (by rfl) (by rfl) (by rfl) ?_ | refine x_neq (by rfl) (by rfl) (by rfl) ?_ | refine x_not (by rfl) (by rfl) ?_)
    refine x_nilw ?_
    (repeat (first | refine swp_seq ?_ | refine swp_block ?_))
    refine swp_if (by rfl) (fun h1 => swp_skip ?_) (fun h1 => ?_)
    · have hk' : k < r.ms.length := by omega
      obtain ⟨m, hm⟩ := nthE hk'
      have rd := rR.rd
      obtain ⟨b2, o2, d2, he2, -, -⟩ := rd.pos (by omega)
      simp only [Value.slice.injEq] at he2
      obtain ⟨ea, _, rfl⟩ := he2
      rw [ea] at rd
      rw [drop_cons' hm, List.map_cons, List.cons_append] at hI
      have hGl := hI.1
      have mR := rR.each m (List.mem_of_getElem? hm)
      (repeat (first | with_reducible refine n_then ?_ | with_reducible refine n_block ?_ | with_reducible refine n_jump ?_))
      refine swp_fit [(0, .slice (some ⟨b1, o1, none⟩) rows.length c0), (3, .slice ag got.length cg), (4, .int .i64 (got.length : Nat)), (7, .slice (some ⟨b7, 0, none⟩) got.length got.length), (8, .int .i64 (i : Nat)), (9, .int .i64 (k : Nat))] ⟨rfl, rfl, rfl, rfl, rfl, rfl, trivial⟩ fun ρ => ?_
      (repeat (first | refine swp_seq ?_ | refine swp_block ?_)); refine swp_region (by kernel_rfl) ?_
      repeat (first | refine x_move (by rfl) ?_ | refine x_as (by rfl) (by rfl) ?_ | refine x_skip (by rfl) ?_ | refine x_fld (by rfl) (by rfl) FldO.h ?_ | refine x_nilck (by rfl) (by rfl) ?_ | refine x_len (by rfl) (by rfl) ElOf.some ?_ | refine x_ext (by rfl) (by rfl) (by rfl) ?_ | refine x_pickT (by rfl) (by rfl) (by rfl) ?_ | refine x_pickF (by rfl) (by rfl) (by rfl) ?_ | refine x_add (by rfl) (by rfl) (by rfl) (by omega) ?_ | refine x_sub (by rfl) (by rfl) (by rfl) (by omega) ?_ | refine x_not (by rfl) (by rfl) ?_)
      refine x_nilw ?_
      (repeat (first | refine swp_seq ?_ | refine swp_block ?_))
      refine swp_loop (fun (p : Nat) σ w5 => At σ [(0, .slice (some ⟨b1, o1, none⟩) rows.length c0), (3, .slice ag got.length cg), (4, .int .i64 (got.length : Nat)), (7, .slice (some ⟨b7, 0, none⟩) got.length got.length), (8, .int .i64 (i : Nat)), (9, .int .i64 (k : Nat)), (10, .int .i64 (p : Nat))] ∧ p ≤ got.length ∧ (∀ (j : Nat) (z : Sy), j < p → M[j]? = some z → G[j]? = some true ∨ sky z ≠ sky m.says) ∧ Ext w4 w5) (fun p => got.length - p) 0 ⟨at_ ⟨rfl, rfl, rfl, rfl, rfl, rfl, rfl, trivial⟩, by omega, by omega, Upd.refl _ _⟩ ?_
      rintro p σ w5 ⟨⟨ρ, rfl⟩, hp, hno, u5⟩
      have hpn : p < got.length := Classical.byContradiction fun h => hI.found fun j z hz => hno j z (by have := (List.getElem?_eq_some_iff.1 hz).1; omega) hz
      obtain ⟨y, hy⟩ := nthE hpn
      obtain ⟨gp, hgp⟩ := nthE (L := G) (i := p) (by omega)
      have u75 := u4.ext u5
      have hG5 := kG u75
      have rdg := hG5.own.rd
      obtain ⟨b3, o3, d3, he3, -, -⟩ := rdg.pos (by omega)
      simp only [Value.slice.injEq] at he3
      obtain ⟨rfl, _, rfl⟩ := he3
      have yR := (hG5.each y (List.mem_of_getElem? hy)).rdy
      have mR5 := mR.at (kw u75)
      have hB5 := hB.at u5
      have g5 := hrd.at (kw u75)
      have rd5 := rd.at (kw u75)
      cases gp with
      | true =>
        (repeat (first | refine swp_seq ?_ | refine swp_block ?_)); refine swp_draw (Ext w5) [] Mixed.h (by kernel_rfl) (by kernel_rfl) (ext_drew w5) ?_
        repeat (first | refine x_move (by rfl) ?_ | refine x_as (by rfl) (by rfl) ?_ | refine x_skip (by rfl) ?_ | refine x_fld (by rfl) (by rfl) FldO.h ?_ | refine x_nilck (by rfl) (by rfl) ?_ | refine x_len (by rfl) (by rfl) ElOf.some ?_ | refine x_ext (by rfl) (by rfl) (by rfl) ?_ | refine x_pickT (by rfl) (by rfl) (by rfl) ?_ | refine x_pickF (by rfl) (by rfl) (by rfl) ?_ | refine x_add (by rfl) (by rfl) (by rfl) (by omega) ?_ | refine x_sub (by rfl) (by rfl) (by rfl) (by omega) ?_ | refine x_not (by rfl) (by rfl) ?_)
        refine x_lssT (by rfl) (by rfl) (by rfl) (by omega) ?_
        repeat (first | refine x_move (by rfl) ?_ | refine x_as (by rfl) (by rfl) ?_ | refine x_skip (by rfl) ?_ | refine x_fld (by rfl) (by rfl) FldO.h ?_ | refine x_nilck (by rfl) (by rfl) ?_ | refine x_len (by rfl) (by rfl) ElOf.some ?_ | refine x_ext (by rfl) (by rfl) (by rfl) ?_ | refine x_pickT (by rfl) (by rfl) (by rfl) ?_ | refine x_pickF (by rfl) (by rfl) (by rfl) ?_ | refine x_add (by rfl) (by rfl) (by rfl) (by omega) ?_ | refine x_sub (by rfl) (by rfl) (by rfl) (by omega) ?_ | refine x_not (by rfl) (by rfl) ?_)
        refine x_idx p (by rfl) (by rfl) (by rfl) ElSz.h rfl hpn ?_
        refine q_load (by rfl) (by rfl) (by rfl) (fun w' hw' => load_one (v := .bool true) OneT.h (hB5.at hw') (fl_cell (i := p) (j := 0) encB_len hgp rfl (by omega) [])) ?_
        repeat (first | refine x_move (by rfl) ?_ | refine x_as (by rfl) (by rfl) ?_ | refine x_skip (by rfl) ?_ | refine x_fld (by rfl) (by rfl) FldO.h ?_ | refine x_nilck (by rfl) (by rfl) ?_ | refine x_len (by rfl) (by rfl) ElOf.some ?_ | refine x_ext (by rfl) (by rfl) (by rfl) ?_ | refine x_pickT (by rfl) (by rfl) (by rfl) ?_ | refine x_pickF (by rfl) (by rfl) (by rfl) ?_ | refine x_add (by rfl) (by rfl) (by rfl) (by omega) ?_ | refine x_sub (by rfl) (by rfl) (by rfl) (by omega) ?_ | refine x_not (by rfl) (by rfl) ?_)
        refine x_nil fun w6 u6 => ?_
        (repeat (first | refine swp_seq ?_ | refine swp_block ?_))
        refine swp_true (by rfl) (swp_skip ?_)
        (repeat (first | with_reducible refine n_then ?_ | with_reducible refine n_block ?_ | with_reducible refine n_jump ?_))
        (repeat (first | refine swp_seq ?_ | refine swp_block ?_)); refine swp_region (by kernel_rfl) ?_
        repeat (first | refine x_move (by rfl) ?_ | refine x_as (by rfl) (by rfl) ?_ | refine x_skip (by rfl) ?_ | refine x_fld (by rfl) (by rfl) FldO.h ?_ | refine x_nilck (by rfl) (by rfl) ?_ | refine x_len (by rfl) (by rfl) ElOf.some ?_ | refine x_ext (by rfl) (by rfl) (by rfl) ?_ | refine x_pickT (by rfl) (by rfl) (by rfl) ?_ | refine x_pickF (by rfl) (by rfl) (by rfl) ?_ | refine x_add (by rfl) (by rfl) (by rfl) (by omega) ?_ | refine x_sub (by rfl) (by rfl) (by rfl) (by omega) ?_ | refine x_not (by rfl) (by rfl) ?_)
        refine x_nilw ?_
        refine ⟨p + 1, ⟨at_ ⟨rfl, rfl, rfl, rfl, rfl, rfl, rfl, trivial⟩, hpn, fun j z hj hz => ?_, u5.trans u6⟩, by omega⟩
        rcases Nat.lt_or_ge j p with h | h
        · exact hno j z h hz
        · have : j = p := by omega
          subst this
          exact .inl hgp
      | false =>
        by_cases hkey : y.key = m.key
        · (repeat (first | refine swp_seq ?_ | refine swp_block ?_)); refine swp_draw (Ext w5) [] Mixed.h (by kernel_rfl) (by kernel_rfl) (ext_drew w5) ?_
          repeat (first | refine x_move (by rfl) ?_ | refine x_as (by rfl) (by rfl) ?_ | refine x_skip (by rfl) ?_ | refine x_fld (by rfl) (by rfl) FldO.h ?_ | refine x_nilck (by rfl) (by rfl) ?_ | refine x_len (by rfl) (by rfl) ElOf.some ?_ | refine x_ext (by rfl) (by rfl) (by rfl) ?_ | refine x_pickT (by rfl) (by rfl) (by rfl) ?_ | refine x_pickF (by rfl) (by rfl) (by rfl) ?_ | refine x_add (by rfl) (by rfl) (by rfl) (by omega) ?_ | refine x_sub (by rfl) (by rfl) (by rfl) (by omega) ?_ | refine x_not (by rfl) (by rfl) ?_)
          refine x_lssT (by rfl) (by rfl) (by rfl) (by omega) ?_
          repeat (first | refine x_move (by rfl) ?_ | refine x_as (by rfl) (by rfl) ?_ | refine x_skip (by rfl) ?_ | refine x_fld (by rfl) (by rfl) FldO.h ?_ | refine x_nilck (by rfl) (by rfl) ?_ | refine x_len (by rfl) (by rfl) ElOf.some ?_ | refine x_ext (by rfl) (by rfl) (by rfl) ?_ | refine x_pickT (by rfl) (by rfl) (by rfl) ?_ | refine x_pickF (by rfl) (by rfl) (by rfl) ?_ | refine x_add (by rfl) (by rfl) (by rfl) (by omega) ?_ | refine x_sub (by rfl) (by rfl) (by rfl) (by omega) ?_ | refine x_not (by rfl) (by rfl) ?_)
          refine x_idx p (by rfl) (by rfl) (by rfl) ElSz.h rfl hpn ?_
          refine q_load (by rfl) (by rfl) (by rfl) (fun w' hw' => load_one (v := .bool false) OneT.h (hB5.at hw') (fl_cell (i := p) (j := 0) encB_len hgp rfl (by omega) [])) ?_
          repeat (first | refine x_move (by rfl) ?_ | refine x_as (by rfl) (by rfl) ?_ | refine x_skip (by rfl) ?_ | refine x_fld (by rfl) (by rfl) FldO.h ?_ | refine x_nilck (by rfl) (by rfl) ?_ | refine x_len (by rfl) (by rfl) ElOf.some ?_ | refine x_ext (by rfl) (by rfl) (by rfl) ?_ | refine x_pickT (by rfl) (by rfl) (by rfl) ?_ | refine x_pickF (by rfl) (by rfl) (by rfl) ?_ | refine x_add (by rfl) (by rfl) (by rfl) (by omega) ?_ | refine x_sub (by rfl) (by rfl) (by rfl) (by omega) ?_ | refine x_not (by rfl) (by rfl) ?_)
          refine x_idx p (by rfl) (by rfl) (by rfl) ElSz.h rfl hpn ?_
          refine q_load (by rfl) (by rfl) (by rfl) (fun w' hw' => rd_load mt_len AggT.h (rdg.at hw') hy rfl rfl) ?_
          repeat (first | refine x_move (by rfl) ?_ | refine x_as (by rfl) (by rfl) ?_ | refine x_skip (by rfl) ?_ | refine x_fld (by rfl) (by rfl) FldO.h ?_ | refine x_nilck (by rfl) (by rfl) ?_ | refine x_len (by rfl) (by rfl) ElOf.some ?_ | refine x_ext (by rfl) (by rfl) (by rfl) ?_ | refine x_pickT (by rfl) (by rfl) (by rfl) ?_ | refine x_pickF (by rfl) (by rfl) (by rfl) ?_ | refine x_add (by rfl) (by rfl) (by rfl) (by omega) ?_ | refine x_sub (by rfl) (by rfl) (by rfl) (by omega) ?_ | refine x_not (by rfl) (by rfl) ?_)
          refine x_idx i (by rfl) (by rfl) (by rfl) ElSz.h rfl hi' ?_
          refine q_load (by rfl) (by rfl) (by rfl) (fun w' hw' => load_one_cell OneT.h (rd_cell (v := .slice (some ⟨b2, o2, none⟩) r.ms.length r.c) (j := 0) ml_len (g5.at hw') hr0 (by rw [← ea]; rfl) rfl rfl)) ?_
          repeat (first | refine x_move (by rfl) ?_ | refine x_as (by rfl) (by rfl) ?_ | refine x_skip (by rfl) ?_ | refine x_fld (by rfl) (by rfl) FldO.h ?_ | refine x_nilck (by rfl) (by rfl) ?_ | refine x_len (by rfl) (by rfl) ElOf.some ?_ | refine x_ext (by rfl) (by rfl) (by rfl) ?_ | refine x_pickT (by rfl) (by rfl) (by rfl) ?_ | refine x_pickF (by rfl) (by rfl) (by rfl) ?_ | refine x_add (by rfl) (by rfl) (by rfl) (by omega) ?_ | refine x_sub (by rfl) (by rfl) (by rfl) (by omega) ?_ | refine x_not (by rfl) (by rfl) ?_)
          refine x_idx k (by rfl) (by rfl) (by rfl) ElSz.h rfl hk' ?_
          refine q_load (by rfl) (by rfl) (by rfl) (fun w' hw' => rd_load mt_len AggT.h (rd5.at hw') hm rfl rfl) ?_
          refine q_call (v := .bool true) (by rfl) (by rfl) (by rfl) (fun w' hw' => (alike y m w' (yR.at hw') (mR5.at hw')).mono fun v w'' h => ⟨by rw [h.1, decide_eq_true hkey], hw'.trans h.2⟩) ?_
          repeat (first | refine x_move (by rfl) ?_ | refine x_as (by rfl) (by rfl) ?_ | refine x_skip (by rfl) ?_ | refine x_fld (by rfl) (by rfl) FldO.h ?_ | refine x_nilck (by rfl) (by rfl) ?_ | refine x_len (by rfl) (by rfl) ElOf.some ?_ | refine x_ext (by rfl) (by rfl) (by rfl) ?_ | refine x_pickT (by rfl) (by rfl) (by rfl) ?_ | refine x_pickF (by rfl) (by rfl) (by rfl) ?_ | refine x_add (by rfl) (by rfl) (by rfl) (by omega) ?_ | refine x_sub (by rfl) (by rfl) (by rfl) (by omega) ?_ | refine x_not (by rfl) (by rfl) ?_)
          refine x_nil fun w6 u6 => ?_
          obtain ⟨hsm, hI'⟩ := hI.step (hMat hy) hgp hkey hno
          have u76 := u75.ext u6
          (repeat (first | refine swp_seq ?_ | refine swp_block ?_))
          refine swp_false (by rfl) ?_
          refine swp_exit ?_; (repeat (first | with_reducible refine e_then ?_ | with_reducible refine e_jump ?_)); refine e_block ?_; (repeat (first | with_reducible refine n_then ?_ | with_reducible refine n_block ?_ | with_reducible refine n_jump ?_))
          refine swp_fit [(0, .slice (some ⟨b1, o1, none⟩) rows.length c0), (3, .slice (some ⟨b3, o3, none⟩) got.length cg), (4, .int .i64 (got.length : Nat)), (7, .slice (some ⟨b7, 0, none⟩) got.length got.length), (8, .int .i64 (i : Nat)), (9, .int .i64 (k : Nat)), (10, .int .i64 (p : Nat))] ⟨rfl, rfl, rfl, rfl, rfl, rfl, rfl, trivial⟩ fun ρ => ?_
          (repeat (first | refine swp_seq ?_ | refine swp_block ?_)); refine swp_draw (Ext w6) [] Mixed.h (by kernel_rfl) (by kernel_rfl) (ext_drew w6) ?_
          repeat (first | refine x_move (by rfl) ?_ | refine x_as (by rfl) (by rfl) ?_ | refine x_skip (by rfl) ?_ | refine x_fld (by rfl) (by rfl) FldO.h ?_ | refine x_nilck (by rfl) (by rfl) ?_ | refine x_len (by rfl) (by rfl) ElOf.some ?_ | refine x_ext (by rfl) (by rfl) (by rfl) ?_ | refine x_pickT (by rfl) (by rfl) (by rfl) ?_ | refine x_pickF (by rfl) (by rfl) (by rfl) ?_ | refine x_add (by rfl) (by rfl) (by rfl) (by omega) ?_ | refine x_sub (by rfl) (by rfl) (by rfl) (by omega) ?_ | refine x_not (by rfl) (by rfl) ?_)
          refine x_eqlF (by rfl) (by rfl) (by rfl) (by omega) ?_
          repeat (first | refine x_move (by rfl) ?_ | refine x_as (by rfl) (by rfl) ?_ | refine x_skip (by rfl) ?_ | refine x_fld (by rfl) (by rfl) FldO.h ?_ | refine x_nilck (by rfl) (by rfl) ?_ | refine x_len (by rfl) (by rfl) ElOf.some ?_ | refine x_ext (by rfl) (by rfl) (by rfl) ?_ | refine x_pickT (by rfl) (by rfl) (by rfl) ?_ | refine x_pickF (by rfl) (by rfl) (by rfl) ?_ | refine x_add (by rfl) (by rfl) (by rfl) (by omega) ?_ | refine x_sub (by rfl) (by rfl) (by rfl) (by omega) ?_ | refine x_not (by rfl) (by rfl) ?_)
          refine x_idx p (by rfl) (by rfl) (by rfl) ElSz.h rfl hpn ?_
          refine q_load (by rfl) (by rfl) (by rfl) (fun w' hw' => rd_load mt_len AggT.h ((rdg.at u6).at hw') hy rfl rfl) ?_
          repeat (first | refine x_move (by rfl) ?_ | refine x_as (by rfl) (by rfl) ?_ | refine x_skip (by rfl) ?_ | refine x_fld (by rfl) (by rfl) FldO.h ?_ | refine x_nilck (by rfl) (by rfl) ?_ | refine x_len (by rfl) (by rfl) ElOf.some ?_ | refine x_ext (by rfl) (by rfl) (by rfl) ?_ | refine x_pickT (by rfl) (by rfl) (by rfl) ?_ | refine x_pickF (by rfl) (by rfl) (by rfl) ?_ | refine x_add (by rfl) (by rfl) (by rfl) (by omega) ?_ | refine x_sub (by rfl) (by rfl) (by rfl) (by omega) ?_ | refine x_not (by rfl) (by rfl) ?_)
          refine x_idx i (by rfl) (by rfl) (by rfl) ElSz.h rfl hi' ?_
          refine q_load (by rfl) (by rfl) (by rfl) (fun w' hw' => load_one_cell OneT.h (rd_cell (v := .slice (some ⟨b2, o2, none⟩) r.ms.length r.c) (j := 0) ml_len ((g5.at u6).at hw') hr0 (by rw [← ea]; rfl) rfl rfl)) ?_
          repeat (first | refine x_move (by rfl) ?_ | refine x_as (by rfl) (by rfl) ?_ | refine x_skip (by rfl) ?_ | refine x_fld (by rfl) (by rfl) FldO.h ?_ | refine x_nilck (by rfl) (by rfl) ?_ | refine x_len (by rfl) (by rfl) ElOf.some ?_ | refine x_ext (by rfl) (by rfl) (by rfl) ?_ | refine x_pickT (by rfl) (by rfl) (by rfl) ?_ | refine x_pickF (by rfl) (by rfl) (by rfl) ?_ | refine x_add (by rfl) (by rfl) (by rfl) (by omega) ?_ | refine x_sub (by rfl) (by rfl) (by rfl) (by omega) ?_ | refine x_not (by rfl) (by rfl) ?_)
          refine x_idx k (by rfl) (by rfl) (by rfl) ElSz.h rfl hk' ?_
          refine q_load (by rfl) (by rfl) (by rfl) (fun w' hw' => rd_load mt_len AggT.h ((rd5.at u6).at hw') hm rfl rfl) ?_
          refine q_call (v := .bool true) (by rfl) (by rfl) (by rfl) (fun w' hw' => (same_match y m w' ((yR.at u6).at hw') ((mR5.at u6).at hw') hsm).mono fun v w'' h => ⟨h.1, hw'.trans h.2⟩) ?_
          repeat (first | refine x_move (by rfl) ?_ | refine x_as (by rfl) (by rfl) ?_ | refine x_skip (by rfl) ?_ | refine x_fld (by rfl) (by rfl) FldO.h ?_ | refine x_nilck (by rfl) (by rfl) ?_ | refine x_len (by rfl) (by rfl) ElOf.some ?_ | refine x_ext (by rfl) (by rfl) (by rfl) ?_ | refine x_pickT (by rfl) (by rfl) (by rfl) ?_ | refine x_pickF (by rfl) (by rfl) (by rfl) ?_ | refine x_add (by rfl) (by rfl) (by rfl) (by omega) ?_ | refine x_sub (by rfl) (by rfl) (by rfl) (by omega) ?_ | refine x_not (by rfl) (by rfl) ?_)
          refine x_nil fun w8 u8 => ?_
          have hB8 := (hB5.at u6).at u8
          (repeat (first | refine swp_seq ?_ | refine swp_block ?_))
          refine swp_false (by rfl) (swp_skip ?_)
          refine swp_fit [(0, .slice (some ⟨b1, o1, none⟩) rows.length c0), (3, .slice (some ⟨b3, o3, none⟩) got.length cg), (4, .int .i64 (got.length : Nat)), (7, .slice (some ⟨b7, 0, none⟩) got.length got.length), (8, .int .i64 (i : Nat)), (9, .int .i64 (k : Nat)), (10, .int .i64 (p : Nat))] ⟨rfl, rfl, rfl, rfl, rfl, rfl, rfl, trivial⟩ fun ρ => ?_
          (repeat (first | refine swp_seq ?_ | refine swp_block ?_)); refine swp_region (by kernel_rfl) ?_
          repeat (first | refine x_move (by rfl) ?_ | refine x_as (by rfl) (by rfl) ?_ | refine x_skip (by rfl) ?_ | refine x_fld (by rfl) (by rfl) FldO.h ?_ | refine x_nilck (by rfl) (by rfl) ?_ | refine x_len (by rfl) (by rfl) ElOf.some ?_ | refine x_ext (by rfl) (by rfl) (by rfl) ?_ | refine x_pickT (by rfl) (by rfl) (by rfl) ?_ | refine x_pickF (by rfl) (by rfl) (by rfl) ?_ | refine x_add (by rfl) (by rfl) (by rfl) (by omega) ?_ | refine x_sub (by rfl) (by rfl) (by rfl) (by omega) ?_ | refine x_not (by rfl) (by rfl) ?_)
          refine x_idx p (by rfl) (by rfl) (by rfl) ElSz.h rfl hpn ?_
          refine w_store (xs := [.bool true]) (by rfl) (by rfl) (by rfl) (by rfl) SzT.h (by rfl) (by rfl) hB8 (by rw [List.append_nil, fl_length encB_len]; omega) ?_
          intro w9 u9 h9 _
          refine x_nilw ?_
          have h9' : Blk w9 b7 4 (fl encB (G.set p true) ++ []) := by
            rw [show [Value.bool true] = encB true from rfl, fl_set encB_len (i := p) (by omega) (by omega)] at h9
            exact h9
          (repeat (first | with_reducible refine n_then ?_ | with_reducible refine n_block ?_ | with_reducible refine n_jump ?_))
          (repeat (first | refine swp_seq ?_ | refine swp_block ?_)); refine swp_region (by kernel_rfl) ?_
          repeat (first | refine x_move (by rfl) ?_ | refine x_as (by rfl) (by rfl) ?_ | refine x_skip (by rfl) ?_ | refine x_fld (by rfl) (by rfl) FldO.h ?_ | refine x_nilck (by rfl) (by rfl) ?_ | refine x_len (by rfl) (by rfl) ElOf.some ?_ | refine x_ext (by rfl) (by rfl) (by rfl) ?_ | refine x_pickT (by rfl) (by rfl) (by rfl) ?_ | refine x_pickF (by rfl) (by rfl) (by rfl) ?_ | refine x_add (by rfl) (by rfl) (by rfl) (by omega) ?_ | refine x_sub (by rfl) (by rfl) (by rfl) (by omega) ?_ | refine x_not (by rfl) (by rfl) ?_)
          refine x_nilw ?_
          exact ⟨k + 1, ⟨at_ ⟨rfl, rfl, rfl, rfl, rfl, rfl, trivial⟩, hk', _, hI', h9', (u76.ext u8).trans u9⟩, by omega⟩
        · (repeat (first | refine swp_seq ?_ | refine swp_block ?_)); refine swp_draw (Ext w5) [] Mixed.h (by kernel_rfl) (by kernel_rfl) (ext_drew w5) ?_
          repeat (first | refine x_move (by rfl) ?_ | refine x_as (by rfl) (by rfl) ?_ | refine x_skip (by rfl) ?_ | refine x_fld (by rfl) (by rfl) FldO.h ?_ | refine x_nilck (by rfl) (by rfl) ?_ | refine x_len (by rfl) (by rfl) ElOf.some ?_ | refine x_ext (by rfl) (by rfl) (by rfl) ?_ | refine x_pickT (by rfl) (by rfl) (by rfl) ?_ | refine x_pickF (by rfl) (by rfl) (by rfl) ?_ | refine x_add (by rfl) (by rfl) (by rfl) (by omega) ?_ | refine x_sub (by rfl) (by rfl) (by rfl) (by omega) ?_ | refine x_not (by rfl) (by rfl) ?_)
          refine x_lssT (by rfl) (by rfl) (by rfl) (by omega) ?_
          repeat (first | refine x_move (by rfl) ?_ | refine x_as (by rfl) (by rfl) ?_ | refine x_skip (by rfl) ?_ | refine x_fld (by rfl) (by rfl) FldO.h ?_ | refine x_nilck (by rfl) (by rfl) ?_ | refine x_len (by rfl) (by rfl) ElOf.some ?_ | refine x_ext (by rfl) (by rfl) (by rfl) ?_ | refine x_pickT (by rfl) (by rfl) (by rfl) ?_ | refine x_pickF (by rfl) (by rfl) (by rfl) ?_ | refine x_add (by rfl) (by rfl) (by rfl) (by omega) ?_ | refine x_sub (by rfl) (by rfl) (by rfl) (by omega) ?_ | refine x_not (by rfl) (by rfl) ?_)
          refine x_idx p (by rfl) (by rfl) (by rfl) ElSz.h rfl hpn ?_
          refine q_load (by rfl) (by rfl) (by rfl) (fun w' hw' => load_one (v := .bool false) OneT.h (hB5.at hw') (fl_cell (i := p) (j := 0) encB_len hgp rfl (by omega) [])) ?_
          repeat (first | refine x_move (by rfl) ?_ | refine x_as (by rfl) (by rfl) ?_ | refine x_skip (by rfl) ?_ | refine x_fld (by rfl) (by rfl) FldO.h ?_ | refine x_nilck (by rfl) (by rfl) ?_ | refine x_len (by rfl) (by rfl) ElOf.some ?_ | refine x_ext (by rfl) (by rfl) (by rfl) ?_ | refine x_pickT (by rfl) (by rfl) (by rfl) ?_ | refine x_pickF (by rfl) (by rfl) (by rfl) ?_ | refine x_add (by rfl) (by rfl) (by rfl) (by omega) ?_ | refine x_sub (by rfl) (by rfl) (by rfl) (by omega) ?_ | refine x_not (by rfl) (by rfl) ?_)
          refine x_idx p (by rfl) (by rfl) (by rfl) ElSz.h rfl hpn ?_
          refine q_load (by rfl) (by rfl) (by rfl) (fun w' hw' => rd_load mt_len AggT.h (rdg.at hw') hy rfl rfl) ?_
          repeat (first | refine x_move (by rfl) ?_ | refine x_as (by rfl) (by rfl) ?_ | refine x_skip (by rfl) ?_ | refine x_fld (by rfl) (by rfl) FldO.h ?_ | refine x_nilck (by rfl) (by rfl) ?_ | refine x_len (by rfl) (by rfl) ElOf.some ?_ | refine x_ext (by rfl) (by rfl) (by rfl) ?_ | refine x_pickT (by rfl) (by rfl) (by rfl) ?_ | refine x_pickF (by rfl) (by rfl) (by rfl) ?_ | refine x_add (by rfl) (by rfl) (by rfl) (by omega) ?_ | refine x_sub (by rfl) (by rfl) (by rfl) (by omega) ?_ | refine x_not (by rfl) (by rfl) ?_)
          refine x_idx i (by rfl) (by rfl) (by rfl) ElSz.h rfl hi' ?_
          refine q_load (by rfl) (by rfl) (by rfl) (fun w' hw' => load_one_cell OneT.h (rd_cell (v := .slice (some ⟨b2, o2, none⟩) r.ms.length r.c) (j := 0) ml_len (g5.at hw') hr0 (by rw [← ea]; rfl) rfl rfl)) ?_
          repeat (first | refine x_move (by rfl) ?_ | refine x_as (by rfl) (by rfl) ?_ | refine x_skip (by rfl) ?_ | refine x_fld (by rfl) (by rfl) FldO.h ?_ | refine x_nilck (by rfl) (by rfl) ?_ | refine x_len (by rfl) (by rfl) ElOf.some ?_ | refine x_ext (by rfl) (by rfl) (by rfl) ?_ | refine x_pickT (by rfl) (by rfl) (by rfl) ?_ | refine x_pickF (by rfl) (by rfl) (by rfl) ?_ | refine x_add (by rfl) (by rfl) (by rfl) (by omega) ?_ | refine x_sub (by rfl) (by rfl) (by rfl) (by omega) ?_ | refine x_not (by rfl) (by rfl) ?_)
          refine x_idx k (by rfl) (by rfl) (by rfl) ElSz.h rfl hk' ?_
          refine q_load (by rfl) (by rfl) (by rfl) (fun w' hw' => rd_load mt_len AggT.h (rd5.at hw') hm rfl rfl) ?_
          refine q_call (v := .bool false) (by rfl) (by rfl) (by rfl) (fun w' hw' => (alike y m w' (yR.at hw') (mR5.at hw')).mono fun v w'' h => ⟨by rw [h.1, decide_eq_false hkey], hw'.trans h.2⟩) ?_
          repeat (first | refine x_move (by rfl) ?_ | refine x_as (by rfl) (by rfl) ?_ | refine x_skip (by rfl) ?_ | refine x_fld (by rfl) (by rfl) FldO.h ?_ | refine x_nilck (by rfl) (by rfl) ?_ | refine x_len (by rfl) (by rfl) ElOf.some ?_ | refine x_ext (by rfl) (by rfl) (by rfl) ?_ | refine x_pickT (by rfl) (by rfl) (by rfl) ?_ | refine x_pickF (by rfl) (by rfl) (by rfl) ?_ | refine x_add (by rfl) (by rfl) (by rfl) (by omega) ?_ | refine x_sub (by rfl) (by rfl) (by rfl) (by omega) ?_ | refine x_not (by rfl) (by rfl) ?_)
          refine x_nil fun w6 u6 => ?_
          (repeat (first | refine swp_seq ?_ | refine swp_block ?_))
          refine swp_true (by rfl) (swp_skip ?_)
          (repeat (first | with_reducible refine n_then ?_ | with_reducible refine n_block ?_ | with_reducible refine n_jump ?_))
          (repeat (first | refine swp_seq ?_ | refine swp_block ?_)); refine swp_region (by kernel_rfl) ?_
          repeat (first | refine x_move (by rfl) ?_ | refine x_as (by rfl) (by rfl) ?_ | refine x_skip (by rfl) ?_ | refine x_fld (by rfl) (by rfl) FldO.h ?_ | refine x_nilck (by rfl) (by rfl) ?_ | refine x_len (by rfl) (by rfl) ElOf.some ?_ | refine x_ext (by rfl) (by rfl) (by rfl) ?_ | refine x_pickT (by rfl) (by rfl) (by rfl) ?_ | refine x_pickF (by rfl) (by rfl) (by rfl) ?_ | refine x_add (by rfl) (by rfl) (by rfl) (by omega) ?_ | refine x_sub (by rfl) (by rfl) (by rfl) (by omega) ?_ | refine x_not (by rfl) (by rfl) ?_)
          refine x_nilw ?_
          refine ⟨p + 1, ⟨at_ ⟨rfl, rfl, rfl, rfl, rfl, rfl, rfl, trivial⟩, hpn, fun j z hj hz => ?_, u5.trans u6⟩, by omega⟩
          rcases Nat.lt_or_ge j p with h | h
          · exact hno j z h hz
          · have : j = p := by omega
            subst this
            rw [hMat hy] at hz
            injection hz with hz
            subst hz
            exact .inr hkey
    · have hin : k = r.ms.length := by omega
      subst hin
      rw [List.drop_length] at hI
      refine swp_exit ?_; (repeat (first | with_reducible refine e_then ?_ | with_reducible refine e_jump ?_)); refine e_block ?_; (repeat (first | with_reducible refine n_then ?_ | with_reducible refine n_block ?_ | with_reducible refine n_jump ?_))
      (repeat (first | with_reducible refine n_then ?_ | with_reducible refine n_block ?_ | with_reducible refine n_jump ?_))
      (repeat (first | refine swp_seq ?_ | refine swp_block ?_)); refine swp_region (by kernel_rfl) ?_
      repeat (first | refine x_move (by rfl) ?_ | refine x_as (by rfl) (by rfl) ?_ | refine x_skip (by rfl) ?_ | refine x_fld (by rfl) (by rfl) FldO.h ?_ | refine x_nilck (by rfl) (by rfl) ?_ | refine x_len (by rfl) (by rfl) ElOf.some ?_ | refine x_ext (by rfl) (by rfl) (by rfl) ?_ | refine x_pickT (by rfl) (by rfl) (by rfl) ?_ | refine x_pickF (by rfl) (by rfl) (by rfl) ?_ | refine x_add (by rfl) (by rfl) (by rfl) (by omega) ?_ | refine x_sub (by rfl) (by rfl) (by rfl) (by omega) ?_ | refine x_not (by rfl) (by rfl) ?_)
      refine x_nilw ?_
      exact ⟨i + 1, ⟨at_ ⟨rfl, rfl, rfl, rfl, rfl, trivial⟩, hi', G, by simpa using hI, hB, u4⟩, by omega⟩
  · refine swp_exit ?_; (repeat (first | with_reducible refine e_then ?_ | with_reducible refine e_jump ?_)); refine e_block ?_; (repeat (first | with_reducible refine n_then ?_ | with_reducible refine n_block ?_ | with_reducible refine n_jump ?_))
    (repeat (first | refine swp_seq ?_ | refine swp_block ?_)); refine swp_region (by kernel_rfl) ?_
    repeat (first | refine x_move (by rfl) ?_ | refine x_as (by rfl) (by rfl) ?_ | refine x_skip (by rfl) ?_ | refine x_fld (by rfl) (by rfl) FldO.h ?_ | refine x_nilck (by rfl) (by rfl) ?_ | refine x_len (by rfl) (by rfl) ElOf.some ?_ | refine x_ext (by rfl) (by rfl) (by rfl) ?_ | refine x_pickT (by rfl) (by rfl) (by rfl) ?_ | refine x_pickF (by rfl) (by rfl) (by rfl) ?_ | refine x_add (by rfl) (by rfl) (by rfl) (by omega) ?_ | refine x_sub (by rfl) (by rfl) (by rfl) (by omega) ?_ | refine x_not (by rfl) (by rfl) ?_)
    refine x_nilw ?_
    refine swp_ret ?_; (repeat (first | with_reducible refine r_then ?_ | with_reducible refine r_block ?_ | with_reducible refine r_jump ?_))
    exact post1 rfl rfl ⟨_, rfl, rfl, kw u3⟩
end Go.Proofs.Ytpnigekkbmanlaa
