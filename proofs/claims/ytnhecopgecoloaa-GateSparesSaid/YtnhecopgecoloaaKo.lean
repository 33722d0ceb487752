/- Lists that are marked, and that stay; what a step tells of lists. Conditions: few things. -/
import Derived.Test.YtnhecopgecoloaaSt
import Derived.Test.YtnhecopgecoloaaGh
namespace Go.Proofs.Ytnhecopgecoloaa
open Hp Sx
section
variable {P : Program}
/-- append, told apart: in its place, or in a new one. -/
theorem run_append2 {w : World} {t ty e : TypeId} {i : TypeInfo} {z : Value} {sz : Nat} (ht : P.underlying t = some (.slice e)) (hi : P.info? e = some i) (hz : i.zero = some z) (hsz : i.size = sz) (hzs : z.cells.size = sz)
    {sv : Value} {n : Nat} {xs : List Value} (hown : Own w e sz sv n xs) {a : Addr} {m c : Nat} {news : List Value} (hl : news.length = m * sz) (hnews : ∀ j u, news[j]? = some u → w.cell? (a.add j) = some u) (h1 : ∀ u ∈ news, u.oneCell' = true) (hm : 0 < m)
    (hr : Room (n + m) i.bytes) :
    ∃ sv' w', (Builtin.append_ #[t, t] ty #[sv, .slice (some a) m c]).run P w = .ok sv' w' ∧ Own w' e sz sv' (n + m) (xs ++ news) ∧ ((Upd (isIn sv) w w' ∧ ∀ b, isIn sv' b → isIn sv b) ∨ (Ext w w' ∧ ∀ b, isIn sv' b → w.heap.size ≤ b)) := by
  subst hsz
  have hlen : (xs ++ news).length = (n + m) * i.size := by rw [List.length_append, hown.1, hl, Nat.add_mul]
  have hmax : n + m ≤ maxLen := by have := hr.1; simp only [maxLen]; omega
  have hfit : ∀ old, old < n + m → Builtin.nextslicecap (n + m) old * i.bytes ≤ 281474976710656 := fun old ho => Nat.le_trans (Nat.mul_le_mul_right _ (nextslicecap_fine ho)) hr.2
  have grown : ∀ (old : Nat), old < n + m →
      Own (w.drew.alloc (.cells (xs.toArray ++ news.toArray ++ Builtin.zeroCells z.cells (grownCap w (n + m) old e - (n + m))) e)) e i.size (.slice (some ⟨w.heap.size, 0, none⟩) (n + m) (grownCap w (n + m) old e)) (n + m) (xs ++ news) := by
    intro old ho
    have hge := grownCap_ge w (n + m) old e
    refine Own.of (rest := (Builtin.zeroCells z.cells (grownCap w (n + m) old e - (n + m))).toList) hlen ?_ hge (grownCap_le_maxLen w (n + m) old e hmax) ?_
    · have h := heap_alloc_new w.drew (.cells (xs.toArray ++ news.toArray ++ Builtin.zeroCells z.cells (grownCap w (n + m) old e - (n + m))) e)
      unfold Blk
      refine Eq.trans h ?_
      congr 2
      apply Array.ext'
      simp
    · rw [List.length_append, hlen, Array.length_toList, size_zeroCells, hzs, ← Nat.add_mul]
      congr 1
      omega
  have uext : ∀ o : Obj, Ext w (w.drew.alloc o) := fun o => (ext_drew w).trans (ext_alloc _ o)
  rcases hown.2 with ⟨rfl, rfl⟩ | ⟨g, cap, rest, rfl, hg, hnc, hcm, hcs⟩
  · have hx : xs = [] := List.eq_nil_of_length_eq_zero (by simpa using hown.1)
    subst hx
    have hr' := run_append_nil (P := P) w t ty e i z ht hi hz a m c news hl hnews hm (by have := hr.1; omega) (by
      have h := hr.2
      have : (0 + m) * i.bytes ≤ (0 + m + (0 + m) / 4 + 512) * i.bytes := Nat.mul_le_mul_right _ (by omega)
      simp only [Nat.zero_add] at this h
      omega)
    have hgr := grown 0 (by omega)
    simp only [Nat.zero_add, List.nil_append, Array.empty_append] at hgr ⊢
    exact ⟨_, _, hr', hgr, .inr ⟨uext _, fun b hb => by have : b = w.heap.size := hb; omega⟩⟩
  · by_cases hroom : n + m ≤ cap
    · have hlr := hcs
      rw [List.length_append] at hlr
      have hge : (n + m) * i.size ≤ cap * i.size := Nat.mul_le_mul_right _ hroom
      have hx1 := hown.1
      have hfit' : n * i.size + news.length ≤ (xs ++ rest).toArray.size := by rw [hl, ← Nat.add_mul]; simpa using (by omega : (n + m) * i.size ≤ xs.length + rest.length)
      have hr' := run_append_room (P := P) w t ty e i ht hi g n cap (xs ++ rest).toArray hg a m c news hl hnews h1 hroom hfit'
      refine ⟨_, _, hr', ?_, .inl ⟨(upd_setRow w g _).mono (fun b hb => hb), fun b hb => hb⟩⟩
      have e1 : ((xs ++ rest).toArray.toList.take (n * i.size) ++ news ++ (xs ++ rest).toArray.toList.drop (n * i.size + news.length)) = (xs ++ news) ++ rest.drop news.length := by
        simp only []
        rw [List.take_append_of_le_length (by omega), List.take_of_length_le (by omega), List.drop_append, List.drop_eq_nil_of_le (by omega), List.nil_append]
        congr 2
        omega
      rw [e1]
      refine Own.of hlen (blk_setRow hg) hroom hcm ?_
      rw [List.length_append, hlen, List.length_drop, hl]
      rw [Nat.add_mul] at hge ⊢
      omega
    · have holds : ∀ j u, xs[j]? = some u → w.cell? ((⟨g, 0, none⟩ : Addr).add j) = some u := fun j u hu => by
        rw [Addr.add_lit]
        refine hg.cell ?_
        rw [Nat.zero_add, List.getElem?_append_left (List.getElem?_eq_some_iff.1 hu).1]
        exact hu
      have hr' := run_append_grow (P := P) w t ty e i z ht hi hz ⟨g, 0, none⟩ n cap xs hown.1 holds a m c news hl hnews (by omega) (by have := hr.1; omega) (hfit cap (by omega))
      exact ⟨_, _, hr', grown cap (by omega), .inr ⟨uext _, fun b hb => by have : b = w.heap.size := hb; omega⟩⟩


end
section
variable {dr : Bool} {P : Program} {ops : Array Oper} {W : List Nat} {Q : Fr → World → Prop} {k : Nat} {rest : List Oper} {σ : Fr} {C : World → Prop} {w : World}
variable {d : Nat} {ty : TypeId} {pos : String} {after : Array Edge} {guard : Option (Nat × Bool)}
theorem w_append2 {t e sz bytes : Nat} {x y : Operand} {sv : Value} {n m c b : Nat} {xs news more : List Value} (hW : isW dr W k (.call ⟨.builtin .append, #[x, y], #[t, t]⟩) = true) (hw : wantS ops σ ⟨some d, .call ⟨.builtin .append, #[x, y], #[t, t]⟩, ty, pos, after, guard⟩ = true)
    (hx : ev σ x = sv) (hy : ev σ y = .slice (some ⟨b, 0, none⟩) m c) (ht : slT P t = some (e, sz, bytes)) (hown : Own w e sz sv n xs) {t' : TypeId} (hb : Blk w b t' (news ++ more)) (hl : news.length = m * sz) (h1 : news.all Value.oneCell' = true) (hm : 0 < m) (hr : Room (n + m) bytes)
    (h : ∀ sv' w', Own w' e sz sv' (n + m) (xs ++ news) → ((Upd (isIn sv) w w' ∧ ∀ b, isIn sv' b → isIn sv b) ∨ (Ext w w' ∧ ∀ b, isIn sv' b → w.heap.size ≤ b)) → xw dr P ops W Q (k + 1) rest (upd σ d sv') (Eq w')) : xw dr P ops W Q k (⟨some d, .call ⟨.builtin .append, #[x, y], #[t, t]⟩, ty, pos, after, guard⟩ :: rest) σ (Eq w) := by
  obtain ⟨hu, i, z, hi, hz, hsz, hzs, hby⟩ := slT_spec ht
  subst hby
  obtain ⟨sv', w', hrun, h2, h3⟩ := run_append2 (P := P) (ty := ty) hu hi hz hsz hzs hown hl (fun j u hu => by
    rw [Addr.add_lit, Nat.zero_add]
    exact hb.cell (by rw [List.getElem?_append_left (List.getElem?_eq_some_iff.1 hu).1]; exact hu)) (List.all_eq_true.1 h1) hm hr (a := ⟨b, 0, none⟩) (c := c)
  refine x_w hw rfl hW ?_
  unfold stepsTo
  simp only [execOp, resolve, invoke, builtin, Sem.run_bind, Sem.run_pure, Result.andThen_ok, List.map_toArray, List.map_cons, List.map_nil, hx, hy, hrun]
  exact h sv' w' h2 h3
end

def mk (t i : Int) : Ev := ⟨t, i, 0, 0, 0, 0, 0, 0, 0, 0, 0⟩
/-- so many marks of a number -/
def marks (t : Int) (k : Nat) : List Ev := (List.range k).map fun j => mk t (j : Nat)
theorem marks_len (t : Int) (k : Nat) : (marks t k).length = k := by simp [marks]
theorem marks_get {t : Int} {k i : Nat} (h : i < k) : (marks t k)[i]? = some (mk t (i : Nat)) := by
  rw [marks, List.getElem?_map, List.getElem?_range h]
  rfl
theorem marks_succ (t : Int) (k : Nat) : marks t (k + 1) = marks t k ++ [mk t (k : Nat)] := by simp [marks, List.range_succ]
theorem marks_set {t : Int} {L : List Ev} {i : Nat} (h : i < L.length) : (marks t i ++ L.drop i).set i (mk t (i : Nat)) = marks t (i + 1) ++ L.drop (i + 1) := by
  rw [List.set_append_right _ _ (by rw [marks_len]; exact Nat.le_refl _), marks_len, Nat.sub_self, List.drop_eq_getElem_cons h, List.set_cons_zero, marks_succ, List.append_assoc]
  rfl
theorem own_put {α : Type} {enc : α → List Value} {k : Nat} {e : TypeId} {w' : World} {g cap i o : Nat} {R : List Value} {L : List α} {x : α} (hk : ∀ a, (enc a).length = k) (hb' : Blk w' g e (put1 (fl enc L ++ R) o (enc x))) (hi : i < L.length) (ho : o = i * k) (hc1 : L.length ≤ cap) (hc2 : cap ≤ maxLen) (hc3 : (fl enc L ++ R).length = cap * k) :
    Own w' e k (.slice (some ⟨g, 0, none⟩) L.length cap) L.length (fl enc (L.set i x)) := by
  rw [fl_set hk hi ho] at hb'
  refine Own.of (rest := R) (by rw [fl_length hk, List.length_set]) hb' hc1 hc2 ?_
  rw [← hc3, List.length_append, List.length_append, fl_length hk, fl_length hk, List.length_set]

def Gop.tells (o : Gop) (g : GS) : List Ev := if o.kd = 2 then g.told o.mark else if o.kd = 3 then g.ftold else if o.kd = 6 then g.S else []
def Gop.goes (o : Gop) (g : GS) : GS := if o.kd = 1 then g.push o.e else if o.kd = 2 then g.adv o.mark else if o.kd = 3 then g.flush else g
theorem Gop.goes_ok (o : Gop) {g : GS} (h : g.Ok) : (o.goes g).Ok := by
  unfold Gop.goes
  split
  · exact GS.push_ok h _
  · split
    · exact GS.adv_ok h _
    · split
      · exact GS.flush_ok h
      · exact h
theorem Gop.tells_len (o : Gop) {g : GS} (h : g.Ok) : (o.tells g).length ≤ 4096 := by
  unfold Gop.tells
  split
  · exact told_len h _
  · split
    · exact ftold_len h
    · split
      · exact h.len'
      · simp

set_option maxHeartbeats 2000000 in
set_option maxRecDepth 100000 in
theorem lists_ {w : World} {bg r bp : Nat} {sp : Value} {g : GS} {N : Nat} (o : Gop) (h : Gt w bg r bp sp g N) (ok : g.Ok) (hN : N ≤ 4611686018427387903) : Gets Try.prog 26 [.pointer (some ⟨bg, 0, none⟩), .agg o.cells.toArray] w fun v w' =>
    ∃ sp' N', Own w' 30 11 v (o.tells g).length (fl Ev.cells (o.tells g)) ∧ (∀ b, isIn v b → w.heap.size ≤ b) ∧ Gt w' bg r bp sp' (o.goes g) N' ∧ N' ≤ N + 1 ∧ Upd (gfoot bg r bp sp) w w' ∧ (∀ b, gfoot bg r bp sp' b → gfoot bg r bp sp b ∨ w.heap.size ≤ b) ∧ ∀ b, isIn v b → ¬gfoot bg r bp sp' b := by
  have hl := ok.len'
  refine ⟨GoFn.h, calls_of_swp 39 Try.func26 Try.ntmps26 rfl (Nat.le_of_ble_eq_true rfl) ?_⟩
  (repeat (first | refine swp_seq ?_ | refine swp_block ?_)); refine swp_region (by kernel_rfl) ?_
  refine w_boxA (by rfl) (by rfl) (by rfl) ?_; intro b3 w0 e0 u0 h3
  repeat (first | refine x_move (by rfl) ?_ | refine x_as (by rfl) (by rfl) ?_ | refine x_skip (by rfl) ?_ | refine x_fld (by rfl) (by rfl) FldO.h ?_ | refine x_nilck (by rfl) (by rfl) ?_ | refine x_len (by rfl) (by rfl) ElOf.some ?_ | refine x_ext (by rfl) (by rfl) (by rfl) ?_ | refine x_pickT (by rfl) (by rfl) (by rfl) ?_ | refine x_pickF (by rfl) (by rfl) (by rfl) ?_ | refine x_add (by rfl) (by rfl) (by rfl) (by omega) ?_ | refine x_sub (by rfl) (by rfl) (by rfl) (by omega) ?_ | refine x_not (by rfl) (by rfl) ?_)
  refine x_nilw ?_
  replace h3 : Blk w0 b3 51 o.cells := h3
  have g0 := h.at u0
  have s0 := u0.size
  have hft : ∀ b, gfoot bg r bp sp b → b < w.heap.size := fun b hb => h.lt hb
  refine swp_fit [(0, .pointer (some ⟨bg, 0, none⟩)), (3, .pointer (some ⟨b3, 0, none⟩)), (4, .slice none 0 0)] ⟨rfl, rfl, rfl, trivial⟩ fun ρ => ?_
  (repeat (first | refine swp_seq ?_ | refine swp_block ?_)); refine swp_region (by kernel_rfl) ?_
  repeat (first | refine x_move (by rfl) ?_ | refine x_as (by rfl) (by rfl) ?_ | refine x_skip (by rfl) ?_ | refine x_fld (by rfl) (by rfl) FldO.h ?_ | refine x_nilck (by rfl) (by rfl) ?_ | refine x_len (by rfl) (by rfl) ElOf.some ?_ | refine x_ext (by rfl) (by rfl) (by rfl) ?_ | refine x_pickT (by rfl) (by rfl) (by rfl) ?_ | refine x_pickF (by rfl) (by rfl) (by rfl) ?_ | refine x_add (by rfl) (by rfl) (by rfl) (by omega) ?_ | refine x_sub (by rfl) (by rfl) (by rfl) (by omega) ?_ | refine x_not (by rfl) (by rfl) ?_)
  refine w_load (by rfl) (by rfl) (load_one (v := .int .i64 o.kd) OneT.h h3 (by rfl)) ?_
  refine x_nilw ?_
  by_cases k1 : o.kd = 1
  · (repeat (first | refine swp_seq ?_ | refine swp_block ?_)); refine swp_region (by kernel_rfl) ?_
    refine x_eqlT (by rfl) (by rfl) (by rfl) k1 ?_
    repeat (first | refine x_move (by rfl) ?_ | refine x_as (by rfl) (by rfl) ?_ | refine x_skip (by rfl) ?_ | refine x_fld (by rfl) (by rfl) FldO.h ?_ | refine x_nilck (by rfl) (by rfl) ?_ | refine x_len (by rfl) (by rfl) ElOf.some ?_ | refine x_ext (by rfl) (by rfl) (by rfl) ?_ | refine x_pickT (by rfl) (by rfl) (by rfl) ?_ | refine x_pickF (by rfl) (by rfl) (by rfl) ?_ | refine x_add (by rfl) (by rfl) (by rfl) (by omega) ?_ | refine x_sub (by rfl) (by rfl) (by rfl) (by omega) ?_ | refine x_not (by rfl) (by rfl) ?_)
    refine x_nilw ?_
    (repeat (first | refine swp_seq ?_ | refine swp_block ?_))
    refine swp_true (by rfl) ?_
    (repeat (first | refine swp_seq ?_ | refine swp_block ?_)); refine swp_region (by kernel_rfl) ?_
    repeat (first | refine x_move (by rfl) ?_ | refine x_as (by rfl) (by rfl) ?_ | refine x_skip (by rfl) ?_ | refine x_fld (by rfl) (by rfl) FldO.h ?_ | refine x_nilck (by rfl) (by rfl) ?_ | refine x_len (by rfl) (by rfl) ElOf.some ?_ | refine x_ext (by rfl) (by rfl) (by rfl) ?_ | refine x_pickT (by rfl) (by rfl) (by rfl) ?_ | refine x_pickF (by rfl) (by rfl) (by rfl) ?_ | refine x_add (by rfl) (by rfl) (by rfl) (by omega) ?_ | refine x_sub (by rfl) (by rfl) (by rfl) (by omega) ?_ | refine x_not (by rfl) (by rfl) ?_)
    refine w_load (by rfl) (by rfl) (load_agg (xs := o.e.cells) AggT.h h3 (by rfl) (by rfl)) ?_
    refine w_call (by rfl) (by rfl) (by rfl) (g_push o.e g0 ok hN) ?_
    rintro _ w1 ⟨rfl, sp1, N1, g1, hN1, u1, hin1⟩
    refine x_nilw ?_
    (repeat (first | with_reducible refine n_then ?_ | with_reducible refine n_block ?_ | with_reducible refine n_jump ?_))
    (repeat (first | refine swp_seq ?_ | refine swp_block ?_)); refine swp_region (by kernel_rfl) ?_
    repeat (first | refine x_move (by rfl) ?_ | refine x_as (by rfl) (by rfl) ?_ | refine x_skip (by rfl) ?_ | refine x_fld (by rfl) (by rfl) FldO.h ?_ | refine x_nilck (by rfl) (by rfl) ?_ | refine x_len (by rfl) (by rfl) ElOf.some ?_ | refine x_ext (by rfl) (by rfl) (by rfl) ?_ | refine x_pickT (by rfl) (by rfl) (by rfl) ?_ | refine x_pickF (by rfl) (by rfl) (by rfl) ?_ | refine x_add (by rfl) (by rfl) (by rfl) (by omega) ?_ | refine x_sub (by rfl) (by rfl) (by rfl) (by omega) ?_ | refine x_not (by rfl) (by rfl) ?_)
    refine x_nilw ?_
    refine swp_ret ?_; (repeat (first | with_reducible refine r_then ?_ | with_reducible refine r_block ?_ | with_reducible refine r_jump ?_))
    refine post1 rfl rfl ⟨_, rfl, sp1, N1, ?_, fun b hb => hb.elim, ?_, hN1, (u0.of _).trans u1, fun b hb => (hin1 b hb).imp id fun h => by omega, fun b hb => hb.elim⟩
    · rw [show o.tells g = [] by unfold Gop.tells; rw [if_neg (by omega), if_neg (by omega), if_neg (by omega)]]
      exact Own.nil _ _ _
    · rw [show o.goes g = g.push o.e by unfold Gop.goes; rw [if_pos k1]]
      exact g1
  (repeat (first | refine swp_seq ?_ | refine swp_block ?_)); refine swp_region (by kernel_rfl) ?_
  refine x_eqlF (by rfl) (by rfl) (by rfl) k1 ?_
  repeat (first | refine x_move (by rfl) ?_ | refine x_as (by rfl) (by rfl) ?_ | refine x_skip (by rfl) ?_ | refine x_fld (by rfl) (by rfl) FldO.h ?_ | refine x_nilck (by rfl) (by rfl) ?_ | refine x_len (by rfl) (by rfl) ElOf.some ?_ | refine x_ext (by rfl) (by rfl) (by rfl) ?_ | refine x_pickT (by rfl) (by rfl) (by rfl) ?_ | refine x_pickF (by rfl) (by rfl) (by rfl) ?_ | refine x_add (by rfl) (by rfl) (by rfl) (by omega) ?_ | refine x_sub (by rfl) (by rfl) (by rfl) (by omega) ?_ | refine x_not (by rfl) (by rfl) ?_)
  refine x_nilw ?_
  (repeat (first | refine swp_seq ?_ | refine swp_block ?_))
  refine swp_false (by rfl) ?_
  by_cases k2 : o.kd = 2
  · (repeat (first | refine swp_seq ?_ | refine swp_block ?_)); refine swp_region (by kernel_rfl) ?_
    refine x_eqlT (by rfl) (by rfl) (by rfl) k2 ?_
    repeat (first | refine x_move (by rfl) ?_ | refine x_as (by rfl) (by rfl) ?_ | refine x_skip (by rfl) ?_ | refine x_fld (by rfl) (by rfl) FldO.h ?_ | refine x_nilck (by rfl) (by rfl) ?_ | refine x_len (by rfl) (by rfl) ElOf.some ?_ | refine x_ext (by rfl) (by rfl) (by rfl) ?_ | refine x_pickT (by rfl) (by rfl) (by rfl) ?_ | refine x_pickF (by rfl) (by rfl) (by rfl) ?_ | refine x_add (by rfl) (by rfl) (by rfl) (by omega) ?_ | refine x_sub (by rfl) (by rfl) (by rfl) (by omega) ?_ | refine x_not (by rfl) (by rfl) ?_)
    refine x_nilw ?_
    (repeat (first | refine swp_seq ?_ | refine swp_block ?_))
    refine swp_true (by rfl) ?_
    (repeat (first | refine swp_seq ?_ | refine swp_block ?_)); refine swp_region (by kernel_rfl) ?_
    repeat (first | refine x_move (by rfl) ?_ | refine x_as (by rfl) (by rfl) ?_ | refine x_skip (by rfl) ?_ | refine x_fld (by rfl) (by rfl) FldO.h ?_ | refine x_nilck (by rfl) (by rfl) ?_ | refine x_len (by rfl) (by rfl) ElOf.some ?_ | refine x_ext (by rfl) (by rfl) (by rfl) ?_ | refine x_pickT (by rfl) (by rfl) (by rfl) ?_ | refine x_pickF (by rfl) (by rfl) (by rfl) ?_ | refine x_add (by rfl) (by rfl) (by rfl) (by omega) ?_ | refine x_sub (by rfl) (by rfl) (by rfl) (by omega) ?_ | refine x_not (by rfl) (by rfl) ?_)
    refine w_load (by rfl) (by rfl) (load_one (v := .int .i64 o.mark) OneT.h h3 (by rfl)) ?_
    refine w_call (by rfl) (by rfl) (by rfl) (g_advance o.mark g0 ok) ?_
    rintro _ w1 ⟨lv, rfl, own1, hn1, sp1, g1, u1, hin1⟩
    repeat (first | refine x_move (by rfl) ?_ | refine x_as (by rfl) (by rfl) ?_ | refine x_skip (by rfl) ?_ | refine x_fld (by rfl) (by rfl) FldO.h ?_ | refine x_nilck (by rfl) (by rfl) ?_ | refine x_len (by rfl) (by rfl) ElOf.some ?_ | refine x_ext (by rfl) (by rfl) (by rfl) ?_ | refine x_pickT (by rfl) (by rfl) (by rfl) ?_ | refine x_pickF (by rfl) (by rfl) (by rfl) ?_ | refine x_add (by rfl) (by rfl) (by rfl) (by omega) ?_ | refine x_sub (by rfl) (by rfl) (by rfl) (by omega) ?_ | refine x_not (by rfl) (by rfl) ?_)
    refine x_nilw ?_
    (repeat (first | refine swp_seq ?_ | refine swp_block ?_)); refine swp_region (by kernel_rfl) ?_
    repeat (first | refine x_move (by rfl) ?_ | refine x_as (by rfl) (by rfl) ?_ | refine x_skip (by rfl) ?_ | refine x_fld (by rfl) (by rfl) FldO.h ?_ | refine x_nilck (by rfl) (by rfl) ?_ | refine x_len (by rfl) (by rfl) ElOf.some ?_ | refine x_ext (by rfl) (by rfl) (by rfl) ?_ | refine x_pickT (by rfl) (by rfl) (by rfl) ?_ | refine x_pickF (by rfl) (by rfl) (by rfl) ?_ | refine x_add (by rfl) (by rfl) (by rfl) (by omega) ?_ | refine x_sub (by rfl) (by rfl) (by rfl) (by omega) ?_ | refine x_not (by rfl) (by rfl) ?_)
    refine x_nilw ?_
    refine swp_ret ?_; (repeat (first | with_reducible refine r_then ?_ | with_reducible refine r_block ?_ | with_reducible refine r_jump ?_))
    have e1 : o.tells g = g.told o.mark := by unfold Gop.tells; rw [if_pos k2]
    have e2 : o.goes g = g.adv o.mark := by unfold Gop.goes; rw [if_neg k1, if_pos k2]
    refine post1 rfl rfl ⟨_, rfl, sp1, N, by rw [e1]; exact own1, fun b hb => by have := hn1 b hb; omega, by rw [e2]; exact g1, by omega, (u0.of _).trans u1, fun b hb => .inl (hin1 b hb), fun b hb hg => by have := hn1 b hb; have := hft b (hin1 b hg); omega⟩
  (repeat (first | refine swp_seq ?_ | refine swp_block ?_)); refine swp_region (by kernel_rfl) ?_
  refine x_eqlF (by rfl) (by rfl) (by rfl) k2 ?_
  repeat (first | refine x_move (by rfl) ?_ | refine x_as (by rfl) (by rfl) ?_ | refine x_skip (by rfl) ?_ | refine x_fld (by rfl) (by rfl) FldO.h ?_ | refine x_nilck (by rfl) (by rfl) ?_ | refine x_len (by rfl) (by rfl) ElOf.some ?_ | refine x_ext (by rfl) (by rfl) (by rfl) ?_ | refine x_pickT (by rfl) (by rfl) (by rfl) ?_ | refine x_pickF (by rfl) (by rfl) (by rfl) ?_ | refine x_add (by rfl) (by rfl) (by rfl) (by omega) ?_ | refine x_sub (by rfl) (by rfl) (by rfl) (by omega) ?_ | refine x_not (by rfl) (by rfl) ?_)
  refine x_nilw ?_
  (repeat (first | refine swp_seq ?_ | refine swp_block ?_))
  refine swp_false (by rfl) ?_
  by_cases k3 : o.kd = 3
  · (repeat (first | refine swp_seq ?_ | refine swp_block ?_)); refine swp_region (by kernel_rfl) ?_
    refine x_eqlT (by rfl) (by rfl) (by rfl) k3 ?_
    repeat (first | refine x_move (by rfl) ?_ | refine x_as (by rfl) (by rfl) ?_ | refine x_skip (by rfl) ?_ | refine x_fld (by rfl) (by rfl) FldO.h ?_ | refine x_nilck (by rfl) (by rfl) ?_ | refine x_len (by rfl) (by rfl) ElOf.some ?_ | refine x_ext (by rfl) (by rfl) (by rfl) ?_ | refine x_pickT (by rfl) (by rfl) (by rfl) ?_ | refine x_pickF (by rfl) (by rfl) (by rfl) ?_ | refine x_add (by rfl) (by rfl) (by rfl) (by omega) ?_ | refine x_sub (by rfl) (by rfl) (by rfl) (by omega) ?_ | refine x_not (by rfl) (by rfl) ?_)
    refine x_nilw ?_
    (repeat (first | refine swp_seq ?_ | refine swp_block ?_))
    refine swp_true (by rfl) ?_
    (repeat (first | refine swp_seq ?_ | refine swp_block ?_)); refine swp_region (by kernel_rfl) ?_
    repeat (first | refine x_move (by rfl) ?_ | refine x_as (by rfl) (by rfl) ?_ | refine x_skip (by rfl) ?_ | refine x_fld (by rfl) (by rfl) FldO.h ?_ | refine x_nilck (by rfl) (by rfl) ?_ | refine x_len (by rfl) (by rfl) ElOf.some ?_ | refine x_ext (by rfl) (by rfl) (by rfl) ?_ | refine x_pickT (by rfl) (by rfl) (by rfl) ?_ | refine x_pickF (by rfl) (by rfl) (by rfl) ?_ | refine x_add (by rfl) (by rfl) (by rfl) (by omega) ?_ | refine x_sub (by rfl) (by rfl) (by rfl) (by omega) ?_ | refine x_not (by rfl) (by rfl) ?_)
    refine w_call (by rfl) (by rfl) (by rfl) (g_flush g0 ok) ?_
    rintro _ w1 ⟨lv, rfl, own1, hn1, sp1, g1, u1, hin1⟩
    repeat (first | refine x_move (by rfl) ?_ | refine x_as (by rfl) (by rfl) ?_ | refine x_skip (by rfl) ?_ | refine x_fld (by rfl) (by rfl) FldO.h ?_ | refine x_nilck (by rfl) (by rfl) ?_ | refine x_len (by rfl) (by rfl) ElOf.some ?_ | refine x_ext (by rfl) (by rfl) (by rfl) ?_ | refine x_pickT (by rfl) (by rfl) (by rfl) ?_ | refine x_pickF (by rfl) (by rfl) (by rfl) ?_ | refine x_add (by rfl) (by rfl) (by rfl) (by omega) ?_ | refine x_sub (by rfl) (by rfl) (by rfl) (by omega) ?_ | refine x_not (by rfl) (by rfl) ?_)
    refine x_nilw ?_
    (repeat (first | refine swp_seq ?_ | refine swp_block ?_)); refine swp_region (by kernel_rfl) ?_
    repeat (first | refine x_move (by rfl) ?_ | refine x_as (by rfl) (by rfl) ?_ | refine x_skip (by rfl) ?_ | refine x_fld (by rfl) (by rfl) FldO.h ?_ | refine x_nilck (by rfl) (by rfl) ?_ | refine x_len (by rfl) (by rfl) ElOf.some ?_ | refine x_ext (by rfl) (by rfl) (by rfl) ?_ | refine x_pickT (by rfl) (by rfl) (by rfl) ?_ | refine x_pickF (by rfl) (by rfl) (by rfl) ?_ | refine x_add (by rfl) (by rfl) (by rfl) (by omega) ?_ | refine x_sub (by rfl) (by rfl) (by rfl) (by omega) ?_ | refine x_not (by rfl) (by rfl) ?_)
    refine x_nilw ?_
    refine swp_ret ?_; (repeat (first | with_reducible refine r_then ?_ | with_reducible refine r_block ?_ | with_reducible refine r_jump ?_))
    have e1 : o.tells g = g.ftold := by unfold Gop.tells; rw [if_neg k2, if_pos k3]
    have e2 : o.goes g = g.flush := by unfold Gop.goes; rw [if_neg k1, if_neg k2, if_pos k3]
    refine post1 rfl rfl ⟨_, rfl, sp1, N, by rw [e1]; exact own1, fun b hb => by have := hn1 b hb; omega, by rw [e2]; exact g1, by omega, (u0.of _).trans u1, fun b hb => .inl (hin1 b hb), fun b hb hg => by have := hn1 b hb; have := hft b (hin1 b hg); omega⟩
  (repeat (first | refine swp_seq ?_ | refine swp_block ?_)); refine swp_region (by kernel_rfl) ?_
  refine x_eqlF (by rfl) (by rfl) (by rfl) k3 ?_
  repeat (first | refine x_move (by rfl) ?_ | refine x_as (by rfl) (by rfl) ?_ | refine x_skip (by rfl) ?_ | refine x_fld (by rfl) (by rfl) FldO.h ?_ | refine x_nilck (by rfl) (by rfl) ?_ | refine x_len (by rfl) (by rfl) ElOf.some ?_ | refine x_ext (by rfl) (by rfl) (by rfl) ?_ | refine x_pickT (by rfl) (by rfl) (by rfl) ?_ | refine x_pickF (by rfl) (by rfl) (by rfl) ?_ | refine x_add (by rfl) (by rfl) (by rfl) (by omega) ?_ | refine x_sub (by rfl) (by rfl) (by rfl) (by omega) ?_ | refine x_not (by rfl) (by rfl) ?_)
  refine x_nilw ?_
  (repeat (first | refine swp_seq ?_ | refine swp_block ?_))
  refine swp_false (by rfl) ?_
  have e2 : o.goes g = g := by unfold Gop.goes; rw [if_neg k1, if_neg k2, if_neg k3]
  by_cases k6 : o.kd = 6
  · (repeat (first | refine swp_seq ?_ | refine swp_block ?_)); refine swp_region (by kernel_rfl) ?_
    refine x_eqlT (by rfl) (by rfl) (by rfl) k6 ?_
    repeat (first | refine x_move (by rfl) ?_ | refine x_as (by rfl) (by rfl) ?_ | refine x_skip (by rfl) ?_ | refine x_fld (by rfl) (by rfl) FldO.h ?_ | refine x_nilck (by rfl) (by rfl) ?_ | refine x_len (by rfl) (by rfl) ElOf.some ?_ | refine x_ext (by rfl) (by rfl) (by rfl) ?_ | refine x_pickT (by rfl) (by rfl) (by rfl) ?_ | refine x_pickF (by rfl) (by rfl) (by rfl) ?_ | refine x_add (by rfl) (by rfl) (by rfl) (by omega) ?_ | refine x_sub (by rfl) (by rfl) (by rfl) (by omega) ?_ | refine x_not (by rfl) (by rfl) ?_)
    refine x_nilw ?_
    (repeat (first | refine swp_seq ?_ | refine swp_block ?_))
    refine swp_true (by rfl) ?_
    (repeat (first | refine swp_seq ?_ | refine swp_block ?_)); refine swp_region (by kernel_rfl) ?_
    repeat (first | refine x_move (by rfl) ?_ | refine x_as (by rfl) (by rfl) ?_ | refine x_skip (by rfl) ?_ | refine x_fld (by rfl) (by rfl) FldO.h ?_ | refine x_nilck (by rfl) (by rfl) ?_ | refine x_len (by rfl) (by rfl) ElOf.some ?_ | refine x_ext (by rfl) (by rfl) (by rfl) ?_ | refine x_pickT (by rfl) (by rfl) (by rfl) ?_ | refine x_pickF (by rfl) (by rfl) (by rfl) ?_ | refine x_add (by rfl) (by rfl) (by rfl) (by omega) ?_ | refine x_sub (by rfl) (by rfl) (by rfl) (by omega) ?_ | refine x_not (by rfl) (by rfl) ?_)
    refine w_call (by rfl) (by rfl) (by rfl) (g_held g0 hl) ?_
    rintro v1 w1 ⟨own1, hn1, u1⟩
    repeat (first | refine x_move (by rfl) ?_ | refine x_as (by rfl) (by rfl) ?_ | refine x_skip (by rfl) ?_ | refine x_fld (by rfl) (by rfl) FldO.h ?_ | refine x_nilck (by rfl) (by rfl) ?_ | refine x_len (by rfl) (by rfl) ElOf.some ?_ | refine x_ext (by rfl) (by rfl) (by rfl) ?_ | refine x_pickT (by rfl) (by rfl) (by rfl) ?_ | refine x_pickF (by rfl) (by rfl) (by rfl) ?_ | refine x_add (by rfl) (by rfl) (by rfl) (by omega) ?_ | refine x_sub (by rfl) (by rfl) (by rfl) (by omega) ?_ | refine x_not (by rfl) (by rfl) ?_)
    refine x_nilw ?_
    refine swp_ret ?_; (repeat (first | with_reducible refine r_then ?_ | with_reducible refine r_block ?_ | with_reducible refine r_jump ?_))
    have e1 : o.tells g = g.S := by unfold Gop.tells; rw [if_neg k2, if_neg k3, if_pos k6]
    refine post1 rfl rfl ⟨_, rfl, sp, N, by rw [e1]; exact own1, fun b hb => by have := hn1 b hb; omega, by rw [e2]; exact g0.at u1, by omega, (u0.trans u1).of _, fun b hb => .inl hb, fun b hb hg => by have := hn1 b hb; have := hft b hg; omega⟩
  (repeat (first | refine swp_seq ?_ | refine swp_block ?_)); refine swp_region (by kernel_rfl) ?_
  refine x_eqlF (by rfl) (by rfl) (by rfl) k6 ?_
  repeat (first | refine x_move (by rfl) ?_ | refine x_as (by rfl) (by rfl) ?_ | refine x_skip (by rfl) ?_ | refine x_fld (by rfl) (by rfl) FldO.h ?_ | refine x_nilck (by rfl) (by rfl) ?_ | refine x_len (by rfl) (by rfl) ElOf.some ?_ | refine x_ext (by rfl) (by rfl) (by rfl) ?_ | refine x_pickT (by rfl) (by rfl) (by rfl) ?_ | refine x_pickF (by rfl) (by rfl) (by rfl) ?_ | refine x_add (by rfl) (by rfl) (by rfl) (by omega) ?_ | refine x_sub (by rfl) (by rfl) (by rfl) (by omega) ?_ | refine x_not (by rfl) (by rfl) ?_)
  refine x_nilw ?_
  (repeat (first | refine swp_seq ?_ | refine swp_block ?_))
  refine swp_false (by rfl) (swp_skip ?_)
  (repeat (first | with_reducible refine n_then ?_ | with_reducible refine n_block ?_ | with_reducible refine n_jump ?_))
  (repeat (first | refine swp_seq ?_ | refine swp_block ?_)); refine swp_region (by kernel_rfl) ?_
  repeat (first | refine x_move (by rfl) ?_ | refine x_as (by rfl) (by rfl) ?_ | refine x_skip (by rfl) ?_ | refine x_fld (by rfl) (by rfl) FldO.h ?_ | refine x_nilck (by rfl) (by rfl) ?_ | refine x_len (by rfl) (by rfl) ElOf.some ?_ | refine x_ext (by rfl) (by rfl) (by rfl) ?_ | refine x_pickT (by rfl) (by rfl) (by rfl) ?_ | refine x_pickF (by rfl) (by rfl) (by rfl) ?_ | refine x_add (by rfl) (by rfl) (by rfl) (by omega) ?_ | refine x_sub (by rfl) (by rfl) (by rfl) (by omega) ?_ | refine x_not (by rfl) (by rfl) ?_)
  refine x_nilw ?_
  refine swp_ret ?_; (repeat (first | with_reducible refine r_then ?_ | with_reducible refine r_block ?_ | with_reducible refine r_jump ?_))
  refine post1 rfl rfl ⟨_, rfl, sp, N, ?_, fun b hb => hb.elim, by rw [e2]; exact g0, by omega, u0.of _, fun b hb => .inl hb, fun b hb => hb.elim⟩
  rw [show o.tells g = [] by unfold Gop.tells; rw [if_neg k2, if_neg k3, if_neg k6]]
  exact Own.nil _ _ _

set_option maxHeartbeats 2000000 in
set_option maxRecDepth 100000 in
theorem marked_ {w : World} {v : Value} {L : List Ev} (n : Nat) (h : Own w 30 11 v L.length (fl Ev.cells L)) (hl : L.length ≤ 4096) : Gets Try.prog 27 [v, .int .i64 n] w fun rv w' =>
    ∃ gv, rv = .agg [v, gv].toArray ∧ Twin w' v gv (marks n L.length) (marks n (L.length + 1)) ∧ Upd (isIn v) w w' ∧ ∀ b, isIn gv b → isIn v b ∨ w.heap.size ≤ b := by
  have hlt : ∀ b, isIn v b → b < w.heap.size := fun b hb => h.lt hb
  obtain ⟨va, vc, hv⟩ := h.slice
  refine ⟨GoFn.h, calls_of_swp 29 Try.func27 Try.ntmps27 rfl (Nat.le_of_ble_eq_true rfl) ?_⟩
  (repeat (first | refine swp_seq ?_ | refine swp_block ?_)); refine swp_region (by kernel_rfl) ?_
  refine w_alloc (by rfl) (by rfl) ZeroT.h ?_; intro b4 w1 e1 u1 h4
  refine x_nilw ?_
  replace h4 : Blk w1 b4 63 [.slice none 0 0, .slice none 0 0] := h4
  have s1 := u1.size
  (repeat (first | refine swp_seq ?_ | refine swp_block ?_)); refine swp_region (by kernel_rfl) ?_
  repeat (first | refine x_move (by rfl) ?_ | refine x_as (by rfl) (by rfl) ?_ | refine x_skip (by rfl) ?_ | refine x_fld (by rfl) (by rfl) FldO.h ?_ | refine x_nilck (by rfl) (by rfl) ?_ | refine x_len (by rfl) (by rfl) ElOf.some ?_ | refine x_ext (by rfl) (by rfl) (by rfl) ?_ | refine x_pickT (by rfl) (by rfl) (by rfl) ?_ | refine x_pickF (by rfl) (by rfl) (by rfl) ?_ | refine x_add (by rfl) (by rfl) (by rfl) (by omega) ?_ | refine x_sub (by rfl) (by rfl) (by rfl) (by omega) ?_ | refine x_not (by rfl) (by rfl) ?_)
  refine x_nilw ?_
  refine swp_fit [(0, v), (1, .int .i64 n), (4, .pointer (some ⟨b4, 0, none⟩)), (5, .int .i64 ((0 : Nat) : Int))] ⟨rfl, rfl, rfl, rfl, trivial⟩ fun ρ => ?_
  (repeat (first | refine swp_seq ?_ | refine swp_block ?_))
  refine swp_loop (fun (i : Nat) σ w' => At σ [(0, v), (1, .int .i64 n), (4, .pointer (some ⟨b4, 0, none⟩)), (5, .int .i64 (i : Nat))] ∧ i ≤ L.length ∧ Own w' 30 11 v L.length (fl Ev.cells (marks n i ++ L.drop i)) ∧ Blk w' b4 63 [.slice none 0 0, .slice none 0 0] ∧ Upd (isIn v) w w' ∧ w1.heap.size ≤ w'.heap.size) (fun i => L.length - i) 0 ⟨at_ ⟨rfl, rfl, rfl, rfl, trivial⟩, by omega, h.at u1, h4, u1.of _, Nat.le_refl _⟩ ?_
  rintro i σ w2 ⟨⟨ρ, rfl⟩, hi, own2, h4, u2, s2⟩
  subst hv
  (repeat (first | refine swp_seq ?_ | refine swp_block ?_)); refine swp_region (by kernel_rfl) ?_
  repeat (first | refine x_move (by rfl) ?_ | refine x_as (by rfl) (by rfl) ?_ | refine x_skip (by rfl) ?_ | refine x_fld (by rfl) (by rfl) FldO.h ?_ | refine w_load (by rfl) (by rfl) (load_one OneT.h (by assumption) (by rfl)) ?_ | refine x_nilck (by rfl) (by rfl) ?_ | refine x_len (by rfl) (by rfl) ElOf.some ?_ | refine x_iface (by rfl) (by rfl) NIf.h ?_ | refine x_ext (by rfl) (by rfl) (by rfl) ?_ | refine x_pickT (by rfl) (by rfl) (by rfl) ?_ | refine x_pickF (by rfl) (by rfl) (by rfl) ?_ | refine x_add (by rfl) (by rfl) (by rfl) (by omega) ?_ | refine x_sub (by rfl) (by rfl) (by rfl) (by omega) ?_ | refine x_lss (by rfl) (by rfl) (by rfl) ?_ | refine x_geq (by rfl) (by rfl) (by rfl) ?_ | refine x_leq (by rfl) (by rfl) (by rfl) ?_ | refine x_gtr (by rfl) (by rfl) (by rfl) ?_ | refine x_eql (by rfl) (by rfl) (by rfl) ?_ | refine x_neq (by rfl) (by rfl) (by rfl) ?_ | refine x_not (by rfl) (by rfl) ?_)
  refine x_nilw ?_
  (repeat (first | refine swp_seq ?_ | refine swp_block ?_))
  refine swp_if (by rfl) (fun hc => swp_skip ?_) (fun hc => ?_)
  · have hi' : i < L.length := by omega
    have hlen : (marks n i ++ L.drop i).length = L.length := by rw [List.length_append, marks_len, List.length_drop]; omega
    obtain ⟨g, cap, R, he, hb, hc1, hc2, hc3⟩ := own2.pos (by omega)
    simp only [Value.slice.injEq] at he
    obtain ⟨rfl, _, rfl⟩ := he
    have hlb : (fl Ev.cells (marks n i ++ L.drop i)).length = L.length * 11 := by rw [fl_length ev_len, hlen]
    (repeat (first | with_reducible refine n_then ?_ | with_reducible refine n_block ?_ | with_reducible refine n_jump ?_))
    (repeat (first | refine swp_seq ?_ | refine swp_block ?_)); refine swp_region (by kernel_rfl) ?_
    repeat (first | refine x_move (by rfl) ?_ | refine x_as (by rfl) (by rfl) ?_ | refine x_skip (by rfl) ?_ | refine x_fld (by rfl) (by rfl) FldO.h ?_ | refine x_nilck (by rfl) (by rfl) ?_ | refine x_len (by rfl) (by rfl) ElOf.some ?_ | refine x_ext (by rfl) (by rfl) (by rfl) ?_ | refine x_pickT (by rfl) (by rfl) (by rfl) ?_ | refine x_pickF (by rfl) (by rfl) (by rfl) ?_ | refine x_add (by rfl) (by rfl) (by rfl) (by omega) ?_ | refine x_sub (by rfl) (by rfl) (by rfl) (by omega) ?_ | refine x_not (by rfl) (by rfl) ?_)
    refine x_convU (by kernel_rfl) (by kernel_rfl) (by rfl) (by rfl) ⟨by omega, by omega⟩ ?_
    refine x_build (v := (mk n (i : Nat)).v) (by rfl) (by rfl) (fun _ => by kernel_rfl) ?_
    refine x_idx i (by rfl) (by rfl) (by rfl) ElSz.h rfl hi' ?_
    refine w_store (xs := (mk n (i : Nat)).cells) (by rfl) (by rfl) (by rfl) (by rfl) SzT.h (by rfl) (by rfl) hb (by rw [List.length_append, hlb]; omega) ?_
    intro w3 u3 hb3 s3
    refine x_nilw ?_
    (repeat (first | with_reducible refine n_then ?_ | with_reducible refine n_block ?_ | with_reducible refine n_jump ?_))
    (repeat (first | refine swp_seq ?_ | refine swp_block ?_)); refine swp_region (by kernel_rfl) ?_
    repeat (first | refine x_move (by rfl) ?_ | refine x_as (by rfl) (by rfl) ?_ | refine x_skip (by rfl) ?_ | refine x_fld (by rfl) (by rfl) FldO.h ?_ | refine w_load (by rfl) (by rfl) (load_one OneT.h (by assumption) (by rfl)) ?_ | refine x_nilck (by rfl) (by rfl) ?_ | refine x_len (by rfl) (by rfl) ElOf.some ?_ | refine x_iface (by rfl) (by rfl) NIf.h ?_ | refine x_ext (by rfl) (by rfl) (by rfl) ?_ | refine x_pickT (by rfl) (by rfl) (by rfl) ?_ | refine x_pickF (by rfl) (by rfl) (by rfl) ?_ | refine x_add (by rfl) (by rfl) (by rfl) (by omega) ?_ | refine x_sub (by rfl) (by rfl) (by rfl) (by omega) ?_ | refine x_lss (by rfl) (by rfl) (by rfl) ?_ | refine x_geq (by rfl) (by rfl) (by rfl) ?_ | refine x_leq (by rfl) (by rfl) (by rfl) ?_ | refine x_gtr (by rfl) (by rfl) (by rfl) ?_ | refine x_eql (by rfl) (by rfl) (by rfl) ?_ | refine x_neq (by rfl) (by rfl) (by rfl) ?_ | refine x_not (by rfl) (by rfl) ?_)
    refine x_nilw ?_
    have own3 : Own w3 30 11 (.slice (some ⟨g, 0, none⟩) (marks n i ++ L.drop i).length vc) (marks n i ++ L.drop i).length (fl Ev.cells ((marks n i ++ L.drop i).set i (mk n (i : Nat)))) := own_put ev_len hb3 (by rw [hlen]; exact hi') (by omega) (by rw [hlen]; exact hc1) hc2 hc3
    rw [hlen, marks_set hi'] at own3
    exact ⟨i + 1, ⟨at_ ⟨rfl, rfl, rfl, rfl, trivial⟩, hi', own3, h4.get u3 fun e => by have := hlt g rfl; omega, u2.trans (u3.mono fun b e => e), by omega⟩, by omega⟩
  · have hin : i = L.length := by omega
    subst hin
    rw [List.drop_length, List.append_nil] at own2
    have s2' := u2.size
    refine swp_exit ?_; (repeat (first | with_reducible refine e_then ?_ | with_reducible refine e_jump ?_)); refine e_block ?_; (repeat (first | with_reducible refine n_then ?_ | with_reducible refine n_block ?_ | with_reducible refine n_jump ?_))
    (repeat (first | refine swp_seq ?_ | refine swp_block ?_)); refine swp_region (by kernel_rfl) ?_
    repeat (first | refine x_move (by rfl) ?_ | refine x_as (by rfl) (by rfl) ?_ | refine x_skip (by rfl) ?_ | refine x_fld (by rfl) (by rfl) FldO.h ?_ | refine x_nilck (by rfl) (by rfl) ?_ | refine x_len (by rfl) (by rfl) ElOf.some ?_ | refine x_ext (by rfl) (by rfl) (by rfl) ?_ | refine x_pickT (by rfl) (by rfl) (by rfl) ?_ | refine x_pickF (by rfl) (by rfl) (by rfl) ?_ | refine x_add (by rfl) (by rfl) (by rfl) (by omega) ?_ | refine x_sub (by rfl) (by rfl) (by rfl) (by omega) ?_ | refine x_not (by rfl) (by rfl) ?_)
    refine x_convU (by kernel_rfl) (by kernel_rfl) (by rfl) (by rfl) ⟨by omega, by omega⟩ ?_
    refine x_build (v := (mk n (L.length : Nat)).v) (by rfl) (by rfl) (fun _ => by kernel_rfl) ?_
    refine w_bslice (e := 30) (cs := (mk n (L.length : Nat)).cells) (by rfl) (by rfl) (by rfl) (by kernel_rfl) ?_
    intro b6 w3 e3 u3 h6
    have own3 := own2.at u3
    refine w_append2 (more := []) (news := (mk n (L.length : Nat)).cells) (by rfl) (by rfl) (by rfl) (by rfl) SlC.h own3 (by rw [List.append_nil]; exact h6) (by rfl) (by rfl) (by omega) (room88 (by omega)) ?_
    intro gv w4 own4 hc4
    refine x_build (v := .agg [.slice va L.length vc, gv].toArray) (by rfl) (by rfl) (fun _ => ?_) ?_
    · obtain ⟨ga, gc, rfl⟩ := own4.slice
      kernel_rfl
    have s3 := u3.size
    have h4' : Blk w4 b4 63 [.slice none 0 0, .slice none 0 0] := by
      rcases hc4 with ⟨u4, _⟩ | ⟨u4, _⟩
      · exact (h4.at u3).get u4 fun hb => by have := hlt _ hb; omega
      · exact (h4.at u3).at u4
    have u24 : Upd (isIn (.slice va L.length vc)) w2 w4 := by
      rcases hc4 with ⟨u4, _⟩ | ⟨u4, _⟩
      · exact (u3.of _).trans u4
      · exact (u3.trans u4).of _
    have s4 := u24.size
    refine w_store (xs := [.slice va L.length vc, gv]) (by rfl) (by rfl) (by rfl) (by rfl) SzT.h (by rfl) (by
      obtain ⟨ga, gc, rfl⟩ := own4.slice
      rfl) h4' (by simp) ?_
    intro w5 u5 h5 _
    refine x_nilw ?_
    refine swp_ret ?_; (repeat (first | with_reducible refine r_then ?_ | with_reducible refine r_block ?_ | with_reducible refine r_jump ?_))
    replace h5 : Blk w5 b4 63 [.slice va L.length vc, gv] := h5
    refine postC1 rfl rfl (load_agg (xs := [.slice va L.length vc, gv]) AggT.h h5 (by rfl) (by rfl)) ⟨_, rfl, gv, rfl, ?_, (u2.trans u24).trans' u5 fun b hb e => by have e' : b = b4 := e; omega, fun b hb => ?_⟩
    · have t0 : Twin w3 (.slice va L.length vc) (.slice va L.length vc) (marks n L.length) (marks n L.length) := Twin.of (by rw [marks_len]; exact own3)
      have t1 := t0.grow (N := [mk n (L.length : Nat)]) (by rw [marks_len, fl_one]; exact own4) (by simp) hc4
      rw [← marks_succ] at t1
      refine t1.get u5 fun b hb e => ?_
      have e' : b = b4 := e
      subst e'
      rcases hb with hb | hb
      · have := hlt _ hb; omega
      · rcases hc4 with ⟨_, hin⟩ | ⟨_, hin⟩
        · have := hlt _ (hin _ hb); omega
        · have := hin _ hb; have := h4.lt; omega
    · rcases hc4 with ⟨_, hin⟩ | ⟨_, hin⟩
      · exact .inl (hin b hb)
      · have := hin b hb
        exact .inr (by omega)
end Go.Proofs.Ytnhecopgecoloaa
