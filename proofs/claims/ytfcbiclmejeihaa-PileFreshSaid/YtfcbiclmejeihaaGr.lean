/- Appending where the old list stays in use. Conditions: room. -/
import Derived.Test.YtfcbiclmejeihaaMEv
import Derived.Test.YtfcbiclmejeihaaW4
namespace Go.Proofs.Ytfcbiclmejeihaa
open Hp Sx
section
variable {P : Program}
/-- append, told apart: in its place, or in a new one. -/
theorem run_append2 {w : World} {t ty e : TypeId} {i : TypeInfo} {z : Value} {sz : Nat} (ht : P.underlying t = some (.slice e)) (hi : P.info? e = some i) (hz : i.zero = some z) (hsz : i.size = sz) (hzs : z.cells.size = sz)
    {sv : Value} {n : Nat} {xs : List Value} (hown : Own w e sz sv n xs) {a : Addr} {m c : Nat} {news : List Value} (hl : news.length = m * sz) (hnews : ∀ j u, news[j]? = some u → w.cell? (a.add j) = some u) (h1 : ∀ u ∈ news, u.oneCell' = true) (hm : 0 < m)
    (hr : Room (n + m) i.bytes) :
    ∃ sv' w', (Builtin.append_ #[t, t] ty #[sv, .slice (some a) m c]).run P w = .ok sv' w' ∧ Own w' e sz sv' (n + m) (xs ++ news) ∧ ((Upd (isIn sv) w w' ∧ ∀ b, isIn sv' b → isIn sv b) ∨ (Ext w w' ∧ ∀ b, isIn sv' b → w.heap.size ≤ b)) := by
  subst hsz
  have hlen : (xs ++ news).length = (n + m) * i.size := by rw [List.length_append, hown.1, hl, Nat.add_mul]
  have hmax : n + m ≤ maxLen := by have := hr.1; simp only [maxLen]; omega
  have hfit : ∀ old, old < n + m → Builtin.nextslicecap (n + m) old * i.bytes ≤ 281474976710656 := fun old ho => Nat.le_trans (Nat.mul_le_mul_right _ (nextslicecap_fine ho)) hr.2
  have grown : ∀ (old : Nat), old < n + m →
      Own (w.drew.alloc (.cells (xs.toArray ++ news.toArray ++ Builtin.zeroCells z.cells (grownCap w (n + m) old e - (n + m))) e)) e i.size (.slice (some ⟨w.heap.size, 0, none⟩) (n + m) (grownCap w (n + m) old e)) (n + m) (xs ++ news) := by
    intro old ho
    have hge := grownCap_ge w (n + m) old e
    refine Own.of (rest := (Builtin.zeroCells z.cells (grownCap w (n + m) old e - (n + m))).toList) hlen ?_ hge (grownCap_le_maxLen w (n + m) old e hmax) ?_
    · have h := heap_alloc_new w.drew (.cells (xs.toArray ++ news.toArray ++ Builtin.zeroCells z.cells (grownCap w (n + m) old e - (n + m))) e)
      unfold Blk
      refine Eq.trans h ?_
      congr 2
      apply Array.ext'
      simp
    · rw [List.length_append, hlen, Array.length_toList, size_zeroCells, hzs, ← Nat.add_mul]
      congr 1
      omega
  have uext : ∀ o : Obj, Ext w (w.drew.alloc o) := fun o => (ext_drew w).trans (ext_alloc _ o)
  rcases hown.2 with ⟨rfl, rfl⟩ | ⟨g, cap, rest, rfl, hg, hnc, hcm, hcs⟩
  · have hx : xs = [] := List.eq_nil_of_length_eq_zero (by simpa using hown.1)
    subst hx
    have hr' := run_append_nil (P := P) w t ty e i z ht hi hz a m c news hl hnews hm (by have := hr.1; omega) (by
      have h := hr.2
      have : (0 + m) * i.bytes ≤ (0 + m + (0 + m) / 4 + 512) * i.bytes := Nat.mul_le_mul_right _ (by omega)
      simp only [Nat.zero_add] at this h
      omega)
    have hgr := grown 0 (by omega)
    simp only [Nat.zero_add, List.nil_append, Array.empty_append] at hgr ⊢
    exact ⟨_, _, hr', hgr, .inr ⟨uext _, fun b hb => by have : b = w.heap.size := hb; omega⟩⟩
  · by_cases hroom : n + m ≤ cap
    · have hlr := hcs
      rw [List.length_append] at hlr
      have hge : (n + m) * i.size ≤ cap * i.size := Nat.mul_le_mul_right _ hroom
      have hx1 := hown.1
      have hfit' : n * i.size + news.length ≤ (xs ++ rest).toArray.size := by rw [hl, ← Nat.add_mul]; simpa using (by omega : (n + m) * i.size ≤ xs.length + rest.length)
      have hr' := run_append_room (P := P) w t ty e i ht hi g n cap (xs ++ rest).toArray hg a m c news hl hnews h1 hroom hfit'
      refine ⟨_, _, hr', ?_, .inl ⟨(upd_setRow w g _).mono (fun b hb => hb), fun b hb => hb⟩⟩
      have e1 : ((xs ++ rest).toArray.toList.take (n * i.size) ++ news ++ (xs ++ rest).toArray.toList.drop (n * i.size + news.length)) = (xs ++ news) ++ rest.drop news.length := by
        simp only []
        rw [List.take_append_of_le_length (by omega), List.take_of_length_le (by omega), List.drop_append, List.drop_eq_nil_of_le (by omega), List.nil_append]
        congr 2
        omega
      rw [e1]
      refine Own.of hlen (blk_setRow hg) hroom hcm ?_
      rw [List.length_append, hlen, List.length_drop, hl]
      rw [Nat.add_mul] at hge ⊢
      omega
    · have holds : ∀ j u, xs[j]? = some u → w.cell? ((⟨g, 0, none⟩ : Addr).add j) = some u := fun j u hu => by
        rw [Addr.add_lit]
        refine hg.cell ?_
        rw [Nat.zero_add, List.getElem?_append_left (List.getElem?_eq_some_iff.1 hu).1]
        exact hu
      have hr' := run_append_grow (P := P) w t ty e i z ht hi hz ⟨g, 0, none⟩ n cap xs hown.1 holds a m c news hl hnews (by omega) (by have := hr.1; omega) (hfit cap (by omega))
      exact ⟨_, _, hr', grown cap (by omega), .inr ⟨uext _, fun b hb => by have : b = w.heap.size := hb; omega⟩⟩


end
section
variable {dr : Bool} {P : Program} {ops : Array Oper} {W : List Nat} {Q : Fr → World → Prop} {k : Nat} {rest : List Oper} {σ : Fr} {C : World → Prop} {w : World}
variable {d : Nat} {ty : TypeId} {pos : String} {after : Array Edge} {guard : Option (Nat × Bool)}
theorem w_append2 {t e sz bytes : Nat} {x y : Operand} {sv : Value} {n m c b : Nat} {xs news more : List Value} (hW : isW dr W k (.call ⟨.builtin .append, #[x, y], #[t, t]⟩) = true) (hw : wantS ops σ ⟨some d, .call ⟨.builtin .append, #[x, y], #[t, t]⟩, ty, pos, after, guard⟩ = true)
    (hx : ev σ x = sv) (hy : ev σ y = .slice (some ⟨b, 0, none⟩) m c) (ht : slT P t = some (e, sz, bytes)) (hown : Own w e sz sv n xs) {t' : TypeId} (hb : Blk w b t' (news ++ more)) (hl : news.length = m * sz) (h1 : news.all Value.oneCell' = true) (hm : 0 < m) (hr : Room (n + m) bytes)
    (h : ∀ sv' w', Own w' e sz sv' (n + m) (xs ++ news) → ((Upd (isIn sv) w w' ∧ ∀ b, isIn sv' b → isIn sv b) ∨ (Ext w w' ∧ ∀ b, isIn sv' b → w.heap.size ≤ b)) → xw dr P ops W Q (k + 1) rest (upd σ d sv') (Eq w')) : xw dr P ops W Q k (⟨some d, .call ⟨.builtin .append, #[x, y], #[t, t]⟩, ty, pos, after, guard⟩ :: rest) σ (Eq w) := by
  obtain ⟨hu, i, z, hi, hz, hsz, hzs, hby⟩ := slT_spec ht
  subst hby
  obtain ⟨sv', w', hrun, h2, h3⟩ := run_append2 (P := P) (ty := ty) hu hi hz hsz hzs hown hl (fun j u hu => by
    rw [Addr.add_lit, Nat.zero_add]
    exact hb.cell (by rw [List.getElem?_append_left (List.getElem?_eq_some_iff.1 hu).1]; exact hu)) (List.all_eq_true.1 h1) hm hr (a := ⟨b, 0, none⟩) (c := c)
  refine x_w hw rfl hW ?_
  unfold stepsTo
  simp only [execOp, resolve, invoke, builtin, Sem.run_bind, Sem.run_pure, Result.andThen_ok, List.map_toArray, List.map_cons, List.map_nil, hx, hy, hrun]
  exact h sv' w' h2 h3
theorem x_neqB {t t' : TypeId} {a b : Bool} {x y : Operand} (hu : P.underlying t = some .bool) (hw : wantS ops σ ⟨some d, .binOp .neq t x y t', ty, pos, after, guard⟩ = true) (hx : ev σ x = .bool a) (hy : ev σ y = .bool b)
    (h : xw dr P ops W Q (k + 1) rest (upd σ d (.bool (!(a == b)))) C) : xw dr P ops W Q k (⟨some d, .binOp .neq t x y t', ty, pos, after, guard⟩ :: rest) σ C :=
  x_p hw rfl (fun w => by
    have e3 : eqGuard .neq t x y (.bool a) (.bool b) = pure () := rfl
    have e4 : (binOp .neq t (.bool a) (.bool b)).run P w = .ok (.bool (!(a == b))) w := by
      have := run_eql_bool w t a b hu
      simp only [binOp] at this ⊢
      simp only [Sem.run_bind, Sem.run_pure, Result.andThen] at this ⊢
      generalize Sem.run P (Op.equal t (.bool a) (.bool b)) w = r at this ⊢
      cases r with
      | ok v w2 =>
        simp only [Result.ok.injEq, Value.bool.injEq] at this ⊢
        obtain ⟨rfl, rfl⟩ := this
        exact ⟨rfl, rfl⟩
      | halt h w2 => cases this
    simp only [execOp, hx, hy, e3, e4, Sem.run_bind, Sem.run_pure, Result.andThen_ok]) h
end

/-- A list that was grown into another, and stays in use: what each reads. -/
structure Grown (w : World) (av gv : Value) (n m : Nat) (X news : List Ev) : Prop where
  len : X.length = n
  sl : ∃ a c, av = .slice a n c
  g : ∃ b2 c2 Z R, gv = .slice (some ⟨b2, 0, none⟩) (n + m) c2 ∧ Blk w b2 30 (fl Ev.cells Z ++ (fl Ev.cells news ++ R)) ∧ Z.length = n
  a : n = 0 ∨ ∃ b c R, av = .slice (some ⟨b, 0, none⟩) n c ∧ Blk w b 30 (fl Ev.cells X ++ R)
/-- where both lie -/
def gfeet (av gv : Value) (b : Nat) : Prop := isIn av b ∨ isIn gv b
theorem Grown.get {F : Nat → Prop} {w w' : World} {av gv : Value} {n m : Nat} {X news : List Ev} (h : Grown w av gv n m X news) (u : Upd F w w') (hn : ∀ b, gfeet av gv b → ¬ F b) : Grown w' av gv n m X news := by
  obtain ⟨h1, h2, ⟨b2, c2, Z, R, rfl, hb, hZ⟩, h4⟩ := h
  refine ⟨h1, h2, ⟨b2, c2, Z, R, rfl, hb.get u (hn b2 (.inr rfl)), hZ⟩, ?_⟩
  rcases h4 with h4 | ⟨b, c, R', rfl, hb'⟩
  · exact .inl h4
  · exact .inr ⟨b, c, R', rfl, hb'.get u (hn b (.inl rfl))⟩
theorem Grown.at {w w' : World} {av gv : Value} {n m : Nat} {X news : List Ev} (h : Grown w av gv n m X news) (u : Ext w w') : Grown w' av gv n m X news := h.get u fun _ _ h => h
theorem Grown.rd {w : World} {av gv : Value} {n m : Nat} {X news : List Ev} (h : Grown w av gv n m X news) : Rd w 11 av X.length (fl Ev.cells X) := by
  obtain ⟨rfl, ⟨a, c, rfl⟩, _, h4⟩ := h
  refine ⟨by rw [fl_length ev_len], a, c, rfl, fun hn => ?_⟩
  rcases h4 with h4 | ⟨b, c', R', he, hb'⟩
  · omega
  · simp only [Value.slice.injEq] at he
    obtain ⟨rfl, _, rfl⟩ := he
    refine ⟨b, 0, rfl, hb'.lt, fun j v hj => hb'.cell ?_⟩
    rw [Nat.zero_add, List.getElem?_append_left (List.getElem?_eq_some_iff.1 hj).1]
    exact hj
/-- the grown list's tail -/
theorem Grown.tail {w : World} {av gv : Value} {n m : Nat} {X news : List Ev} (h : Grown w av gv n m X news) : ∃ b2 c2, gv = .slice (some ⟨b2, 0, none⟩) (n + m) c2 ∧ ∀ (j k o : Nat) (x : Ev) (v : Value), news[j]? = some x → x.cells[k]? = some v → o = 0 + (n + j) * 11 + k → w.cell? ⟨b2, o, none⟩ = some v := by
  obtain ⟨_, _, ⟨b2, c2, Z, R, rfl, hb, hZ⟩, _⟩ := h
  refine ⟨b2, c2, rfl, fun j k o x v hj hv ho => hb.cell ?_⟩
  have hl : (fl Ev.cells Z).length = n * 11 := by rw [fl_length ev_len, hZ]
  rw [List.getElem?_append_right (by omega)]
  exact fl_cell (i := j) (j := k) ev_len hj hv (by omega) R
theorem grown_of {w w' : World} {av gv : Value} {n m : Nat} {X news : List Ev} (hl : X.length = n) (h : Own w 30 11 av n (fl Ev.cells X)) (h' : Own w' 30 11 gv (n + m) (fl Ev.cells X ++ fl Ev.cells news)) (hm : 0 < m)
    (hc : (Upd (isIn av) w w' ∧ ∀ b, isIn gv b → isIn av b) ∨ (Ext w w' ∧ ∀ b, isIn gv b → w.heap.size ≤ b)) : Grown w' av gv n m X news := by
  refine ⟨hl, h.slice, ?_, ?_⟩
  · rcases h'.2 with ⟨_, h0⟩ | ⟨g, cap, rest, rfl, hb, _⟩
    · omega
    · exact ⟨g, cap, X, rest, rfl, by rw [← List.append_assoc]; exact hb, hl⟩
  · rcases h.2 with ⟨_, h0⟩ | ⟨g, cap, rest, rfl, hb, _⟩
    · exact .inl h0
    · refine .inr ?_
      rcases hc with ⟨_, hin⟩ | ⟨u, _⟩
      · rcases h'.2 with ⟨_, h0⟩ | ⟨g', cap', rest', rfl, hb', _⟩
        · omega
        · obtain rfl : g' = g := hin g' rfl
          exact ⟨g', cap, fl Ev.cells news ++ rest', rfl, by rw [← List.append_assoc]; exact hb'⟩
      · exact ⟨g, cap, rest, rfl, hb.at u⟩
/-- A thing of the first is written over. -/
theorem Grown.store {w w' : World} {b c : Nat} {gv : Value} {n m i o : Nat} {X news : List Ev} {x : Ev} {R : List Value} (h : Grown w (.slice (some ⟨b, 0, none⟩) n c) gv n m X news) (hi : i < n) (hb : Blk w b 30 (fl Ev.cells X ++ R)) (ho : o = i * 11)
    (hb' : Blk w' b 30 (put1 (fl Ev.cells X ++ R) o x.cells)) (u : Upd (fun g => g = b) w w') : Grown w' (.slice (some ⟨b, 0, none⟩) n c) gv n m (X.set i x) news := by
  obtain ⟨hl, hs, ⟨b2, c2, Z, R2, rfl, hg, hZ⟩, _⟩ := h
  rw [fl_set ev_len (by omega) ho] at hb'
  refine ⟨by simpa using hl, hs, ?_, .inr ⟨b, c, R, rfl, hb'⟩⟩
  by_cases e : b2 = b
  · subst e
    have he := (hb.inj hg).1
    have hl2 : (fl Ev.cells X).length = (fl Ev.cells Z).length := by rw [fl_length ev_len, fl_length ev_len, hl, hZ]
    obtain ⟨_, rfl⟩ := List.append_inj he hl2
    exact ⟨b2, c2, _, R2, rfl, hb', by simpa using hl⟩
  · exact ⟨b2, c2, Z, R2, rfl, hg.get u e, hZ⟩
end Go.Proofs.Ytfcbiclmejeihaa
