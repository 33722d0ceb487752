/- Lists that are written over, and appended to, and stay. Conditions: room. -/
import Derived.Test.YtpnigekkbmanlaaTo
import Derived.Test.YtpnigekkbmanlaaCo
namespace Go.Proofs.Ytpnigekkbmanlaa
open Sx Hp
section
variable {P : Program}
theorem run_append3 {w : World} {t ty e : TypeId} {i : TypeInfo} {z : Value} {sz : Nat} (ht : P.underlying t = some (.slice e)) (hi : P.info? e = some i) (hz : i.zero = some z) (hsz : i.size = sz) (hzs : z.cells.size = sz)
    {sv : Value} {n : Nat} {xs : List Value} (hown : Own w e sz sv n xs) {a : Addr} {m c : Nat} {news : List Value} (hl : news.length = m * sz) (hnews : ∀ j u, news[j]? = some u → w.cell? (a.add j) = some u) (h1 : ∀ u ∈ news, u.oneCell' = true) (hm : 0 < m)
    (hr : Room (n + m) i.bytes) :
    ∃ sv' w', (Builtin.append_ #[t, t] ty #[sv, .slice (some a) m c]).run P w = .ok sv' w' ∧ Own w' e sz sv' (n + m) (xs ++ news) ∧ ((Upd (isIn sv) w w' ∧ ∃ g cap, sv = .slice (some ⟨g, 0, none⟩) n cap ∧ sv' = .slice (some ⟨g, 0, none⟩) (n + m) cap) ∨ (Ext w w' ∧ ∀ b, isIn sv' b → w.heap.size ≤ b)) := by
  subst hsz
  have hlen : (xs ++ news).length = (n + m) * i.size := by rw [List.length_append, hown.1, hl, Nat.add_mul]
  have hmax : n + m ≤ maxLen := by have := hr.1; simp only [maxLen]; omega
  have hfit : ∀ old, old < n + m → Builtin.nextslicecap (n + m) old * i.bytes ≤ 281474976710656 := fun old ho => Nat.le_trans (Nat.mul_le_mul_right _ (nextslicecap_fine ho)) hr.2
  have grown : ∀ (old : Nat), old < n + m →
      Own (w.drew.alloc (.cells (xs.toArray ++ news.toArray ++ Builtin.zeroCells z.cells (grownCap w (n + m) old e - (n + m))) e)) e i.size (.slice (some ⟨w.heap.size, 0, none⟩) (n + m) (grownCap w (n + m) old e)) (n + m) (xs ++ news) := by
    intro old ho
    have hge := grownCap_ge w (n + m) old e
    refine Own.of (rest := (Builtin.zeroCells z.cells (grownCap w (n + m) old e - (n + m))).toList) hlen ?_ hge (grownCap_le_maxLen w (n + m) old e hmax) ?_
    · have h := heap_alloc_new w.drew (.cells (xs.toArray ++ news.toArray ++ Builtin.zeroCells z.cells (grownCap w (n + m) old e - (n + m))) e)
      unfold Blk
      refine Eq.trans h ?_
      congr 2
      apply Array.ext'
      simp
    · rw [List.length_append, hlen, Array.length_toList, size_zeroCells, hzs, ← Nat.add_mul]
      congr 1
      omega
  have uext : ∀ o : Obj, Ext w (w.drew.alloc o) := fun o => (ext_drew w).trans (ext_alloc _ o)
  rcases hown.2 with ⟨rfl, rfl⟩ | ⟨g, cap, rest, rfl, hg, hnc, hcm, hcs⟩
  · have hx : xs = [] := List.eq_nil_of_length_eq_zero (by simpa using hown.1)
    subst hx
    have hr' := run_append_nil (P := P) w t ty e i z ht hi hz a m c news hl hnews hm (by have := hr.1; omega) (by
      have h := hr.2
      have : (0 + m) * i.bytes ≤ (0 + m + (0 + m) / 4 + 512) * i.bytes := Nat.mul_le_mul_right _ (by omega)
      simp only [Nat.zero_add] at this h
      omega)
    have hgr := grown 0 (by omega)
    simp only [Nat.zero_add, List.nil_append, Array.empty_append] at hgr ⊢
    exact ⟨_, _, hr', hgr, .inr ⟨uext _, fun b hb => by have : b = w.heap.size := hb; omega⟩⟩
  · by_cases hroom : n + m ≤ cap
    · have hlr := hcs
      rw [List.length_append] at hlr
      have hge : (n + m) * i.size ≤ cap * i.size := Nat.mul_le_mul_right _ hroom
      have hx1 := hown.1
      have hfit' : n * i.size + news.length ≤ (xs ++ rest).toArray.size := by rw [hl, ← Nat.add_mul]; simpa using (by omega : (n + m) * i.size ≤ xs.length + rest.length)
      have hr' := run_append_room (P := P) w t ty e i ht hi g n cap (xs ++ rest).toArray hg a m c news hl hnews h1 hroom hfit'
      refine ⟨_, _, hr', ?_, .inl ⟨(upd_setRow w g _).mono (fun b hb => hb), g, cap, rfl, rfl⟩⟩
      have e1 : ((xs ++ rest).toArray.toList.take (n * i.size) ++ news ++ (xs ++ rest).toArray.toList.drop (n * i.size + news.length)) = (xs ++ news) ++ rest.drop news.length := by
        simp only []
        rw [List.take_append_of_le_length (by omega), List.take_of_length_le (by omega), List.drop_append, List.drop_eq_nil_of_le (by omega), List.nil_append]
        congr 2
        omega
      rw [e1]
      refine Own.of hlen (blk_setRow hg) hroom hcm ?_
      rw [List.length_append, hlen, List.length_drop, hl]
      rw [Nat.add_mul] at hge ⊢
      omega
    · have holds : ∀ j u, xs[j]? = some u → w.cell? ((⟨g, 0, none⟩ : Addr).add j) = some u := fun j u hu => by
        rw [Addr.add_lit]
        refine hg.cell ?_
        rw [Nat.zero_add, List.getElem?_append_left (List.getElem?_eq_some_iff.1 hu).1]
        exact hu
      have hr' := run_append_grow (P := P) w t ty e i z ht hi hz ⟨g, 0, none⟩ n cap xs hown.1 holds a m c news hl hnews (by omega) (by have := hr.1; omega) (hfit cap (by omega))
      exact ⟨_, _, hr', grown cap (by omega), .inr ⟨uext _, fun b hb => by have : b = w.heap.size := hb; omega⟩⟩


end
theorem own_back {w : World} {e : TypeId} {k g cap n m : Nat} {ys : List Value} (h : Own w e k (.slice (some ⟨g, 0, none⟩) (n + m) cap) (n + m) ys) : Own w e k (.slice (some ⟨g, 0, none⟩) n cap) n (ys.take (n * k)) := by
  have hl := h.1
  have hle : n * k ≤ (n + m) * k := Nat.mul_le_mul_right _ (by omega)
  rcases h.2 with ⟨h0, _⟩ | ⟨g', cap', rest, h1, hb, h2, h3, h4⟩
  · cases h0
  · simp only [Value.slice.injEq, Option.some.injEq, Addr.mk.injEq, and_true, true_and] at h1
    obtain ⟨rfl, rfl⟩ := h1
    refine Own.of (rest := ys.drop (n * k) ++ rest) (by rw [List.length_take]; omega) ?_ (by omega) h3 ?_
    · rw [← List.append_assoc, List.take_append_drop]
      exact hb
    · rw [← List.append_assoc, List.take_append_drop]
      exact h4
section
variable {dr : Bool} {P : Program} {ops : Array Oper} {W : List Nat} {Q : Fr → World → Prop} {k : Nat} {rest : List Oper} {σ : Fr} {C : World → Prop} {w : World}
variable {d : Nat} {ty : TypeId} {pos : String} {after : Array Edge} {guard : Option (Nat × Bool)}
/-- append; the list that was grown stays in use. -/
theorem w_append3 {t e sz bytes : Nat} {x y : Operand} {sv : Value} {n m c b : Nat} {xs news more : List Value} (hW : isW dr W k (.call ⟨.builtin .append, #[x, y], #[t, t]⟩) = true) (hw : wantS ops σ ⟨some d, .call ⟨.builtin .append, #[x, y], #[t, t]⟩, ty, pos, after, guard⟩ = true)
    (hx : ev σ x = sv) (hy : ev σ y = .slice (some ⟨b, 0, none⟩) m c) (ht : slT P t = some (e, sz, bytes)) (hown : Own w e sz sv n xs) {t' : TypeId} (hb : Blk w b t' (news ++ more)) (hl : news.length = m * sz) (h1 : news.all Value.oneCell' = true) (hm : 0 < m) (hr : Room (n + m) bytes)
    (h : ∀ gv w', Own w' e sz gv (n + m) (xs ++ news) → Own w' e sz sv n xs → Upd (isIn sv) w w' → ((∃ g cap, sv = .slice (some ⟨g, 0, none⟩) n cap ∧ gv = .slice (some ⟨g, 0, none⟩) (n + m) cap) ∨ (∀ b, isIn gv b → w.heap.size ≤ b)) → xw dr P ops W Q (k + 1) rest (upd σ d gv) (Eq w')) : xw dr P ops W Q k (⟨some d, .call ⟨.builtin .append, #[x, y], #[t, t]⟩, ty, pos, after, guard⟩ :: rest) σ (Eq w) := by
  obtain ⟨hu, i, z, hi, hz, hsz, hzs, hby⟩ := slT_spec ht
  subst hby
  obtain ⟨gv, w', hrun, h2, h3⟩ := run_append3 (P := P) (ty := ty) hu hi hz hsz hzs hown hl (fun j u hu => by
    rw [Addr.add_lit, Nat.zero_add]
    exact hb.cell (by rw [List.getElem?_append_left (List.getElem?_eq_some_iff.1 hu).1]; exact hu)) (List.all_eq_true.1 h1) hm hr (a := ⟨b, 0, none⟩) (c := c)
  refine x_w hw rfl hW ?_
  unfold stepsTo
  simp only [execOp, resolve, invoke, builtin, Sem.run_bind, Sem.run_pure, Result.andThen_ok, List.map_toArray, List.map_cons, List.map_nil, hx, hy, hrun]
  have hxl := hown.1
  rcases h3 with ⟨u, g, cap, e1, e2⟩ | ⟨u, hn⟩
  · refine h gv w' h2 ?_ u (.inl ⟨g, cap, e1, e2⟩)
    rw [e2] at h2
    have := own_back h2
    rw [List.take_left' hxl] at this
    rw [e1]
    exact this
  · exact h gv w' h2 (hown.at u) (u.of _) (.inr hn)
end
theorem own_put {α : Type} {enc : α → List Value} {k : Nat} {e : TypeId} {w' : World} {g cap i o : Nat} {R : List Value} {L : List α} {x : α} (hk : ∀ a, (enc a).length = k) (hb' : Blk w' g e (put1 (fl enc L ++ R) o (enc x))) (hi : i < L.length) (ho : o = i * k) (hc1 : L.length ≤ cap) (hc2 : cap ≤ maxLen) (hc3 : (fl enc L ++ R).length = cap * k) :
    Own w' e k (.slice (some ⟨g, 0, none⟩) L.length cap) L.length (fl enc (L.set i x)) := by
  rw [fl_set hk hi ho] at hb'
  refine Own.of (rest := R) (by rw [fl_length hk, List.length_set]) hb' hc1 hc2 ?_
  rw [← hc3, List.length_append, List.length_append, fl_length hk, fl_length hk, List.length_set]
theorem own_set {α : Type} {enc : α → List Value} {k n : Nat} {e : TypeId} {w' : World} {g cap i o : Nat} {R : List Value} {L : List α} {x : α} {V : Value} (hV : V = .slice (some ⟨g, 0, none⟩) n cap) (hk : ∀ a, (enc a).length = k) (hb' : Blk w' g e (put1 (fl enc L ++ R) o (enc x))) (hn : L.length = n) (hi : i < n) (ho : o = i * k) (hc1 : n ≤ cap) (hc2 : cap ≤ maxLen) (hc3 : (fl enc L ++ R).length = cap * k) :
    Own w' e k V n (fl enc (L.set i x)) := by
  subst hV
  subst hn
  exact own_put hk hb' hi ho hc1 hc2 hc3
theorem set_marks {α : Type} {C : List α} {n q : Nat} {f : Nat → α} (h : ∀ m, m < q → C[m]? = some (f m)) (hl : C.length = n) (hq : q < n) : ∀ m, m < q + 1 → (C.set q (f q))[m]? = some (f m) := fun m hm => by
  by_cases e : m = q
  · subst e
    rw [List.getElem?_set_self (by omega)]
  · rw [List.getElem?_set_ne (fun h => e h.symm)]
    exact h m (by omega)
theorem marks_all {α : Type} {C : List α} {n : Nat} {f : Nat → α} (h : ∀ m, m < n → C[m]? = some (f m)) (hl : C.length = n) : C = (List.range n).map f := by
  apply List.ext_getElem?
  intro m
  by_cases hm : m < n
  · rw [h m hm, List.getElem?_map, List.getElem?_range hm]
    rfl
  · rw [List.getElem?_eq_none (by omega), List.getElem?_eq_none (by simp; omega)]
end Go.Proofs.Ytpnigekkbmanlaa
