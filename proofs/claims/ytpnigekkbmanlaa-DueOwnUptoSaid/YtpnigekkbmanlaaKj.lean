/- DueOwn's parts: lists and Dues, each apart; what they say. Conditions: few things. -/
import Derived.Test.YtpnigekkbmanlaaKi
import Derived.Test.YtpnigekkbmanlaaDm
import Derived.Test.YtpnigekkbmanlaaFl
namespace Go.Proofs.Ytpnigekkbmanlaa
open Sx Hp

section
variable {F : Nat → Prop} {w0 w w' : World} {a a' c : As} {sq sq' r : List As} {i : Nat} {v : Value} {xs ys : List Wt}
theorem Rw.get (h : Rw w v xs) (u : Upd F w w') (hn : ∀ b, isIn v b ∨ feet xs b → ¬F b) : Rw w' v xs :=
  ⟨h.rd.get u fun b hb => hn b (.inl hb), h.s.get u fun a ha b hb => by
    obtain ⟨x, hx, rfl⟩ := List.mem_map.1 ha
    exact hn b (.inr ⟨x, hx, hb⟩), h.ap⟩
theorem feet_lt (h : Rw w v xs) {b : Nat} (hb : feet xs b) : b < w.heap.size := by
  obtain ⟨x, hx, hb⟩ := hb
  exact x.as.lt (h.item hx) hb
/-- a list of what waits that is all its own -/
def aW (v : Value) (xs : List Wt) : As := ⟨fun w => Own w 40 5 v xs.length (fl Wt.cells xs) ∧ Rw w v xs, fun b => isIn v b ∨ feet xs b, fun h u hn => ⟨h.1.get u fun b hb => hn b (.inl hb), h.2.get u hn⟩, fun h hb => hb.elim (fun hb => h.1.lt hb) fun hb => feet_lt h.2 hb⟩
def aDv (bd : Nat) (G : Nat → Prop) (S : List Wt) (N : Nat) : As := ⟨fun w => Dv w bd G S N ∧ ∀ b, G b → b < w.heap.size, G, fun h u hn => ⟨h.1.get u fun b _ hb => hn b hb, fun b hb => Nat.lt_of_lt_of_le (h.2 b hb) u.size⟩, fun h hb => h.2 _ hb⟩
/-- What the first of them held has turned into other things. -/
theorem Rg.frame (h : Rg w0 w (sq ++ r)) (u : Upd F w w') (hF : ∀ b, b < w.heap.size → F b → ∃ a ∈ sq, a.In b) (s : Star w' sq') (hin : ∀ c ∈ sq', ∀ b, c.In b → (∃ a ∈ sq, a.In b) ∨ w.heap.size ≤ b) : Rg w0 w' (sq' ++ r) := by
  have s0 := h.u.size
  refine ⟨Star.frame h.s u hF s hin, h.u.trans' u fun b hb hf => ?_, fun x hx b hb => ?_⟩
  · obtain ⟨a, ha, hab⟩ := hF b (by omega) hf
    have := h.n a (by simp [ha]) b hab
    omega
  · rcases List.mem_append.1 hx with hx | hx
    · rcases hin x hx b hb with ⟨a, ha, hab⟩ | hge
      · exact h.n a (by simp [ha]) b hab
      · omega
    · exact h.n x (by simp [hx]) b hb
theorem Rg.list (R : Rg w0 w sq) (h : Lsp tWo 40 w w' v xs) (u : Ext w w') : Rg w0 w' (aW v xs :: sq) :=
  R.new (a := aW v xs) u ⟨h.own, h.rw'⟩ fun b hb => hb.elim (h.new b) fun ⟨x, hx, hb⟩ => h.newE x hx b hb
theorem Rg.erase (i : Nat) (h : Rg w0 w sq) (hi : sq[i]? = some a) : Rg w0 w (sq.eraseIdx i) := (h.pull i hi).tail
/-- What a list holds has turned. -/
theorem Rg.turn (h : Rg w0 w sq) (hi : sq[i]? = some (aW v xs)) (u : Upd (feet xs) w w') (hc : ys.map Wt.cells = xs.map Wt.cells) (r : Rw w' v ys) (hf : ∀ b, feet ys b → feet xs b) : Rg w0 w' (sq.set i (aW v ys)) := by
  have hp : (aW v xs).P w := h.nth hi
  refine h.upd hi u (fun b _ hb => .inr hb) ⟨?_, r⟩ fun b hb => .inl (hb.imp id (hf b))
  have h1 := hp.1.get u fun b hb ⟨x, hx, hxb⟩ => hp.2.ap x hx b hxb hb
  have hl : ys.length = xs.length := by have := congrArg List.length hc; simpa using this
  have e : fl Wt.cells ys = fl Wt.cells xs := fl_same hc
  rw [hl, e]
  exact h1
theorem Rg.waste (h : Rg w0 w (aW v xs :: sq)) (u : Upd (feet xs) w w') : Rg w0 w' sq := h.spend u fun _ _ hb => .inr hb
end

/-! ### What lists say -/
theorem key_of {x y : Wt} (h : x.says = y.says) : x.m.key = y.m.key := says_key h
theorem any_says {l l' : List Wt} {x x' : Wt} (h : l.map Wt.says = l'.map Wt.says) (hx : x.says = x'.says) : l.any (aliA x) = l'.any (aliA x') := by
  have h1 : ∀ (l : List Wt) (x : Wt), l.any (aliA x) = (l.map Wt.says).any fun s => decide ((s.1.1, s.1.2.1, s.1.2.2.1) = x.m.key) := fun l x => by
    rw [List.any_map]
    rfl
  rw [h1, h1, h, key_of hx]
theorem fold_says : ∀ {l l' acc acc' : List Wt}, l.map Wt.says = l'.map Wt.says → acc.map Wt.says = acc'.map Wt.says → (l.foldl addTo acc).map Wt.says = (l'.foldl addTo acc').map Wt.says
  | [], [], _, _, _, h => h
  | [], _ :: _, _, _, h, _ => by simp at h
  | _ :: _, [], _, _, h, _ => by simp at h
  | x :: l, x' :: l', acc, acc', h, ha => by
    simp only [List.map_cons, List.cons.injEq] at h
    rw [List.foldl_cons, List.foldl_cons]
    refine fold_says h.2 ?_
    unfold addTo
    rw [any_says ha h.1]
    split
    · exact ha
    · rw [List.map_append, List.map_append, ha, List.map_singleton, List.map_singleton, h.1]
theorem take_says (m : Int) : ∀ {S T : List Wt}, S.map Wt.says = T.map Wt.says → (S.takeWhile (by_ m)).map Wt.says = (T.takeWhile (by_ m)).map Wt.says ∧ (S.dropWhile (by_ m)).map Wt.says = (T.dropWhile (by_ m)).map Wt.says
  | [], [], _ => ⟨rfl, rfl⟩
  | [], _ :: _, h => by simp at h
  | _ :: _, [], h => by simp at h
  | x :: S, y :: T, h => by
    simp only [List.map_cons, List.cons.injEq] at h
    have hd : by_ m x = by_ m y := by
      have : x.m.dec = y.m.dec := congrArg (fun s : Sw => s.1.1) h.1
      unfold by_
      rw [this]
    obtain ⟨h1, h2⟩ := take_says m h.2
    rw [List.takeWhile_cons, List.takeWhile_cons, List.dropWhile_cons, List.dropWhile_cons, hd]
    split
    · exact ⟨by rw [List.map_cons, List.map_cons, h.1, h1], h2⟩
    · exact ⟨rfl, by rw [List.map_cons, List.map_cons, h.1, h.2]⟩
theorem lo_says {x y : Wt} (h : y.says = x.says) (hx : x.Lo) : y.Lo := by
  simp only [Wt.says, Mt.says, Prod.mk.injEq] at h
  obtain ⟨⟨-, h1, h2, h3⟩, h4⟩ := h
  have hb : y.bs.length = x.bs.length := by have := congrArg List.length h4; simpa using this
  refine ⟨by rw [h1]; exact hx.n, by rw [h2]; exact hx.l, by rw [h3]; exact hx.v, by rw [hb]; exact hx.b, fun e he => ?_⟩
  have : e.evs ∈ x.bs.map El.evs := by rw [← h4]; exact List.mem_map.2 ⟨e, he, rfl⟩
  obtain ⟨f, hf, hfe⟩ := List.mem_map.1 this
  rw [← hfe]
  exact hx.e f hf
theorem los_says {xs ys : List Wt} (h : ys.map Wt.says = xs.map Wt.says) (hx : ∀ x ∈ xs, x.Lo) : ∀ y ∈ ys, y.Lo := fun y hy => by
  have : y.says ∈ xs.map Wt.says := by rw [← h]; exact List.mem_map.2 ⟨y, hy, rfl⟩
  obtain ⟨x, hxm, hxs⟩ := List.mem_map.1 this
  exact lo_says hxs.symm (hx x hxm)
theorem len_says {xs ys : List Wt} (h : ys.map Wt.says = xs.map Wt.says) : ys.length = xs.length := by have := congrArg List.length h; simpa using this
theorem wts_lo {S inl : List Wt} (h : Wts S inl) (hx : ∀ x ∈ inl, x.Lo) : ∀ y ∈ S, y.Lo := fun y hy => by
  obtain ⟨x, hxm, hxs⟩ := h.mem.1 ⟨y, hy, rfl⟩
  exact lo_says hxs.symm (hx x hxm)
theorem fold_lo {l : List Wt} (hx : ∀ x ∈ l, x.Lo) : ∀ y ∈ l.foldl addTo [], y.Lo := fun y hy => by
  rcases mem_foldl_addTo _ _ hy with h | h
  · simp at h
  · exact hx y h

/-! ### Matches for themselves -/
def Mt.as (m : Mt) : As := ⟨fun w => m.Own w, m.At, fun h u hn => h.get u hn, fun h hb => h.lt hb⟩
/-- a match alone, nothing bound -/
def wOf (m : Mt) : Wt := ⟨m, none, 0, []⟩
theorem wOf_in {m : Mt} {b : Nat} (hb : (wOf m).as.In b) : m.At b := by
  obtain ⟨a, ha, hb⟩ := hb
  simp only [Wt.parts, wOf, List.mem_cons, List.mem_nil_iff, or_false] at ha
  rcases ha with rfl | rfl | rfl | rfl | rfl
  · exact .inl hb
  · exact .inr (.inl hb)
  · exact .inr (.inr hb)
  · exact hb.elim
  · obtain ⟨c, hc, _⟩ := hb
    simp at hc
theorem wOf_P {w : World} {m : Mt} (h : m.Own w) : (wOf m).as.P w :=
  wt_star (x := wOf m) h (Own.nil _ _ _) (fun e he => by simp [wOf] at he) List.Pairwise.nil (fun b _ hb => hb) (fun e he => by simp [wOf] at he) (fun e he => by simp [wOf] at he) (by simp [wOf])
theorem star_mt {w : World} : ∀ {l : List Mt}, (∀ m ∈ l, m.Own w) → (l.Pairwise fun x y => ∀ b, x.At b → ¬y.At b) → Star w ((l.map wOf).map Wt.as) := fun {l} h p =>
  star_map (fun x hx => by
    obtain ⟨m, hm, rfl⟩ := List.mem_map.1 hx
    exact wOf_P (h m hm)) (List.pairwise_map.2 (p.imp fun {x y} hxy b hb hb' => hxy b (wOf_in hb) (wOf_in hb')))
theorem lo_mt {out : List Mt} {rows : List Ml} (hs : out.map Mt.says = merged rows) (hl : ∀ m ∈ allMs rows, m.names.length ≤ 1048576 ∧ m.lens.length ≤ 1048576 ∧ m.vals.length ≤ 1048576) : (∀ y ∈ out, (wOf y).Lo) ∧ out.length = (allMs rows).length := by
  have hp : (out.map Mt.says).Perm ((allMs rows).map Mt.says) := by
    rw [hs]
    unfold merged
    simpa using foldl_put_perm (lt := slt) ((allMs rows).map Mt.says) []
  refine ⟨fun y hy => ?_, by have := hp.length_eq; simpa using this⟩
  have : y.says ∈ (allMs rows).map Mt.says := hp.mem_iff.1 (List.mem_map.2 ⟨y, hy, rfl⟩)
  obtain ⟨m, hm, hms⟩ := List.mem_map.1 this
  obtain ⟨b1, b2, b3⟩ := hl m hm
  simp only [Mt.says, Prod.mk.injEq] at hms
  obtain ⟨-, q1, q2, q3⟩ := hms
  exact ⟨by show y.names.length ≤ _; rw [← q1]; exact b1, by show y.lens.length ≤ _; rw [← q2]; exact b2, by show y.vals.length ≤ _; rw [← q3]; exact b3, by simp [wOf], fun e he => by simp [wOf] at he⟩
/-- a list in a row of its own; each thing of it is owned -/
def aV (v : Value) (zs : List Wt) : As := ⟨fun w => Own w 40 5 v zs.length (fl Wt.cells zs) ∧ (∀ z ∈ zs, z.as.P w) ∧ ∀ z ∈ zs, ∀ b, z.as.In b → ¬isIn v b, fun b => isIn v b ∨ feet zs b, fun h u hn => ⟨h.1.get u fun b hb => hn b (.inl hb), fun z hz => As.get z.as (h.2.1 z hz) u fun b hb => hn b (.inr ⟨z, hz, hb⟩), h.2.2⟩, fun h hb => hb.elim (fun hb => h.1.lt hb) fun ⟨z, hz, hb⟩ => z.as.lt (h.2.1 z hz) hb⟩
theorem aW.aV {w : World} {v : Value} {xs : List Wt} (h : (aW v xs).P w) : (aV v xs).P w := ⟨h.1, fun _ hz => h.2.item hz, h.2.ap⟩
theorem aV.rl {w : World} {v : Value} {xs : List Wt} (h : (Go.Proofs.Ytpnigekkbmanlaa.aV v xs).P w) : RL w v xs := ⟨h.1.rd, fun z hz => Wt.rdy_of (h.2.1 z hz)⟩
set_option maxRecDepth 100000 in
theorem load_m {w : World} {b o c i n : Nat} {xs : List Wt} {y : Wt} (h : Rd w 5 (.slice (some ⟨b, o, none⟩) n c) n (fl Wt.cells xs)) (hy : xs[i]? = some y) (hn : n = xs.length) : (loadVar 29 ⟨b, o + i * 5 + 0, none⟩).run Try.prog w = .ok (.agg y.m.cells.toArray) w :=
  load_agg_cells AggT.h (by rfl) fun j v hv => by
    rw [Addr.add_lit]
    exact rd_cell (j := j) wt_len h hy (by
      have hj : j < 4 := (List.getElem?_eq_some_iff.1 hv).1
      rw [← hv]
      match j, hj with
      | 0, _ => rfl
      | 1, _ => rfl
      | 2, _ => rfl
      | 3, _ => rfl) hn (by omega)
/-- one thing of a list, as a list -/
theorem sub_rw {w : World} {g n c c' i : Nat} {bs : List Wt} {x : Wt} (h : Rw w (.slice (some ⟨g, 0, none⟩) n c) bs) (hn : bs.length = n) (hx : bs[i]? = some x) : Rw w (.slice (some ⟨g, 0 + i * 5, none⟩) [x].length c') [x] := by
  have hm := List.mem_of_getElem? hx
  have hr := h.rd
  rw [hn] at hr
  have hil := (List.getElem?_eq_some_iff.1 hx).1
  refine ⟨⟨rfl, some ⟨g, 0 + i * 5, none⟩, c', rfl, fun _ => ⟨g, 0 + i * 5, rfl, ?_, fun j v hj => ?_⟩⟩, ⟨h.item hm, by simp, trivial⟩, fun y hy b hb => ?_⟩
  · obtain ⟨b', o', c2, he, hlt, _⟩ := hr.pos (by omega)
    simp only [Value.slice.injEq, Option.some.injEq, Addr.mk.injEq] at he
    rw [he.1.1]
    exact hlt
  · rw [fl_one] at hj
    exact rd_cell (j := j) wt_len hr hx hj hn.symm (by omega)
  · rw [List.mem_singleton.1 hy] at hb
    exact h.ap x hm b hb
theorem wOf_cells {m m' : Mt} (h : m'.cells = m.cells) : (wOf m').cells = (wOf m).cells := by
  simp only [Mt.cells, List.cons.injEq, and_true] at h
  obtain ⟨h0, h1, h2, h3⟩ := h
  simp only [Wt.cells, wOf, h0, h1, h2, h3]
theorem m_says {x y : Wt} (h : x.says = y.says) : x.m.says = y.m.says := congrArg Prod.fst h
/-- matches that are owned each -/
def aMs (out : List Mt) : As := ⟨fun w => ∀ m ∈ out, m.Own w, fun b => ∃ m ∈ out, m.At b, fun h u hn m hm => (h m hm).get u fun b hb => hn b ⟨m, hm, hb⟩, fun h ⟨m, hm, hb⟩ => (h m hm).lt hb⟩
theorem at_same {m m' : Mt} (h : m'.cells = m.cells) {b : Nat} (hb : m'.At b) : m.At b := by
  simp only [Mt.cells, List.cons.injEq, and_true] at h
  obtain ⟨-, q1, q2, q3⟩ := h
  rcases hb with hb | hb | hb
  · left
    unfold Mt.ns at hb ⊢
    rw [← q1]
    exact hb
  · right; left
    unfold Mt.ls at hb ⊢
    rw [← q2]
    exact hb
  · right; right
    unfold Mt.vs at hb ⊢
    rw [← q3]
    exact hb
theorem m_in {x : Wt} {b : Nat} (hb : x.m.At b) : x.as.In b := by
  rcases hb with hb | hb | hb
  · exact ⟨_, List.mem_of_getElem? (i := 0) rfl, hb⟩
  · exact ⟨_, List.mem_of_getElem? (i := 1) rfl, hb⟩
  · exact ⟨_, List.mem_of_getElem? (i := 2) rfl, hb⟩
theorem lo_cells {x : Wt} {m' : Mt} (h : m'.cells = x.m.cells) (hx : x.Lo) : (wOf m').Lo := by
  simp only [Mt.cells, List.cons.injEq, Value.slice.injEq, and_true] at h
  obtain ⟨-, ⟨-, q1, -⟩, ⟨-, q2, -⟩, -, q3, -⟩ := h
  exact ⟨by show m'.names.length ≤ _; rw [q1]; exact hx.n, by show m'.lens.length ≤ _; rw [q2]; exact hx.l, by show m'.vals.length ≤ _; rw [q3]; exact hx.v, by simp [wOf], fun e he => by simp [wOf] at he⟩
section
variable {dr : Bool} {P : Program} {ops : Array Oper} {W : List Nat} {Q : Fr → World → Prop} {k : Nat} {rest : List Oper} {σ : Fr} {C : World → Prop} {d : Nat} {ty : TypeId} {pos : String} {after : Array Edge} {guard : Option (Nat × Bool)}
/-- l[j:j+1] -/
theorem x_cut1 {t n c s b o : Nat} (j : Nat) {kd kd' : IntKind} {i i' : Int} {x y z : Operand} (hw : wantS ops σ ⟨some d, .slice t x (some y) (some z) none, ty, pos, after, guard⟩ = true) (hx : ev σ x = .slice (some ⟨b, o, none⟩) n c) (hy : ev σ y = .int kd i) (hz : ev σ z = .int kd' i')
    (hs : elemSz P t = some s) (hi : i = (j : Nat)) (m : Nat) (hm : m = j + 1) (hi' : i' = (m : Nat)) (hj : j < n) (hc : n ≤ c) (h : xw dr P ops W Q (k + 1) rest (upd σ d (.slice (some ⟨b, o + j * s, none⟩) 1 (c - j))) C) : xw dr P ops W Q k (⟨some d, .slice t x (some y) (some z) none, ty, pos, after, guard⟩ :: rest) σ C := by
  obtain ⟨e, hu, he⟩ := elemSz_parts hs
  subst hi
  subst hi'
  refine x_p (v := .slice (some ⟨b, o + j * s, none⟩) 1 (c - j)) hw rfl (fun w => ?_) h
  have h1 : j ≤ m := by omega
  have h2 : m ≤ c := by omega
  have h3 : ¬ c = j := by omega
  have h4 : m - j = 1 := by omega
  simp [execOp, Instr.sliceAt, run_underlying hu, Instr.slice, hx, hy, hz, Instr.sliceBounds, Instr.sliceBound, asIntOf, h1, h2, h3, h4, run_szT he, Addr.add_lit]
end
end Go.Proofs.Ytpnigekkbmanlaa
