/- Add: a match that is not alike to one that waits is laid down, as a copy. Conditions: what is read; room. -/
import Derived.Test.YtpnigekkbmanlaaDu
namespace Go.Proofs.Ytpnigekkbmanlaa
open Sx Hp

theorem mem_putW {lt : Wt → Wt → Bool} {x y : Wt} : ∀ {l : List Wt}, y ∈ put lt l x ↔ y = x ∨ y ∈ l
  | [] => by simp [put]
  | z :: l => by
    unfold put
    split
    · simp
    · simp only [List.mem_cons, mem_putW (l := l)]
      constructor
      · rintro (h | h | h) <;> simp [h]
      · rintro (h | h | h) <;> simp [h]
theorem perm_putW {lt : Wt → Wt → Bool} {x : Wt} : ∀ l : List Wt, (put lt l x).Perm (l ++ [x])
  | [] => List.Perm.refl _
  | z :: l => by
    unfold put
    split
    · exact (List.perm_append_comm (l₁ := [x]) (l₂ := z :: l))
    · exact List.Perm.cons z (perm_putW l)
theorem rise_put {x : Wt} : ∀ {l : List Wt}, (l.Pairwise fun a b => wlt a b = true) → (∀ y ∈ l, y.m.key ≠ x.m.key) → (put wlt l x).Pairwise fun a b => wlt a b = true
  | [], _, _ => List.pairwise_singleton _ _
  | z :: l, h, hn => by
    obtain ⟨h1, h2⟩ := List.pairwise_cons.1 h
    unfold put
    split
    · rename_i hxz
      refine List.pairwise_cons.2 ⟨fun a ha => ?_, h⟩
      rcases List.mem_cons.1 ha with ha | ha
      · subst ha; exact hxz
      · exact wlt_ord.tr _ _ _ hxz (h1 a ha)
    · rename_i hxz
      refine List.pairwise_cons.2 ⟨fun a ha => ?_, rise_put h2 fun y hy => hn y (by simp [hy])⟩
      rcases mem_putW.1 ha with ha | ha
      · subst ha
        have := klt_tot.tri _ _ (hn z (by simp))
        exact this.resolve_right hxz
      · exact h1 a ha

set_option maxHeartbeats 2000000 in
set_option maxRecDepth 100000 in
theorem due_add {w : World} {bd : Nat} {G : Nat → Prop} {S : List Wt} {N : Nat} (h : Dv w bd G S N) (x : Wt) (hx : x.Rdy w) (hN : N ≤ 4611686018427387903) (hr : Room (S.length + 1) 112) :
    Gets Try.prog 21 [.pointer (some ⟨bd, 0, none⟩), x.v] w fun v w' => (v = .bool false ∧ (∃ y ∈ S, y.m.key = x.m.key) ∧ Dv w' bd G S N ∧ Ext w w') ∨
      (v = .bool true ∧ (¬∃ y ∈ S, y.m.key = x.m.key) ∧ ∃ y G', y.says = x.says ∧ (∀ b, y.In b → w.heap.size ≤ b) ∧ Dv w' bd G' (put wlt S y) (N + 1) ∧ Upd G w w' ∧ ∀ b, G' b → G b ∨ w.heap.size ≤ b) := by
  obtain ⟨bp, r, sv, clock, L, hD, hG1, hG2⟩ := h
  have hcap := hr.1
  have hr8 : Room (S.length + 1) 80 := hr.bytes (by omega)
  obtain ⟨a, c, ms, hlk, hrd, hms, hml, hpl, hcase, hnil⟩ := hD.kn.lookup x.m hD.each
  refine ⟨GoFn.h, calls_of_swp 35 Try.func21 Try.ntmps21 rfl (Nat.le_of_ble_eq_true rfl) ?_⟩
  (repeat (first | refine swp_seq ?_ | refine swp_block ?_)); refine swp_region (by kernel_rfl) ?_
  refine w_boxA (by rfl) (by rfl) (by rfl) ?_; intro b3 w1 e1 u1 h1
  repeat (first | refine x_move (by rfl) ?_ | refine x_as (by rfl) (by rfl) ?_ | refine x_skip (by rfl) ?_ | refine x_fld (by rfl) (by rfl) FldO.h ?_ | refine x_nilck (by rfl) (by rfl) ?_ | refine x_len (by rfl) (by rfl) ElOf.some ?_ | refine x_ext (by rfl) (by rfl) (by rfl) ?_ | refine x_pickT (by rfl) (by rfl) (by rfl) ?_ | refine x_pickF (by rfl) (by rfl) (by rfl) ?_ | refine x_add (by rfl) (by rfl) (by rfl) (by omega) ?_ | refine x_sub (by rfl) (by rfl) (by rfl) (by omega) ?_ | refine x_not (by rfl) (by rfl) ?_)
  refine x_nilw ?_
  replace h1 : Blk w1 b3 40 x.cells := h1
  have hD1 := hD.at u1
  (repeat (first | refine swp_seq ?_ | refine swp_block ?_)); refine swp_region (by kernel_rfl) ?_
  repeat (first | refine x_move (by rfl) ?_ | refine x_as (by rfl) (by rfl) ?_ | refine x_skip (by rfl) ?_ | refine x_fld (by rfl) (by rfl) FldO.h ?_ | refine x_nilck (by rfl) (by rfl) ?_ | refine x_len (by rfl) (by rfl) ElOf.some ?_ | refine x_ext (by rfl) (by rfl) (by rfl) ?_ | refine x_pickT (by rfl) (by rfl) (by rfl) ?_ | refine x_pickF (by rfl) (by rfl) (by rfl) ?_ | refine x_add (by rfl) (by rfl) (by rfl) (by omega) ?_ | refine x_sub (by rfl) (by rfl) (by rfl) (by omega) ?_ | refine x_not (by rfl) (by rfl) ?_)
  refine w_load (by rfl) (by rfl) (load_agg (xs := x.m.cells) AggT.h h1 (by rfl) (by rfl)) ?_
  refine w_call (by rfl) (by rfl) (by rfl) (place w1 hD1.blk hD1.kn.mp hlk (hx.m.at u1) (hrd.at u1) (fun o ho => ⟨(hms o ho).1.at u1, (hms o ho).2⟩) (by omega)) ?_
  rintro _ w2 ⟨rfl, u2⟩
  repeat (first | refine x_move (by rfl) ?_ | refine x_as (by rfl) (by rfl) ?_ | refine x_skip (by rfl) ?_ | refine x_fld (by rfl) (by rfl) FldO.h ?_ | refine w_load (by rfl) (by rfl) (load_one OneT.h (by assumption) (by rfl)) ?_ | refine x_nilck (by rfl) (by rfl) ?_ | refine x_len (by rfl) (by rfl) ElOf.some ?_ | refine x_iface (by rfl) (by rfl) NIf.h ?_ | refine x_ext (by rfl) (by rfl) (by rfl) ?_ | refine x_pickT (by rfl) (by rfl) (by rfl) ?_ | refine x_pickF (by rfl) (by rfl) (by rfl) ?_ | refine x_add (by rfl) (by rfl) (by rfl) (by omega) ?_ | refine x_sub (by rfl) (by rfl) (by rfl) (by omega) ?_ | refine x_lss (by rfl) (by rfl) (by rfl) ?_ | refine x_geq (by rfl) (by rfl) (by rfl) ?_ | refine x_leq (by rfl) (by rfl) (by rfl) ?_ | refine x_gtr (by rfl) (by rfl) (by rfl) ?_ | refine x_eql (by rfl) (by rfl) (by rfl) ?_ | refine x_neq (by rfl) (by rfl) (by rfl) ?_ | refine x_not (by rfl) (by rfl) ?_)
  refine x_nilw ?_
  have u02 := u1.trans u2
  (repeat (first | refine swp_seq ?_ | refine swp_block ?_))
  refine swp_if (by rfl) (fun hp => ?_) (fun hp => swp_skip ?_)
  · (repeat (first | refine swp_seq ?_ | refine swp_block ?_)); refine swp_region (by kernel_rfl) ?_
    repeat (first | refine x_move (by rfl) ?_ | refine x_as (by rfl) (by rfl) ?_ | refine x_skip (by rfl) ?_ | refine x_fld (by rfl) (by rfl) FldO.h ?_ | refine x_nilck (by rfl) (by rfl) ?_ | refine x_len (by rfl) (by rfl) ElOf.some ?_ | refine x_ext (by rfl) (by rfl) (by rfl) ?_ | refine x_pickT (by rfl) (by rfl) (by rfl) ?_ | refine x_pickF (by rfl) (by rfl) (by rfl) ?_ | refine x_add (by rfl) (by rfl) (by rfl) (by omega) ?_ | refine x_sub (by rfl) (by rfl) (by rfl) (by omega) ?_ | refine x_not (by rfl) (by rfl) ?_)
    refine x_nilw ?_
    refine swp_ret ?_; (repeat (first | with_reducible refine r_then ?_ | with_reducible refine r_block ?_ | with_reducible refine r_jump ?_))
    exact post1 rfl rfl ⟨_, rfl, .inl ⟨rfl, hpl.1 hp, ⟨bp, r, sv, clock, L, hD.at u02, hG1, hG2⟩, u02⟩⟩
  have hno : ¬∃ y ∈ S, y.m.key = x.m.key := fun hy => hp (hpl.2 hy)
  have h2 := h1.at u2
  have hx2 := hx.at u02
  refine swp_fit [(0, .pointer (some ⟨bd, 0, none⟩)), (3, .pointer (some ⟨b3, 0, none⟩))] ⟨rfl, rfl, trivial⟩ fun ρ => ?_
  (repeat (first | refine swp_seq ?_ | refine swp_block ?_)); refine swp_region (by kernel_rfl) ?_
  refine w_load (by rfl) (by rfl) (load_agg (xs := x.cells) AggT.h h2 (by rfl) (by rfl)) ?_
  refine w_call (by rfl) (by rfl) (by rfl) (own_waiting x w2 hx2) ?_
  rintro _ w3 ⟨y, rfl, hc⟩
  refine w_store (xs := y.cells) (by rfl) (by rfl) (by rfl) (by rfl) SzT.h (by rfl) (by rfl) (h2.at hc.ext) (by simp [wt_len]) ?_
  intro w4 u4 h4 _
  refine x_nilw ?_
  replace h4 : Blk w4 b3 40 y.cells := h4
  have s02 := u02.size; have s1 := u1.size; have s2 := u2.size; have s3 := hc.ext.size; have s4 := u4.size
  have l2 := h2.lt
  have yn : ∀ b, y.In b → w2.heap.size ≤ b := hc.new
  have yR : y.Rdy w4 := hc.rdy.get u4 fun b hb e => by have := yn b hb; have e' : b = b3 := e; omega
  have u04 : Ext w w4 := (u02.trans hc.ext).trans' u4 fun b hb e => by have e' : b = b3 := e; omega
  have hD4 := hD.at u04
  have hdl : ∀ b, dfoot bd bp r sv L b → b < w.heap.size := fun b hb => hD.lt hb
  have hb3 : w.heap.size ≤ b3 := by omega
  refine swp_fit [(0, .pointer (some ⟨bd, 0, none⟩)), (3, .pointer (some ⟨b3, 0, none⟩))] ⟨rfl, rfl, trivial⟩ fun ρ => ?_
  (repeat (first | refine swp_seq ?_ | refine swp_block ?_)); refine swp_draw (Ext w4) [6] Mixed.h (by kernel_rfl) (by kernel_rfl) (ext_drew w4) ?_
  repeat (first | refine x_move (by rfl) ?_ | refine x_as (by rfl) (by rfl) ?_ | refine x_skip (by rfl) ?_ | refine x_fld (by rfl) (by rfl) FldO.h ?_ | refine x_nilck (by rfl) (by rfl) ?_ | refine x_len (by rfl) (by rfl) ElOf.some ?_ | refine x_ext (by rfl) (by rfl) (by rfl) ?_ | refine x_pickT (by rfl) (by rfl) (by rfl) ?_ | refine x_pickF (by rfl) (by rfl) (by rfl) ?_ | refine x_add (by rfl) (by rfl) (by rfl) (by omega) ?_ | refine x_sub (by rfl) (by rfl) (by rfl) (by omega) ?_ | refine x_not (by rfl) (by rfl) ?_)
  refine q_load (by rfl) (by rfl) (by rfl) (fun w' hw' => load_one OneT.h (hD4.blk.at hw') (by rfl)) ?_
  refine q_load (by rfl) (by rfl) (by rfl) (fun w' hw' => load_agg (xs := y.cells) AggT.h (h4.at hw') (by rfl) (by rfl)) ?_
  refine x_build (v := y.v) (by rfl) (by rfl) (fun _ => by kernel_rfl) ?_
  refine x_fix (by rfl) (by rfl) (by rfl) fun w5 u5 => ?_
  have hD5 := hD4.at u5
  have yR5 := yR.at u5
  have s5 := u5.size
  have yap : ∀ b, y.In b → ¬dfoot bd bp r sv L b := fun b hb hf => by have := yn b hb; have := hdl b hf; omega
  refine w_call (by rfl) (by rfl) (by rfl) (PWt.push wlt_ord y hD5.pile hN hr ⟨yR5, fun b hb hf => yap b hb (.inr (.inl hf))⟩ fun z hz => ⟨hD5.each z hz, fun b hb hf => hD5.ap z hz b hb (.inr (.inl hf))⟩) ?_
  rintro _ w6 ⟨rfl, sv6, hp6, u6, hin6⟩
  refine x_nilw ?_
  have s6 := u6.size
  have hbdp := fun b hb => hD5.bdp (b := b) hb
  obtain ⟨hbr, hbk, hrk⟩ := hD5.bdr
  have h6 := (h4.at u5).get u6 fun hf => by have := hdl b3 (.inr (.inl hf)); omega
  have hbd6 := hD5.blk.get u6 fun hf => (hbdp bd hf).1 rfl
  have hkn6 := hD5.kn.get u6 (fun hf => (hbdp r hf).2.1 rfl) fun b hb hf => (hbdp b hf).2.2 hb
  have yR6 := yR5.get u6 fun b hb hf => yap b hb (.inr (.inl hf))
  have hea6 : ∀ z ∈ S, z.Rdy w6 := fun z hz => (hD5.each z hz).get u6 fun b hb hf => hD5.ap z hz b hb (.inr (.inl hf))
  refine swp_fit [(0, .pointer (some ⟨bd, 0, none⟩)), (3, .pointer (some ⟨b3, 0, none⟩))] ⟨rfl, rfl, trivial⟩ fun ρ => ?_
  (repeat (first | refine swp_seq ?_ | refine swp_block ?_)); refine swp_region (by kernel_rfl) ?_
  repeat (first | refine x_move (by rfl) ?_ | refine x_as (by rfl) (by rfl) ?_ | refine x_skip (by rfl) ?_ | refine x_fld (by rfl) (by rfl) FldO.h ?_ | refine x_nilck (by rfl) (by rfl) ?_ | refine x_len (by rfl) (by rfl) ElOf.some ?_ | refine x_ext (by rfl) (by rfl) (by rfl) ?_ | refine x_pickT (by rfl) (by rfl) (by rfl) ?_ | refine x_pickF (by rfl) (by rfl) (by rfl) ?_ | refine x_add (by rfl) (by rfl) (by rfl) (by omega) ?_ | refine x_sub (by rfl) (by rfl) (by rfl) (by omega) ?_ | refine x_not (by rfl) (by rfl) ?_)
  refine w_load (by rfl) (by rfl) (load_agg (xs := y.m.cells) AggT.h h6 (by rfl) (by rfl)) ?_
  refine w_call (by rfl) (by rfl) (by rfl) (head_of y.m w6 yR6.m) ?_
  rintro _ w7 ⟨rfl, u7⟩
  refine w_alloc (by rfl) (by rfl) ZeroT.h ?_; intro b8 w8 e8 u8 h8
  refine w_store (xs := y.m.head.cells) (by rfl) (by rfl) (by rfl) (by rfl) SzT.h (by rfl) (by rfl) h8 (by simp) ?_
  intro w9 u9 h9 _
  refine x_nilw ?_
  replace h9 : Blk w9 b8 94 y.m.head.cells := h9
  have s7 := u7.size; have s8 := u8.size; have s9 := u9.size
  have u69 : Ext w6 w9 := (u7.trans u8).trans' u9 fun b hb e => by have e' : b = b8 := e; omega
  have h69 := h6.at u69
  have hbd9 := hbd6.at u69
  have hkn9 := hkn6.get u69 (fun h => h) fun _ _ h => h
  have l9 := h9.lt
  have hhead : y.m.head = x.m.head := by
    have := hc.says
    simp only [Wt.says, Mt.says, Prod.mk.injEq] at this
    unfold Mt.head
    rw [this.1.1, this.1.2.1, this.1.2.2.1]
  have hkey : y.m.key = x.m.key := by
    have := hc.says
    simp only [Wt.says, Mt.says, Prod.mk.injEq] at this
    simp only [Mt.key, this.1.1, this.1.2.1, this.1.2.2.1]
  rw [hhead] at h9
  refine swp_fit [(0, .pointer (some ⟨bd, 0, none⟩)), (3, .pointer (some ⟨b3, 0, none⟩)), (5, .pointer (some ⟨b8, 0, none⟩))] ⟨rfl, rfl, rfl, trivial⟩ fun ρ => ?_
  -- the end, of both ways
  have fin : ∀ (w' : World) (L' : List KE) (clock' : Nat), Kn w' r clock' L' ((put wlt S y).map Wt.m) → (∀ b, kfoot L' b → kfoot L b ∨ w9.heap.size ≤ b) → Upd (fun b => b = r ∨ kfoot L b) w9 w' →
      ∃ z G', z.says = x.says ∧ (∀ b, z.In b → w.heap.size ≤ b) ∧ Dv w' bd G' (put wlt S z) (N + 1) ∧ Upd G w w' ∧ ∀ b, G' b → G b ∨ w.heap.size ≤ b := by
    intro w' L' clock' hk hkf u'
    have s69 := u69.size
    have uT : Upd (dfoot bd bp r sv L) w w' := (((((u04.trans u5).of _).trans' u6 fun b _ h => .inr (.inl h)).ext u69).trans' u' fun b _ h => h.elim (fun e => .inr (.inr (.inl e))) fun e => .inr (.inr (.inr e)))
    have hfn : ∀ b, dfoot bd bp r sv6 L' b → dfoot bd bp r sv L b ∨ w2.heap.size ≤ b := fun b hb => by
      rcases hb with h | (h | h) | h | h
      · exact .inl (.inl h)
      · exact .inl (.inr (.inl (.inl h)))
      · rcases hin6 b h with h | h
        · exact .inl (.inr (.inl (.inr h)))
        · exact .inr (by omega)
      · exact .inl (.inr (.inr (.inl h)))
      · rcases hkf b h with h | h
        · exact .inl (.inr (.inr (.inr h)))
        · exact .inr (by omega)
    -- what is new in the foot lies behind the copy
    have hfn2 : ∀ b, dfoot bd bp r sv6 L' b → dfoot bd bp r sv L b ∨ w5.heap.size ≤ b := fun b hb => by
      rcases hb with h | (h | h) | h | h
      · exact .inl (.inl h)
      · exact .inl (.inr (.inl (.inl h)))
      · rcases hin6 b h with h | h
        · exact .inl (.inr (.inl (.inr h)))
        · exact .inr h
      · exact .inl (.inr (.inr (.inl h)))
      · rcases hkf b h with h | h
        · exact .inl (.inr (.inr (.inr h)))
        · exact .inr (by omega)
    have hzR : ∀ z ∈ put wlt S y, z.Rdy w5 ∧ ∀ b, z.In b → ¬dfoot bd bp r sv L b := fun z hz => by
      rcases mem_putW.1 hz with rfl | hz
      · exact ⟨yR5, yap⟩
      · exact ⟨hD5.each z hz, hD5.ap z hz⟩
    have u5' : Upd (dfoot bd bp r sv L) w5 w' := (((Upd.refl _ w5).trans' u6 fun b _ h => .inr (.inl h)).ext u69).trans' u' fun b _ h => h.elim (fun e => .inr (.inr (.inl e))) fun e => .inr (.inr (.inr e))
    have hpf : ∀ b, PWt.foot bp sv6 b → ¬(b = r ∨ kfoot L b) := fun b hb h => by
      rcases hb with hb | hb
      · have := hbdp b (.inl hb)
        exact h.elim this.2.1 this.2.2
      · rcases hin6 b hb with hb | hb
        · have := hbdp b (.inr hb)
          exact h.elim this.2.1 this.2.2
        · have : b < w.heap.size := h.elim (fun e => hdl b (.inr (.inr (.inl e)))) fun e => hdl b (.inr (.inr (.inr e)))
          omega
    refine ⟨y, fun b => G b ∨ w.heap.size ≤ b, hc.says, fun b hb => by have := yn b hb; omega, ⟨bp, r, sv6, clock', L', ⟨hbd9.get u' fun h => h.elim hbr hbk, (hp6.at u69).get u' hpf, hk, fun z hz => ((hzR z hz).1).get u5' (hzR z hz).2, fun z hz b hb hf => ?_, rise_put hD.rise fun z hz hk' => hno ⟨z, hz, by rw [hk', hkey]⟩⟩, fun b hb => ?_, fun z hz b hb => ?_⟩, uT.mono hG1, fun b hb => hb⟩
    · rcases hfn2 b hf with h | h
      · exact (hzR z hz).2 b hb h
      · have := ((hzR z hz).1).lt hb
        omega
    · rcases hfn b hb with h | h
      · exact .inl (hG1 b h)
      · exact .inr (by omega)
    · rcases mem_putW.1 hz with rfl | hz
      · have := yn b hb
        exact .inr (by omega)
      · exact .inl (hG2 z hz b hb)
  have hperm : ((put wlt S y).map Wt.m).Perm (S.map Wt.m ++ [y.m]) := by
    have := (perm_putW (lt := wlt) (x := y) S).map Wt.m
    rwa [List.map_append] at this
  (repeat (first | refine swp_seq ?_ | refine swp_block ?_)); refine swp_draw (Ext w9) [1007] Mixed.h (by kernel_rfl) (by kernel_rfl) (ext_drew w9) ?_
  repeat (first | refine x_move (by rfl) ?_ | refine x_as (by rfl) (by rfl) ?_ | refine x_skip (by rfl) ?_ | refine x_fld (by rfl) (by rfl) FldO.h ?_ | refine x_nilck (by rfl) (by rfl) ?_ | refine x_len (by rfl) (by rfl) ElOf.some ?_ | refine x_ext (by rfl) (by rfl) (by rfl) ?_ | refine x_pickT (by rfl) (by rfl) (by rfl) ?_ | refine x_pickF (by rfl) (by rfl) (by rfl) ?_ | refine x_add (by rfl) (by rfl) (by rfl) (by omega) ?_ | refine x_sub (by rfl) (by rfl) (by rfl) (by omega) ?_ | refine x_not (by rfl) (by rfl) ?_)
  refine q_load (by rfl) (by rfl) (by rfl) (fun w' hw' => load_one OneT.h (hbd9.at hw') (by rfl)) ?_
  refine q_load (by rfl) (by rfl) (by rfl) (fun w' hw' => load_agg (xs := x.m.head.cells) AggT.h (h9.at hw') (by rfl) (by rfl)) ?_
  repeat (first | refine x_move (by rfl) ?_ | refine x_as (by rfl) (by rfl) ?_ | refine x_skip (by rfl) ?_ | refine x_fld (by rfl) (by rfl) FldO.h ?_ | refine x_nilck (by rfl) (by rfl) ?_ | refine x_len (by rfl) (by rfl) ElOf.some ?_ | refine x_ext (by rfl) (by rfl) (by rfl) ?_ | refine x_pickT (by rfl) (by rfl) (by rfl) ?_ | refine x_pickF (by rfl) (by rfl) (by rfl) ?_ | refine x_add (by rfl) (by rfl) (by rfl) (by omega) ?_ | refine x_sub (by rfl) (by rfl) (by rfl) (by omega) ?_ | refine x_not (by rfl) (by rfl) ?_)
  refine q_load (by rfl) (by rfl) (by rfl) (fun w' hw' => load_agg (xs := y.m.cells) AggT.h (h69.at hw') (by rfl) (by rfl)) ?_
  refine f_bslice (e := 29) (cs := y.m.cells) (by rfl) (by rfl) (by rfl) (by kernel_rfl) (fun _ _ h u => Upd.trans h u) ?_
  intro v1 c2 v2 q1 f2 q2 k2
  refine x_fix (by rfl) (by rfl) (by rfl) fun v3 q3 => ?_
  have q93 := (q1.trans q2).trans q3
  have hknv := hkn9.get q93 (fun h => h) fun _ _ h => h
  have kv := k2.at q3
  have sq := q93.size
  have kn' : c2 < v3.heap.size := kv.lt
  have hc2 : w9.heap.size ≤ c2 := by have := q1.size; omega
  rcases hcase with hms0 | ⟨A, e, B, hL, heh, heA, hem, hea, hec⟩
  · have hnoh := hnil hms0
    refine w_entryN (.slice none 0 0) (by rfl) (by rfl) Try.underlying83 key_hd zero_ms (by rfl) (by rfl) hknv.mp (look_none _ 0 (tr_ne hnoh)) ?_
    intro v4 q4 hm4
    repeat (first | refine x_move (by rfl) ?_ | refine x_as (by rfl) (by rfl) ?_ | refine x_skip (by rfl) ?_ | refine x_fld (by rfl) (by rfl) FldO.h ?_ | refine x_nilck (by rfl) (by rfl) ?_ | refine x_len (by rfl) (by rfl) ElOf.some ?_ | refine x_ext (by rfl) (by rfl) (by rfl) ?_ | refine x_pickT (by rfl) (by rfl) (by rfl) ?_ | refine x_pickF (by rfl) (by rfl) (by rfl) ?_ | refine x_add (by rfl) (by rfl) (by rfl) (by omega) ?_ | refine x_sub (by rfl) (by rfl) (by rfl) (by omega) ?_ | refine x_not (by rfl) (by rfl) ?_)
    have k4 := kv.get q4 fun e => by have := hdl r (.inr (.inr (.inl rfl))); omega
    refine w_append (more := []) (news := y.m.cells) (by rfl) (by rfl) (by rfl) (by rfl) SlC.h (Own.nil _ _ _) (by rw [List.append_nil]; exact k4) (mt_len _) (mt_one _) (by omega) (hr8.le (by omega)) ?_
    intro sl v5 own5 q5 in5
    rw [Nat.zero_add, List.nil_append] at own5
    have q5' : Ext v4 v5 := (Upd.refl _ v4).trans' q5 fun b _ h => h
    repeat (first | refine x_move (by rfl) ?_ | refine x_as (by rfl) (by rfl) ?_ | refine x_skip (by rfl) ?_ | refine x_fld (by rfl) (by rfl) FldO.h ?_ | refine x_nilck (by rfl) (by rfl) ?_ | refine x_len (by rfl) (by rfl) ElOf.some ?_ | refine x_ext (by rfl) (by rfl) (by rfl) ?_ | refine x_pickT (by rfl) (by rfl) (by rfl) ?_ | refine x_pickF (by rfl) (by rfl) (by rfl) ?_ | refine x_add (by rfl) (by rfl) (by rfl) (by omega) ?_ | refine x_sub (by rfl) (by rfl) (by rfl) (by omega) ?_ | refine x_not (by rfl) (by rfl) ?_)
    refine w_stored (by rfl) (by rfl) (by rfl) (by rfl) (by rfl) (hm4.at q5') (fun a ha => ?_) ?_
    · obtain ⟨e, he, rfl⟩ := List.mem_map.1 ha
      have := hkn9.born e he
      exact Nat.ne_of_lt this
    intro v6 q6 hm6
    repeat (first | refine x_move (by rfl) ?_ | refine x_as (by rfl) (by rfl) ?_ | refine x_skip (by rfl) ?_ | refine x_fld (by rfl) (by rfl) FldO.h ?_ | refine x_nilck (by rfl) (by rfl) ?_ | refine x_len (by rfl) (by rfl) ElOf.some ?_ | refine x_ext (by rfl) (by rfl) (by rfl) ?_ | refine x_pickT (by rfl) (by rfl) (by rfl) ?_ | refine x_pickF (by rfl) (by rfl) (by rfl) ?_ | refine x_add (by rfl) (by rfl) (by rfl) (by omega) ?_ | refine x_sub (by rfl) (by rfl) (by rfl) (by omega) ?_ | refine x_not (by rfl) (by rfl) ?_)
    refine x_nilw ?_
    (repeat (first | refine swp_seq ?_ | refine swp_block ?_)); refine swp_region (by kernel_rfl) ?_
    repeat (first | refine x_move (by rfl) ?_ | refine x_as (by rfl) (by rfl) ?_ | refine x_skip (by rfl) ?_ | refine x_fld (by rfl) (by rfl) FldO.h ?_ | refine x_nilck (by rfl) (by rfl) ?_ | refine x_len (by rfl) (by rfl) ElOf.some ?_ | refine x_ext (by rfl) (by rfl) (by rfl) ?_ | refine x_pickT (by rfl) (by rfl) (by rfl) ?_ | refine x_pickF (by rfl) (by rfl) (by rfl) ?_ | refine x_add (by rfl) (by rfl) (by rfl) (by omega) ?_ | refine x_sub (by rfl) (by rfl) (by rfl) (by omega) ?_ | refine x_not (by rfl) (by rfl) ?_)
    refine x_nilw ?_
    refine swp_ret ?_; (repeat (first | with_reducible refine r_then ?_ | with_reducible refine r_block ?_ | with_reducible refine r_jump ?_))
    obtain ⟨a5, c5, rfl⟩ := own5.slice
    have sq4 := q4.size; have sq5 := q5.size
    have inew : ∀ b, isIn (.slice a5 1 c5) b → v4.heap.size ≤ b := fun b hb => (in5 b hb).resolve_left fun h => h
    have hrl := hdl r (.inr (.inr (.inl rfl)))
    have qT : Upd (fun b => b = r ∨ kfoot L b) w9 v6 := (((q93.of _).trans' q4 fun b _ e => .inl e).ext q5').trans' q6 fun b _ e => .inl e
    refine post1 rfl rfl ⟨_, rfl, .inr ⟨rfl, hno, fin v6 (L ++ [⟨x.m.head, a5, c5, [y.m], clock⟩]) (clock + 1) ?_ ?_ qT⟩⟩
    · refine ⟨?_, fun e he => ?_, ?_, fun e he => ?_, ?_, fun e he m hm => ?_, fun e he => ?_, ?_, ?_⟩
      · rw [List.map_append]; exact hm6
      · rcases List.mem_append.1 he with he | he
        · exact (((hknv.own e he).get q4 fun b hb e2 => hrk ⟨e, he, by rw [← e2]; exact hb⟩).at q5').get q6 fun b hb e2 => hrk ⟨e, he, by rw [← e2]; exact hb⟩
        · rw [List.mem_singleton.1 he]
          have : fl Mt.cells [y.m] = y.m.cells := by rw [fl_one]
          show Own v6 29 4 (.slice a5 1 c5) 1 (fl Mt.cells [y.m])
          rw [this]
          exact own5.get q6 fun b hb e2 => by have := inew b hb; have e3 : b = r := e2; omega
      · rw [List.pairwise_append]
        refine ⟨hkn9.ne, List.pairwise_singleton _ _, fun e he f hf => ?_⟩
        rw [List.mem_singleton.1 hf]
        exact hnoh e he
      · rcases List.mem_append.1 he with he | he
        · have := hkn9.born e he; omega
        · rw [List.mem_singleton.1 he]; exact Nat.lt_succ_self _
      · rw [List.pairwise_append]
        refine ⟨hkn9.bornNe, List.pairwise_singleton _ _, fun e he f hf => ?_⟩
        rw [List.mem_singleton.1 hf]
        exact Nat.ne_of_lt (hkn9.born e he)
      · rcases List.mem_append.1 he with he | he
        · exact hkn9.head e he m hm
        · rw [List.mem_singleton.1 he] at hm ⊢
          rw [List.mem_singleton.1 hm]
          exact hhead
      · rcases List.mem_append.1 he with he | he
        · exact hkn9.full e he
        · rw [List.mem_singleton.1 he]; simp
      · rw [List.pairwise_append]
        refine ⟨hkn9.blk, List.pairwise_singleton _ _, fun e he f hf b hb hb' => ?_⟩
        rw [List.mem_singleton.1 hf] at hb'
        have := inew b hb'
        have := hdl b (.inr (.inr (.inr ⟨e, he, hb⟩)))
        omega
      · rw [List.flatMap_append]
        simp only [List.flatMap_cons, List.flatMap_nil, List.append_nil]
        exact (hkn9.perm.append_right [y.m]).trans hperm.symm
    · rintro b ⟨e, he, hb⟩
      rcases List.mem_append.1 he with he | he
      · exact .inl ⟨e, he, hb⟩
      · rw [List.mem_singleton.1 he] at hb
        have := inew b hb
        exact .inr (by omega)
  · subst hL
    have heL : e ∈ A ++ e :: B := by simp
    have htr : (A ++ e :: B).map KE.tr = A.map KE.tr ++ (x.m.head, e.sl, e.born) :: B.map KE.tr := by rw [List.map_append, List.map_cons, ← heh]; rfl
    have hmpv := hknv.mp
    rw [htr] at hmpv
    have hborn : ∀ a ∈ A.map KE.tr, a.2.2 ≠ e.born := fun a ha => by
      obtain ⟨f, hf, rfl⟩ := List.mem_map.1 ha
      exact (List.pairwise_append.1 hkn9.bornNe).2.2 f hf e (by simp)
    have hrl := hdl r (.inr (.inr (.inl rfl)))
    have hel : ∀ b, isIn e.sl b → b < w.heap.size := fun b hb => hdl b (.inr (.inr (.inr ⟨e, heL, hb⟩)))
    refine w_entryE (by rfl) (by rfl) Try.underlying83 key_hd hd_bits (by rfl) (by rfl) hmpv (tr_ne heA) ?_
    intro v4 q4 hm4
    repeat (first | refine x_move (by rfl) ?_ | refine x_as (by rfl) (by rfl) ?_ | refine x_skip (by rfl) ?_ | refine x_fld (by rfl) (by rfl) FldO.h ?_ | refine x_nilck (by rfl) (by rfl) ?_ | refine x_len (by rfl) (by rfl) ElOf.some ?_ | refine x_ext (by rfl) (by rfl) (by rfl) ?_ | refine x_pickT (by rfl) (by rfl) (by rfl) ?_ | refine x_pickF (by rfl) (by rfl) (by rfl) ?_ | refine x_add (by rfl) (by rfl) (by rfl) (by omega) ?_ | refine x_sub (by rfl) (by rfl) (by rfl) (by omega) ?_ | refine x_not (by rfl) (by rfl) ?_)
    have k4 := kv.get q4 fun e => by omega
    have heo := (hknv.own e heL).get q4 fun b hb e2 => hrk ⟨e, heL, by rw [← e2]; exact hb⟩
    refine w_append (more := []) (news := y.m.cells) (by rfl) (by rfl) (by rfl) (by rfl) SlC.h heo (by rw [List.append_nil]; exact k4) (mt_len _) (mt_one _) (by omega) (hr8.le (by rw [hem]; omega)) ?_
    intro sl v5 own5 q5 in5
    repeat (first | refine x_move (by rfl) ?_ | refine x_as (by rfl) (by rfl) ?_ | refine x_skip (by rfl) ?_ | refine x_fld (by rfl) (by rfl) FldO.h ?_ | refine x_nilck (by rfl) (by rfl) ?_ | refine x_len (by rfl) (by rfl) ElOf.some ?_ | refine x_ext (by rfl) (by rfl) (by rfl) ?_ | refine x_pickT (by rfl) (by rfl) (by rfl) ?_ | refine x_pickF (by rfl) (by rfl) (by rfl) ?_ | refine x_add (by rfl) (by rfl) (by rfl) (by omega) ?_ | refine x_sub (by rfl) (by rfl) (by rfl) (by omega) ?_ | refine x_not (by rfl) (by rfl) ?_)
    refine w_storedE (by rfl) (by rfl) (by rfl) (by rfl) (by rfl) (hm4.get q5 fun h => hrk ⟨e, heL, h⟩) hborn ?_
    intro v6 q6 hm6
    repeat (first | refine x_move (by rfl) ?_ | refine x_as (by rfl) (by rfl) ?_ | refine x_skip (by rfl) ?_ | refine x_fld (by rfl) (by rfl) FldO.h ?_ | refine x_nilck (by rfl) (by rfl) ?_ | refine x_len (by rfl) (by rfl) ElOf.some ?_ | refine x_ext (by rfl) (by rfl) (by rfl) ?_ | refine x_pickT (by rfl) (by rfl) (by rfl) ?_ | refine x_pickF (by rfl) (by rfl) (by rfl) ?_ | refine x_add (by rfl) (by rfl) (by rfl) (by omega) ?_ | refine x_sub (by rfl) (by rfl) (by rfl) (by omega) ?_ | refine x_not (by rfl) (by rfl) ?_)
    refine x_nilw ?_
    (repeat (first | refine swp_seq ?_ | refine swp_block ?_)); refine swp_region (by kernel_rfl) ?_
    repeat (first | refine x_move (by rfl) ?_ | refine x_as (by rfl) (by rfl) ?_ | refine x_skip (by rfl) ?_ | refine x_fld (by rfl) (by rfl) FldO.h ?_ | refine x_nilck (by rfl) (by rfl) ?_ | refine x_len (by rfl) (by rfl) ElOf.some ?_ | refine x_ext (by rfl) (by rfl) (by rfl) ?_ | refine x_pickT (by rfl) (by rfl) (by rfl) ?_ | refine x_pickF (by rfl) (by rfl) (by rfl) ?_ | refine x_add (by rfl) (by rfl) (by rfl) (by omega) ?_ | refine x_sub (by rfl) (by rfl) (by rfl) (by omega) ?_ | refine x_not (by rfl) (by rfl) ?_)
    refine x_nilw ?_
    refine swp_ret ?_; (repeat (first | with_reducible refine r_then ?_ | with_reducible refine r_block ?_ | with_reducible refine r_jump ?_))
    obtain ⟨a5, c5, rfl⟩ := own5.slice
    have sq4 := q4.size; have sq5 := q5.size
    have qT : Upd (fun b => b = r ∨ kfoot (A ++ e :: B) b) w9 v6 := ((((q93.of _).trans' q4 fun b _ e => .inl e).trans' q5 fun b _ h => .inr ⟨e, heL, h⟩)).trans' q6 fun b _ e => .inl e
    obtain ⟨pA, pB, pAB⟩ := List.pairwise_append.1 hkn9.blk
    obtain ⟨peB, pB2⟩ := List.pairwise_cons.1 pB
    have hoth : ∀ f, f ∈ A ∨ f ∈ B → ∀ b, isIn f.sl b → ¬isIn e.sl b := fun f hf b hb he' => by
      rcases hf with hf | hf
      · exact pAB f hf e (by simp) b hb he'
      · exact peB f hf b he' hb
    have hfl : ∀ f, f ∈ A ∨ f ∈ B → f ∈ A ++ e :: B := fun f hf => by
      rcases hf with hf | hf <;> simp [hf]
    have isl : ∀ b, isIn (.slice a5 (e.ms.length + 1) c5) b → isIn e.sl b ∨ v4.heap.size ≤ b := in5
    obtain ⟨e', he'⟩ : ∃ e' : KE, e' = ⟨e.h, a5, c5, e.ms ++ [y.m], e.born⟩ := ⟨_, rfl⟩
    have hsl' : e'.sl = .slice a5 (e.ms.length + 1) c5 := by rw [he', KE.sl]; simp
    refine post1 rfl rfl ⟨_, rfl, .inr ⟨rfl, hno, fin v6 (A ++ e' :: B) clock ?_ ?_ qT⟩⟩
    · have hkk : ∀ f, f ∈ A ++ e' :: B → f = e' ∨ (f ∈ A ∨ f ∈ B) := fun f hf => by
        rcases List.mem_append.1 hf with h | h
        · exact .inr (.inl h)
        · rcases List.mem_cons.1 h with h | h
          · exact .inl h
          · exact .inr (.inr h)
      have hh' : e'.h = e.h := by rw [he']
      have hb' : e'.born = e.born := by rw [he']
      have hms' : e'.ms = e.ms ++ [y.m] := by rw [he']
      obtain ⟨nA, nB, nAB⟩ := List.pairwise_append.1 hkn9.ne
      obtain ⟨neB, nB2⟩ := List.pairwise_cons.1 nB
      obtain ⟨bA, bB, bAB⟩ := List.pairwise_append.1 hkn9.bornNe
      obtain ⟨beB, bB2⟩ := List.pairwise_cons.1 bB
      refine ⟨?_, fun f hf => ?_, ?_, fun f hf => ?_, ?_, fun f hf m hm => ?_, fun f hf => ?_, ?_, ?_⟩
      · rw [List.map_append, List.map_cons]
        have : e'.tr = (x.m.head, .slice a5 (e.ms.length + 1) c5, e.born) := by rw [KE.tr, hsl', hh', hb', heh]
        rw [this]
        exact hm6
      · rcases hkk f hf with rfl | hf
        · rw [hsl', hms', List.length_append, List.length_singleton, fl_append, fl_one]
          exact own5.get q6 fun b hb e2 => by
            have e3 : b = r := e2
            rcases isl b hb with h | h
            · exact hrk ⟨e, heL, by rw [← e3]; exact h⟩
            · omega
        · exact (((hknv.own f (hfl f hf)).get q4 fun b hb e2 => hrk ⟨f, hfl f hf, by rw [← e2]; exact hb⟩).get q5 fun b hb h => hoth f hf b hb h).get q6 fun b hb e2 => hrk ⟨f, hfl f hf, by rw [← e2]; exact hb⟩
      · rw [List.pairwise_append, List.pairwise_cons]
        exact ⟨nA, ⟨fun f hf => by rw [hh']; exact neB f hf, nB2⟩, fun f hf g hg => by
          rcases List.mem_cons.1 hg with rfl | hg
          · rw [hh']; exact nAB f hf e (by simp)
          · exact nAB f hf g (by simp [hg])⟩
      · rcases hkk f hf with rfl | hf
        · rw [hb']; exact hkn9.born e heL
        · exact hkn9.born f (hfl f hf)
      · rw [List.pairwise_append, List.pairwise_cons]
        exact ⟨bA, ⟨fun f hf => by rw [hb']; exact beB f hf, bB2⟩, fun f hf g hg => by
          rcases List.mem_cons.1 hg with rfl | hg
          · rw [hb']; exact bAB f hf e (by simp)
          · exact bAB f hf g (by simp [hg])⟩
      · rcases hkk f hf with rfl | hf
        · rw [hms'] at hm
          rw [hh']
          rcases List.mem_append.1 hm with hm | hm
          · exact hkn9.head e heL m hm
          · rw [List.mem_singleton.1 hm, hhead, heh]
        · exact hkn9.head f (hfl f hf) m hm
      · rcases hkk f hf with rfl | hf
        · rw [hms']; simp
        · exact hkn9.full f (hfl f hf)
      · have hnew : ∀ f, f ∈ A ∨ f ∈ B → ∀ b, isIn f.sl b → ¬isIn e'.sl b := fun f hf b hb hb2 => by
          rw [hsl'] at hb2
          rcases isl b hb2 with h | h
          · exact hoth f hf b hb h
          · have := hdl b (.inr (.inr (.inr ⟨f, hfl f hf, hb⟩)))
            omega
        rw [List.pairwise_append, List.pairwise_cons]
        exact ⟨pA, ⟨fun f hf b hb hb2 => hnew f (.inr hf) b hb2 hb, pB2⟩, fun f hf g hg b hb hb2 => by
          rcases List.mem_cons.1 hg with rfl | hg
          · exact hnew f (.inl hf) b hb hb2
          · exact pAB f hf g (by simp [hg]) b hb hb2⟩
      · refine List.Perm.trans ?_ hperm.symm
        refine List.Perm.trans ?_ (hkn9.perm.append_right [y.m])
        simp only [List.flatMap_append, List.flatMap_cons, hms', List.append_assoc]
        refine List.Perm.append_left _ (List.Perm.append_left _ ?_)
        exact List.perm_append_comm
    · rintro b ⟨f, hf, hb⟩
      rcases List.mem_append.1 hf with hf | hf
      · exact .inl ⟨f, by simp [hf], hb⟩
      · rcases List.mem_cons.1 hf with rfl | hf
        · rw [hsl'] at hb
          rcases isl b hb with h | h
          · exact .inl ⟨e, heL, h⟩
          · exact .inr (by omega)
        · exact .inl ⟨f, by simp [hf], hb⟩
end Go.Proofs.Ytpnigekkbmanlaa
