/- Due in plain terms: what waits, in its order, and what is known by heads; New, Len. No conditions. -/
import Derived.Test.YtpnigekkbmanlaaPl
import Derived.Test.YtpnigekkbmanlaaPWtg
namespace Go.Proofs.Ytpnigekkbmanlaa
open Sx Hp

/-- one head's matches, as the map holds them -/
structure KE where
  h : Hd
  a : Option Addr
  c : Nat
  ms : List Mt
  born : Nat
def KE.sl (e : KE) : Value := .slice e.a e.ms.length e.c
def KE.tr (e : KE) : Hd × Value × Nat := (e.h, e.sl, e.born)
structure Kn (w : World) (r clock : Nat) (L : List KE) (M : List Mt) : Prop where
  mp : Mp w r Hd.cells (L.map KE.tr) clock
  own : ∀ e ∈ L, Own w 29 4 e.sl e.ms.length (fl Mt.cells e.ms)
  ne : L.Pairwise fun e f => e.h ≠ f.h
  born : ∀ e ∈ L, e.born < clock
  bornNe : L.Pairwise fun e f => e.born ≠ f.born
  head : ∀ e ∈ L, ∀ m ∈ e.ms, m.head = e.h
  full : ∀ e ∈ L, e.ms ≠ []
  blk : L.Pairwise fun e f => ∀ b, isIn e.sl b → ¬isIn f.sl b
  perm : (L.flatMap KE.ms).Perm M
def kfoot (L : List KE) (b : Nat) : Prop := ∃ e ∈ L, isIn e.sl b
def dfoot (bd bp r : Nat) (sv : Value) (L : List KE) (b : Nat) : Prop := b = bd ∨ PWt.foot bp sv b ∨ b = r ∨ kfoot L b
structure Du (w : World) (bd bp r : Nat) (sv : Value) (S : List Wt) (N clock : Nat) (L : List KE) : Prop where
  blk : Blk w bd 85 [.pointer (some ⟨bp, 0, none⟩), .map (some r)]
  pile : PWt.Pile w bp sv S N
  kn : Kn w r clock L (S.map Wt.m)
  each : ∀ x ∈ S, x.Rdy w
  ap : ∀ x ∈ S, ∀ b, x.In b → ¬dfoot bd bp r sv L b
  rise : S.Pairwise fun x y => wlt x y = true

theorem Kn.get {F : Nat → Prop} {w w' : World} {r clock : Nat} {L : List KE} {M : List Mt} (h : Kn w r clock L M) (u : Upd F w w') (h1 : ¬F r) (h2 : ∀ b, kfoot L b → ¬F b) : Kn w' r clock L M :=
  ⟨h.mp.get u h1, fun e he => (h.own e he).get u fun b hb => h2 b ⟨e, he, hb⟩, h.ne, h.born, h.bornNe, h.head, h.full, h.blk, h.perm⟩
theorem Du.get {F : Nat → Prop} {w w' : World} {bd bp r : Nat} {sv : Value} {S : List Wt} {N clock : Nat} {L : List KE} (h : Du w bd bp r sv S N clock L) (u : Upd F w w') (h1 : ∀ b, dfoot bd bp r sv L b → ¬F b) (h2 : ∀ x ∈ S, ∀ b, x.In b → ¬F b) : Du w' bd bp r sv S N clock L :=
  ⟨h.blk.get u (h1 bd (.inl rfl)), h.pile.get u fun b hb => h1 b (.inr (.inl hb)), h.kn.get u (h1 r (.inr (.inr (.inl rfl)))) fun b hb => h1 b (.inr (.inr (.inr hb))), fun x hx => (h.each x hx).get u (h2 x hx), h.ap, h.rise⟩
theorem Du.at {w w' : World} {bd bp r : Nat} {sv : Value} {S : List Wt} {N clock : Nat} {L : List KE} (h : Du w bd bp r sv S N clock L) (u : Ext w w') : Du w' bd bp r sv S N clock L := h.get u (fun _ _ h => h) fun _ _ _ _ h => h
theorem Du.lt {w : World} {bd bp r : Nat} {sv : Value} {S : List Wt} {N clock : Nat} {L : List KE} (h : Du w bd bp r sv S N clock L) {b : Nat} (hb : dfoot bd bp r sv L b) : b < w.heap.size := by
  rcases hb with rfl | hb | rfl | ⟨e, he, hb⟩
  · exact h.blk.lt
  · exact h.pile.lt hb
  · exact h.kn.mp.lt
  · exact (h.kn.own e he).lt hb
/-- unlike kinds of blocks are unlike blocks -/
theorem blk_ne {w : World} {b b' : Nat} {t t' : TypeId} {cs cs' : List Value} (h : Blk w b t cs) (h' : Blk w b' t' cs') (ht : t ≠ t') : b ≠ b' := fun e => by subst e; exact ht (h.inj h').2
theorem own_in {w : World} {e : TypeId} {sz n : Nat} {sv : Value} {xs : List Value} (h : Own w e sz sv n xs) {b : Nat} (hb : isIn sv b) : ∃ cs, Blk w b e cs := by
  rcases h.2 with ⟨rfl, rfl⟩ | ⟨g, cap, rest, rfl, hg, _⟩
  · exact hb.elim
  · have e : b = g := hb
    subst e
    exact ⟨_, hg⟩
theorem mp_ne {w : World} {r b clock : Nat} {Le : List (Hd × Value × Nat)} {t : TypeId} {cs : List Value} (h : Mp w r Hd.cells Le clock) (h' : Blk w b t cs) : b ≠ r := fun e => by
  subst e
  unfold Mp at h
  unfold Blk at h'
  rw [h] at h'
  injection h' with h'
  cases h'
theorem Du.bdp {w : World} {bd bp r : Nat} {sv : Value} {S : List Wt} {N clock : Nat} {L : List KE} (h : Du w bd bp r sv S N clock L) {b : Nat} (hb : PWt.foot bp sv b) : b ≠ bd ∧ b ≠ r ∧ ¬kfoot L b := by
  obtain ⟨Le, hP, hH⟩ := h.pile
  rcases hb with rfl | hb
  · refine ⟨blk_ne hP.blk h.blk (by decide), mp_ne h.kn.mp hP.blk, fun ⟨e, he, h2⟩ => ?_⟩
    obtain ⟨cs, hcs⟩ := own_in (h.kn.own e he) h2
    exact blk_ne hP.blk hcs (by decide) rfl
  · obtain ⟨cs, hcs⟩ := own_in hP.own hb
    refine ⟨blk_ne hcs h.blk (by decide), mp_ne h.kn.mp hcs, fun ⟨e, he, h2⟩ => ?_⟩
    obtain ⟨cs', hcs'⟩ := own_in (h.kn.own e he) h2
    exact blk_ne hcs hcs' (by decide) rfl
theorem Du.bdr {w : World} {bd bp r : Nat} {sv : Value} {S : List Wt} {N clock : Nat} {L : List KE} (h : Du w bd bp r sv S N clock L) : bd ≠ r ∧ ¬kfoot L bd ∧ ¬kfoot L r := by
  refine ⟨mp_ne h.kn.mp h.blk, fun ⟨e, he, h2⟩ => ?_, fun ⟨e, he, h2⟩ => ?_⟩
  · obtain ⟨cs, hcs⟩ := own_in (h.kn.own e he) h2
    exact blk_ne h.blk hcs (by decide) rfl
  · obtain ⟨cs, hcs⟩ := own_in (h.kn.own e he) h2
    exact mp_ne h.kn.mp hcs rfl

/-- Due behind the pointer bd; all of its memory lies in G. -/
def Dv (w : World) (bd : Nat) (G : Nat → Prop) (S : List Wt) (N : Nat) : Prop := ∃ bp r sv clock L, Du w bd bp r sv S N clock L ∧ (∀ b, dfoot bd bp r sv L b → G b) ∧ ∀ x ∈ S, ∀ b, x.In b → G b
theorem Dv.get {F G : Nat → Prop} {w w' : World} {bd : Nat} {S : List Wt} {N : Nat} (h : Dv w bd G S N) (u : Upd F w w') (hn : ∀ b, b < w.heap.size → G b → ¬F b) : Dv w' bd G S N := by
  obtain ⟨bp, r, sv, clock, L, hD, h1, h2⟩ := h
  exact ⟨bp, r, sv, clock, L, hD.get u (fun b hb => hn b (hD.lt hb) (h1 b hb)) fun x hx b hb => hn b ((hD.each x hx).lt hb) (h2 x hx b hb), h1, h2⟩
theorem Dv.at {G : Nat → Prop} {w w' : World} {bd : Nat} {S : List Wt} {N : Nat} (h : Dv w bd G S N) (u : Ext w w') : Dv w' bd G S N := h.get u fun _ _ _ h => h
theorem Dv.rise {G : Nat → Prop} {w : World} {bd : Nat} {S : List Wt} {N : Nat} (h : Dv w bd G S N) : S.Pairwise fun x y => wlt x y = true := by
  obtain ⟨bp, r, sv, clock, L, hD, -⟩ := h
  exact hD.rise
theorem Dv.each {G : Nat → Prop} {w : World} {bd : Nat} {S : List Wt} {N : Nat} (h : Dv w bd G S N) : ∀ x ∈ S, x.Rdy w := by
  obtain ⟨bp, r, sv, clock, L, hD, -⟩ := h
  exact hD.each

set_option maxRecDepth 100000 in
theorem due_new (w : World) : Gets Try.prog 19 [] w fun v w' => ∃ bd, v = .pointer (some ⟨bd, 0, none⟩) ∧ Dv w' bd (fun b => w.heap.size ≤ b) [] 0 ∧ Ext w w' := by
  refine ⟨GoFn.h, calls_of_swp 5 Try.func19 Try.ntmps19 rfl (Nat.le_of_ble_eq_true rfl) ?_⟩
  (repeat (first | refine swp_seq ?_ | refine swp_block ?_)); refine swp_region (by kernel_rfl) ?_
  repeat (first | refine x_move (by rfl) ?_ | refine x_as (by rfl) (by rfl) ?_ | refine x_skip (by rfl) ?_ | refine x_fld (by rfl) (by rfl) FldO.h ?_ | refine x_nilck (by rfl) (by rfl) ?_ | refine x_len (by rfl) (by rfl) ElOf.some ?_ | refine x_ext (by rfl) (by rfl) (by rfl) ?_ | refine x_pickT (by rfl) (by rfl) (by rfl) ?_ | refine x_pickF (by rfl) (by rfl) (by rfl) ?_ | refine x_add (by rfl) (by rfl) (by rfl) (by omega) ?_ | refine x_sub (by rfl) (by rfl) (by rfl) (by omega) ?_ | refine x_not (by rfl) (by rfl) ?_)
  refine x_nilw ?_
  (repeat (first | refine swp_seq ?_ | refine swp_block ?_)); refine swp_region (by kernel_rfl) ?_
  refine w_call (by rfl) (by rfl) (by rfl) (PWt.new w) ?_
  rintro _ w1 ⟨bp, rfl, hbp, u1, hp1⟩
  refine w_map Hd.cells (by rfl) (by rfl) ?_
  intro r w2 hr u2 hm2
  refine x_build (v := .agg [.pointer (some ⟨bp, 0, none⟩), .map (some r)].toArray) (by rfl) (by rfl) (fun _ => by kernel_rfl) ?_
  refine w_boxA (by rfl) (by rfl) (by rfl) ?_; intro b3 w3 e3 u3 h3
  repeat (first | refine x_move (by rfl) ?_ | refine x_as (by rfl) (by rfl) ?_ | refine x_skip (by rfl) ?_ | refine x_fld (by rfl) (by rfl) FldO.h ?_ | refine x_nilck (by rfl) (by rfl) ?_ | refine x_len (by rfl) (by rfl) ElOf.some ?_ | refine x_ext (by rfl) (by rfl) (by rfl) ?_ | refine x_pickT (by rfl) (by rfl) (by rfl) ?_ | refine x_pickF (by rfl) (by rfl) (by rfl) ?_ | refine x_add (by rfl) (by rfl) (by rfl) (by omega) ?_ | refine x_sub (by rfl) (by rfl) (by rfl) (by omega) ?_ | refine x_not (by rfl) (by rfl) ?_)
  refine x_nilw ?_
  refine swp_ret ?_; (repeat (first | with_reducible refine r_then ?_ | with_reducible refine r_block ?_ | with_reducible refine r_jump ?_))
  have s1 := u1.size; have s2 := u2.size; have s3 := u3.size
  have hd : Du w3 b3 bp r (.slice none 0 0) [] 0 0 [] := ⟨h3, (hp1.at u2).at u3, ⟨hm2.at u3, by simp, List.Pairwise.nil, by simp, List.Pairwise.nil, by simp, by simp, List.Pairwise.nil, List.Perm.refl _⟩, by simp, by simp, List.Pairwise.nil⟩
  refine post1 rfl rfl ⟨_, rfl, b3, rfl, ⟨bp, r, _, 0, [], hd, fun b hb => ?_, by simp⟩, (u1.trans u2).trans u3⟩
  rcases hb with rfl | (h | h) | rfl | ⟨e, he, _⟩
  · omega
  · omega
  · exact h.elim
  · omega
  · simp at he

set_option maxRecDepth 100000 in
theorem due_len {w : World} {bd : Nat} {G : Nat → Prop} {S : List Wt} {N : Nat} (h : Dv w bd G S N) : Gets Try.prog 34 [.pointer (some ⟨bd, 0, none⟩)] w fun v w' => v = .int .i64 (S.length : Nat) ∧ w = w' := by
  obtain ⟨bp, r, sv, clock, L, hD, -⟩ := h
  have hb := hD.blk
  refine ⟨GoFn.h, calls_of_swp 8 Try.func34 Try.ntmps34 rfl (Nat.le_of_ble_eq_true rfl) ?_⟩
  (repeat (first | refine swp_seq ?_ | refine swp_block ?_)); refine swp_region (by kernel_rfl) ?_
  repeat (first | refine x_move (by rfl) ?_ | refine x_as (by rfl) (by rfl) ?_ | refine x_skip (by rfl) ?_ | refine x_fld (by rfl) (by rfl) FldO.h ?_ | refine x_nilck (by rfl) (by rfl) ?_ | refine x_len (by rfl) (by rfl) ElOf.some ?_ | refine x_ext (by rfl) (by rfl) (by rfl) ?_ | refine x_pickT (by rfl) (by rfl) (by rfl) ?_ | refine x_pickF (by rfl) (by rfl) (by rfl) ?_ | refine x_add (by rfl) (by rfl) (by rfl) (by omega) ?_ | refine x_sub (by rfl) (by rfl) (by rfl) (by omega) ?_ | refine x_not (by rfl) (by rfl) ?_)
  refine x_nilw ?_
  (repeat (first | refine swp_seq ?_ | refine swp_block ?_)); refine swp_region (by kernel_rfl) ?_
  repeat (first | refine x_move (by rfl) ?_ | refine x_as (by rfl) (by rfl) ?_ | refine x_skip (by rfl) ?_ | refine x_fld (by rfl) (by rfl) FldO.h ?_ | refine x_nilck (by rfl) (by rfl) ?_ | refine x_len (by rfl) (by rfl) ElOf.some ?_ | refine x_ext (by rfl) (by rfl) (by rfl) ?_ | refine x_pickT (by rfl) (by rfl) (by rfl) ?_ | refine x_pickF (by rfl) (by rfl) (by rfl) ?_ | refine x_add (by rfl) (by rfl) (by rfl) (by omega) ?_ | refine x_sub (by rfl) (by rfl) (by rfl) (by omega) ?_ | refine x_not (by rfl) (by rfl) ?_)
  refine w_load (by rfl) (by rfl) (load_one OneT.h hb (by rfl)) ?_
  refine w_call (by rfl) (by rfl) (by rfl) (PWt.len hD.pile) ?_
  rintro _ _ ⟨rfl, rfl⟩
  repeat (first | refine x_move (by rfl) ?_ | refine x_as (by rfl) (by rfl) ?_ | refine x_skip (by rfl) ?_ | refine x_fld (by rfl) (by rfl) FldO.h ?_ | refine x_nilck (by rfl) (by rfl) ?_ | refine x_len (by rfl) (by rfl) ElOf.some ?_ | refine x_ext (by rfl) (by rfl) (by rfl) ?_ | refine x_pickT (by rfl) (by rfl) (by rfl) ?_ | refine x_pickF (by rfl) (by rfl) (by rfl) ?_ | refine x_add (by rfl) (by rfl) (by rfl) (by omega) ?_ | refine x_sub (by rfl) (by rfl) (by rfl) (by omega) ?_ | refine x_not (by rfl) (by rfl) ?_)
  refine x_nilw ?_
  refine swp_ret ?_; (repeat (first | with_reducible refine r_then ?_ | with_reducible refine r_block ?_ | with_reducible refine r_jump ?_))
  exact post1 rfl rfl ⟨_, rfl, rfl, rfl⟩

/-! what is known by heads -/
theorem head_of_key {m o : Mt} (h : m.key = o.key) : m.head = o.head := by
  simp only [Mt.key, Prod.mk.injEq] at h
  unfold Mt.head
  rw [h.1, h.2.1, h.2.2]
/-- where a head stands -/
theorem Kn.look {w : World} {r clock : Nat} {L : List KE} {M : List Mt} (_ : Kn w r clock L M) (k : Hd) : (∃ A e B, L = A ++ e :: B ∧ e.h = k ∧ ∀ a ∈ A, a.h ≠ k) ∨ ∀ e ∈ L, e.h ≠ k := by
  have go : ∀ L : List KE, (∃ A e B, L = A ++ e :: B ∧ e.h = k ∧ ∀ a ∈ A, a.h ≠ k) ∨ ∀ e ∈ L, e.h ≠ k := by
    intro L
    induction L with
    | nil => exact .inr (by simp)
    | cons x L ih =>
      by_cases hx : x.h = k
      · exact .inl ⟨[], x, L, rfl, hx, by simp⟩
      · rcases ih with ⟨A, e, B, rfl, h1, h2⟩ | h
        · refine .inl ⟨x :: A, e, B, rfl, h1, fun a ha => ?_⟩
          rcases List.mem_cons.1 ha with rfl | ha
          · exact hx
          · exact h2 a ha
        · refine .inr fun e he => ?_
          rcases List.mem_cons.1 he with rfl | he
          · exact hx
          · exact h e he
  exact go L
theorem tr_ne {A : List KE} {k : Hd} (h : ∀ a ∈ A, a.h ≠ k) : ∀ a ∈ A.map KE.tr, k ≠ a.1 := fun a ha => by
  obtain ⟨e, he, rfl⟩ := List.mem_map.1 ha
  exact Ne.symm (h e he)
/-- what is looked up; whether an alike one waits -/
theorem Kn.lookup {w : World} {r clock : Nat} {L : List KE} {S : List Wt} (h : Kn w r clock L (S.map Wt.m)) (m : Mt) (hR : ∀ x ∈ S, x.Rdy w) :
    ∃ a c ms, ((lookAt m.head (L.map KE.tr) 0).map (·.2)).getD (.slice none 0 0) = .slice a ms.length c ∧ Rd w 4 (.slice a ms.length c) ms.length (fl Mt.cells ms) ∧ (∀ o ∈ ms, o.Rdy w ∧ m.names.length = o.names.length) ∧ ms.length ≤ S.length ∧ (0 ≤ placeOf ms m ↔ ∃ x ∈ S, x.m.key = m.key) ∧ (ms = [] ∨ ∃ A e B, L = A ++ e :: B ∧ e.h = m.head ∧ (∀ a ∈ A, a.h ≠ m.head) ∧ e.ms = ms ∧ e.a = a ∧ e.c = c) ∧ (ms = [] → ∀ e ∈ L, e.h ≠ m.head) := by
  have hmem : ∀ e ∈ L, ∀ o ∈ e.ms, ∃ x ∈ S, x.m = o := fun e he o ho => by
    have := h.perm.mem_iff.1 (List.mem_flatMap.2 ⟨e, he, ho⟩)
    obtain ⟨x, hx, rfl⟩ := List.mem_map.1 this
    exact ⟨x, hx, rfl⟩
  have hkey : ∀ x ∈ S, x.m.key = m.key → ∃ e ∈ L, x.m ∈ e.ms ∧ e.h = m.head := fun x hx hk => by
    have := h.perm.mem_iff.2 (List.mem_map_of_mem (f := Wt.m) hx)
    obtain ⟨e, he, ho⟩ := List.mem_flatMap.1 this
    exact ⟨e, he, ho, by rw [← h.head e he _ ho, head_of_key hk]⟩
  rcases h.look m.head with ⟨A, e, B, rfl, h1, h2⟩ | h1
  · have heL : e ∈ A ++ e :: B := by simp
    have hl := look_mid (key := m.head) (v := e.sl) (c := e.born) (B := B.map KE.tr) (A.map KE.tr) 0 (tr_ne h2)
    have htr : (A ++ e :: B).map KE.tr = A.map KE.tr ++ (m.head, e.sl, e.born) :: B.map KE.tr := by rw [List.map_append, List.map_cons, ← h1]; rfl
    refine ⟨e.a, e.c, e.ms, by rw [htr, hl]; rfl, (h.own e heL).rd, fun o ho => ?_, ?_, ⟨fun hp => ?_, fun ⟨x, hx, hk⟩ => ?_⟩, .inr ⟨A, e, B, rfl, h1, h2, rfl, rfl, rfl⟩, fun hn => absurd hn (h.full e heL)⟩
    · obtain ⟨x, hx, rfl⟩ := hmem e heL o ho
      refine ⟨(hR x hx).m, ?_⟩
      have := h.head e heL _ ho
      rw [h1] at this
      simp only [Mt.head, Hd.mk.injEq] at this
      omega
    · have := h.perm.length_eq
      rw [List.length_map] at this
      simp only [List.flatMap_append, List.flatMap_cons, List.length_append] at this
      omega
    · unfold placeOf at hp
      cases hf : e.ms.findIdx? m.same2 with
      | none => rw [hf] at hp; simp at hp
      | some i =>
        obtain ⟨hi, hs, -⟩ := List.findIdx?_eq_some_iff_getElem.1 hf
        obtain ⟨x, hx, hxe⟩ := hmem e heL _ (List.getElem_mem hi)
        refine ⟨x, hx, ?_⟩
        rw [← hxe] at hs
        have hd := h.head e heL _ (List.getElem_mem hi)
        rw [← hxe, h1] at hd
        simp only [Mt.head, Hd.mk.injEq] at hd
        simp only [Mt.same2, Bool.and_eq_true, decide_eq_true_eq] at hs
        simp only [Mt.key, hd.1, ← hs.1, ← hs.2]
    · obtain ⟨e', he', ho, hh⟩ := hkey x hx hk
      have : e' = e := by
        rcases List.mem_append.1 he' with ha | hb
        · exact absurd hh (h2 e' ha)
        · rcases List.mem_cons.1 hb with hb | hb
          · exact hb
          · have := (List.pairwise_cons.1 (List.pairwise_append.1 h.ne).2.1).1 e' hb
            rw [hh, h1] at this
            exact absurd rfl this
      subst this
      unfold placeOf
      cases hf : e'.ms.findIdx? m.same2 with
      | some i => simp
      | none =>
        rw [List.findIdx?_eq_none_iff] at hf
        have := hf x.m ho
        simp only [Mt.key, Prod.mk.injEq] at hk
        simp [Mt.same2, hk.2.1, hk.2.2] at this
  · refine ⟨none, 0, [], by rw [look_none _ 0 (tr_ne h1)]; rfl, Rd.nil _ _ _ _, by simp, by simp, ⟨fun hp => by simp [placeOf] at hp, fun ⟨x, hx, hk⟩ => ?_⟩, .inl rfl, fun _ => h1⟩
    obtain ⟨e, he, _, hh⟩ := hkey x hx hk
    exact absurd hh (h1 e he)
end Go.Proofs.Ytpnigekkbmanlaa
