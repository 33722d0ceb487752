/- filled: a new Due with the first of each kind of a list. Conditions: what is read; room. -/
import Derived.Test.YtpnigekkbmanlaaLw
import Derived.Test.YtpnigekkbmanlaaDm
namespace Go.Proofs.Ytpnigekkbmanlaa
open Sx Hp

theorem Dv.shrink {G : Nat → Prop} {w : World} {bd : Nat} {S : List Wt} {N : Nat} (h : Dv w bd G S N) : Dv w bd (fun b => G b ∧ b < w.heap.size) S N := by
  obtain ⟨bp, r, sv, clock, L, hD, h1, h2⟩ := h
  exact ⟨bp, r, sv, clock, L, hD, fun b hb => ⟨h1 b hb, hD.lt hb⟩, fun x hx b hb => ⟨h2 x hx b hb, (hD.each x hx).lt hb⟩⟩
theorem Dv.mono {G H : Nat → Prop} {w : World} {bd : Nat} {S : List Wt} {N : Nat} (h : Dv w bd G S N) (hg : ∀ b, G b → H b) : Dv w bd H S N := by
  obtain ⟨bp, r, sv, clock, L, hD, h1, h2⟩ := h
  exact ⟨bp, r, sv, clock, L, hD, fun b hb => hg b (h1 b hb), fun x hx b hb => hg b (h2 x hx b hb)⟩

def wls (a b : Sw) : Bool := slt a.1 b.1
theorem wls_ord : Ord wls := klt_tot.ord fun a : Sw => (a.1.1, a.1.2.1, a.1.2.2.1)
/-- the first of each kind -/
def addTo (acc : List Wt) (x : Wt) : List Wt := if acc.any (aliA x) then acc else acc ++ [x]
/-- what waits is what was taken in, in its order -/
def Wts (S inl : List Wt) : Prop := S.map Wt.says = (inl.map Wt.says).foldl (put wls) []
theorem says_key {x y : Wt} (h : x.says = y.says) : x.m.key = y.m.key := by
  have h1 : x.m.says = y.m.says := congrArg Prod.fst h
  simp only [Mt.says, Prod.mk.injEq] at h1
  simp only [Mt.key, h1.1, h1.2.1, h1.2.2.1]
theorem Wts.perm {S inl : List Wt} (h : Wts S inl) : (S.map Wt.says).Perm (inl.map Wt.says) := by
  unfold Wts at h
  rw [h]
  simpa using foldl_put_perm (lt := wls) (inl.map Wt.says) []
theorem Wts.len {S inl : List Wt} (h : Wts S inl) : S.length = inl.length := by simpa using h.perm.length_eq
theorem Wts.mem {S inl : List Wt} (h : Wts S inl) {s : Sw} : (∃ x ∈ S, x.says = s) ↔ ∃ x ∈ inl, x.says = s := by
  have := h.perm.mem_iff (a := s)
  simpa only [List.mem_map] using this
theorem Wts.key {S inl : List Wt} (h : Wts S inl) {k : Int × List Nm × List Int} : (∃ x ∈ S, x.m.key = k) ↔ ∃ x ∈ inl, x.m.key = k := by
  constructor
  · rintro ⟨x, hx, hk⟩
    obtain ⟨y, hy, hs⟩ := h.mem.1 ⟨x, hx, rfl⟩
    exact ⟨y, hy, by rw [says_key hs, hk]⟩
  · rintro ⟨x, hx, hk⟩
    obtain ⟨y, hy, hs⟩ := h.mem.2 ⟨x, hx, rfl⟩
    exact ⟨y, hy, by rw [says_key hs, hk]⟩
theorem Wts.put {S inl : List Wt} (h : Wts S inl) {x y : Wt} (hs : y.says = x.says) : Wts (put wlt S y) (inl ++ [x]) := by
  unfold Wts at *
  rw [put_map (l1 := wlt) (l2 := wls) (f := Wt.says) (fun _ _ => rfl), h, hs, List.map_append, List.foldl_append]
  rfl
theorem any_ali {acc : List Wt} {x : Wt} : acc.any (aliA x) = true ↔ ∃ y ∈ acc, y.m.key = x.m.key := by simp [aliA]
/-- no two of a kind -/
def Unlike (l : List Wt) : Prop := l.Pairwise fun x y => x.m.key ≠ y.m.key
theorem addTo_unlike {acc : List Wt} {x : Wt} (h : Unlike acc) : Unlike (addTo acc x) := by
  unfold addTo
  split
  · exact h
  · rename_i hn
    refine List.pairwise_append.2 ⟨h, List.pairwise_singleton _ _, fun a ha b hb e => ?_⟩
    rw [List.mem_singleton.1 hb] at e
    exact hn (any_ali.2 ⟨a, ha, e⟩)
theorem foldl_unlike : ∀ (l acc : List Wt), Unlike acc → Unlike (l.foldl addTo acc)
  | [], _, h => h
  | _ :: l, _, h => foldl_unlike l _ (addTo_unlike h)
theorem foldl_len : ∀ (l acc : List Wt), (l.foldl addTo acc).length ≤ acc.length + l.length
  | [], _ => by simp
  | x :: l, acc => by
    have := foldl_len l (addTo acc x)
    have h2 : (addTo acc x).length ≤ acc.length + 1 := by unfold addTo; split <;> simp
    simp only [List.foldl_cons, List.length_cons]
    omega
theorem mem_addTo {acc : List Wt} {x y : Wt} (h : y ∈ addTo acc x) : y ∈ acc ∨ y = x := by
  unfold addTo at h
  split at h
  · exact .inl h
  · simpa using h
theorem mem_foldl_addTo : ∀ (l acc : List Wt) {y : Wt}, y ∈ l.foldl addTo acc → y ∈ acc ∨ y ∈ l
  | [], _, _, h => .inl h
  | x :: l, acc, y, h => by
    rcases mem_foldl_addTo l (addTo acc x) h with h | h
    · rcases mem_addTo h with h | h
      · exact .inl h
      · exact .inr (by simp [h])
    · exact .inr (by simp [h])
/-- unlike ones are all taken in -/
theorem foldl_all : ∀ (l acc : List Wt), Unlike (acc ++ l) → l.foldl addTo acc = acc ++ l
  | [], acc, _ => by simp
  | x :: l, acc, h => by
    have hx : addTo acc x = acc ++ [x] := by
      unfold addTo
      rw [if_neg fun hn => ?_]
      obtain ⟨y, hy, hk⟩ := any_ali.1 hn
      exact (List.pairwise_append.1 h).2.2 y hy x (by simp) hk
    rw [List.foldl_cons, hx, foldl_all l (acc ++ [x]) (by simpa using h)]
    simp

/-- what filled answers -/
structure Filled (w w' : World) (bd : Nat) (G : Nat → Prop) (S : List Wt) (N : Nat) (vin : Value) (inl : List Wt) : Prop where
  dv : Dv w' bd G S N
  gb : ∀ b, G b → w.heap.size ≤ b ∧ b < w'.heap.size
  own : Own w' 40 5 vin inl.length (fl Wt.cells inl)
  new : ∀ b, isIn vin b → w.heap.size ≤ b ∧ ¬G b
  wts : Wts S inl
  ext : Ext w w'

set_option maxHeartbeats 2000000 in
set_option maxRecDepth 100000 in
theorem filled {w : World} {s1 : Value} {ls : List Wt} (h1 : RL w s1 ls) (hb : ls.length * 104 ≤ 140737488351232) :
    Gets Try.prog 24 [s1] w fun v w' => ∃ bd G S N vin, v = .tuple #[.pointer (some ⟨bd, 0, none⟩), vin, .bool true] ∧ N ≤ ls.length ∧ Filled w w' bd G S N vin (ls.foldl addTo []) := by
  have r1 := h1.rd
  have hr112 : Room ls.length 112 := by
    refine ⟨by omega, ?_⟩
    rw [Nat.add_mul, Nat.add_mul]
    omega
  have hr104 : Room ls.length 104 := hr112.bytes (by omega)
  obtain ⟨a1, c1, rfl⟩ := r1.slice
  refine ⟨GoFn.h, calls_of_swp 48 Try.func24 Try.ntmps24 rfl (Nat.le_of_ble_eq_true rfl) ?_⟩
  (repeat (first | refine swp_seq ?_ | refine swp_block ?_)); refine swp_region (by kernel_rfl) ?_
  repeat (first | refine x_move (by rfl) ?_ | refine x_as (by rfl) (by rfl) ?_ | refine x_skip (by rfl) ?_ | refine x_fld (by rfl) (by rfl) FldO.h ?_ | refine x_nilck (by rfl) (by rfl) ?_ | refine x_len (by rfl) (by rfl) ElOf.some ?_ | refine x_ext (by rfl) (by rfl) (by rfl) ?_ | refine x_pickT (by rfl) (by rfl) (by rfl) ?_ | refine x_pickF (by rfl) (by rfl) (by rfl) ?_ | refine x_add (by rfl) (by rfl) (by rfl) (by omega) ?_ | refine x_sub (by rfl) (by rfl) (by rfl) (by omega) ?_ | refine x_not (by rfl) (by rfl) ?_)
  refine x_nilw ?_
  (repeat (first | refine swp_seq ?_ | refine swp_block ?_)); refine swp_region (by kernel_rfl) ?_
  refine w_call (by rfl) (by rfl) (by rfl) (due_new w) ?_
  rintro _ w1 ⟨bd, rfl, hd1, u1⟩
  repeat (first | refine x_move (by rfl) ?_ | refine x_as (by rfl) (by rfl) ?_ | refine x_skip (by rfl) ?_ | refine x_fld (by rfl) (by rfl) FldO.h ?_ | refine x_nilck (by rfl) (by rfl) ?_ | refine x_len (by rfl) (by rfl) ElOf.some ?_ | refine x_ext (by rfl) (by rfl) (by rfl) ?_ | refine x_pickT (by rfl) (by rfl) (by rfl) ?_ | refine x_pickF (by rfl) (by rfl) (by rfl) ?_ | refine x_add (by rfl) (by rfl) (by rfl) (by omega) ?_ | refine x_sub (by rfl) (by rfl) (by rfl) (by omega) ?_ | refine x_not (by rfl) (by rfl) ?_)
  refine x_nilw ?_
  (repeat (first | refine swp_seq ?_ | refine swp_block ?_)); refine swp_region (by kernel_rfl) ?_
  repeat (first | refine x_move (by rfl) ?_ | refine x_as (by rfl) (by rfl) ?_ | refine x_skip (by rfl) ?_ | refine x_fld (by rfl) (by rfl) FldO.h ?_ | refine x_nilck (by rfl) (by rfl) ?_ | refine x_len (by rfl) (by rfl) ElOf.some ?_ | refine x_ext (by rfl) (by rfl) (by rfl) ?_ | refine x_pickT (by rfl) (by rfl) (by rfl) ?_ | refine x_pickF (by rfl) (by rfl) (by rfl) ?_ | refine x_add (by rfl) (by rfl) (by rfl) (by omega) ?_ | refine x_sub (by rfl) (by rfl) (by rfl) (by omega) ?_ | refine x_not (by rfl) (by rfl) ?_)
  refine x_eqlP Try.underlying41 (by rfl) (by rfl) (by rfl) ?_
  refine x_nilw ?_
  (repeat (first | refine swp_seq ?_ | refine swp_block ?_))
  refine swp_false (by rfl) (swp_skip ?_)
  (repeat (first | refine swp_seq ?_ | refine swp_block ?_)); refine swp_region (by kernel_rfl) ?_
  repeat (first | refine x_move (by rfl) ?_ | refine x_as (by rfl) (by rfl) ?_ | refine x_skip (by rfl) ?_ | refine x_fld (by rfl) (by rfl) FldO.h ?_ | refine x_nilck (by rfl) (by rfl) ?_ | refine x_len (by rfl) (by rfl) ElOf.some ?_ | refine x_ext (by rfl) (by rfl) (by rfl) ?_ | refine x_pickT (by rfl) (by rfl) (by rfl) ?_ | refine x_pickF (by rfl) (by rfl) (by rfl) ?_ | refine x_add (by rfl) (by rfl) (by rfl) (by omega) ?_ | refine x_sub (by rfl) (by rfl) (by rfl) (by omega) ?_ | refine x_not (by rfl) (by rfl) ?_)
  refine x_nilw ?_
  (repeat (first | refine swp_seq ?_ | refine swp_block ?_)); refine swp_region (by kernel_rfl) ?_
  repeat (first | refine x_move (by rfl) ?_ | refine x_as (by rfl) (by rfl) ?_ | refine x_skip (by rfl) ?_ | refine x_fld (by rfl) (by rfl) FldO.h ?_ | refine x_nilck (by rfl) (by rfl) ?_ | refine x_len (by rfl) (by rfl) ElOf.some ?_ | refine x_ext (by rfl) (by rfl) (by rfl) ?_ | refine x_pickT (by rfl) (by rfl) (by rfl) ?_ | refine x_pickF (by rfl) (by rfl) (by rfl) ?_ | refine x_add (by rfl) (by rfl) (by rfl) (by omega) ?_ | refine x_sub (by rfl) (by rfl) (by rfl) (by omega) ?_ | refine x_not (by rfl) (by rfl) ?_)
  refine x_nilw ?_
  refine swp_fit [(0, .slice a1 ls.length c1), (5, .pointer (some ⟨bd, 0, none⟩)), (6, .slice none 0 0), (7, .int .i64 ((0 : Nat) : Int))] ⟨rfl, rfl, rfl, rfl, trivial⟩ fun ρ => ?_
  (repeat (first | refine swp_seq ?_ | refine swp_block ?_))
  refine swp_loop (fun (i : Nat) σ w2 => ∃ vin G S N, At σ [(0, .slice a1 ls.length c1), (5, .pointer (some ⟨bd, 0, none⟩)), (6, vin), (7, .int .i64 (i : Nat))] ∧ i ≤ ls.length ∧ N ≤ i ∧ Filled w w2 bd G S N vin ((ls.take i).foldl addTo [])) (fun i => ls.length - i) 0 ⟨.slice none 0 0, _, [], 0, at_ ⟨rfl, rfl, rfl, rfl, trivial⟩, by omega, by omega, ⟨hd1.shrink, fun b hb => hb, Own.nil _ _ _, fun b h => h.elim, rfl, u1⟩⟩ ?_
  rintro i σ w2 ⟨vin, G, S, N, ⟨ρ, rfl⟩, hi, hN, hF⟩
  have hfl := foldl_len (ls.take i) []
  have hSl := hF.wts.len
  rw [List.length_take, List.length_nil] at hfl
  have u2 := hF.ext
  (repeat (first | refine swp_seq ?_ | refine swp_block ?_)); refine swp_region (by kernel_rfl) ?_
  repeat (first | refine x_move (by rfl) ?_ | refine x_as (by rfl) (by rfl) ?_ | refine x_skip (by rfl) ?_ | refine x_fld (by rfl) (by rfl) FldO.h ?_ | refine w_load (by rfl) (by rfl) (load_one OneT.h (by assumption) (by rfl)) ?_ | refine x_nilck (by rfl) (by rfl) ?_ | refine x_len (by rfl) (by rfl) ElOf.some ?_ | refine x_iface (by rfl) (by rfl) NIf.h ?_ | refine x_ext (by rfl) (by rfl) (by rfl) ?_ | refine x_pickT (by rfl) (by rfl) (by rfl) ?_ | refine x_pickF (by rfl) (by rfl) (by rfl) ?_ | refine x_add (by rfl) (by rfl) (by rfl) (by omega) ?_ | refine x_sub (by rfl) (by rfl) (by rfl) (by omega) ?_ | refine x_lss (by rfl) (by rfl) (by rfl) ?_ | refine x_geq (by rfl) (by rfl) (by rfl) ?_ | refine x_leq (by rfl) (by rfl) (by rfl) ?_ | refine x_gtr (by rfl) (by rfl) (by rfl) ?_ | refine x_eql (by rfl) (by rfl) (by rfl) ?_ | refine x_neq (by rfl) (by rfl) (by rfl) ?_ | refine x_not (by rfl) (by rfl) ?_)
  refine x_nilw ?_
  (repeat (first | refine swp_seq ?_ | refine swp_block ?_))
  refine swp_if (by rfl) (fun h0 => swp_skip ?_) (fun h0 => ?_)
  · have hi' : i < ls.length := by omega
    obtain ⟨x, hx⟩ := nthE hi'
    have hxm := List.mem_of_getElem? hx
    obtain ⟨b1, o1, d1, he1, -, -⟩ := r1.pos (by omega)
    simp only [Value.slice.injEq] at he1
    obtain ⟨rfl, _, rfl⟩ := he1
    have hxR := (h1.each x hxm).at u2
    have hil : ∀ y ∈ (ls.take i).foldl addTo [], y.Rdy w := fun y hy => h1.each y (by
      rcases mem_foldl_addTo _ _ hy with h | h
      · simp at h
      · exact List.mem_of_mem_take h)
    (repeat (first | with_reducible refine n_then ?_ | with_reducible refine n_block ?_ | with_reducible refine n_jump ?_))
    (repeat (first | refine swp_seq ?_ | refine swp_block ?_))
    refine PEv.swp_cutQ (fun σ w3 => ∃ G' S' N' ok, At σ [(0, .slice (some ⟨b1, o1, none⟩) ls.length c1), (5, .pointer (some ⟨bd, 0, none⟩)), (6, vin), (7, .int .i64 (i : Nat)), (8, .bool ok)] ∧ N' ≤ i + 1 ∧ ok = !((ls.take i).foldl addTo []).any (aliA x) ∧ Dv w3 bd G' S' N' ∧ (∀ b, G' b → w.heap.size ≤ b ∧ b < w3.heap.size) ∧ Own w3 40 5 vin ((ls.take i).foldl addTo []).length (fl Wt.cells ((ls.take i).foldl addTo [])) ∧ (∀ b, isIn vin b → w.heap.size ≤ b ∧ ¬G' b) ∧ Wts S' (addTo ((ls.take i).foldl addTo []) x) ∧ Ext w w3) ?_ ?_
    · (repeat (first | refine swp_seq ?_ | refine swp_block ?_)); refine swp_region (by kernel_rfl) ?_
      repeat (first | refine x_move (by rfl) ?_ | refine x_as (by rfl) (by rfl) ?_ | refine x_skip (by rfl) ?_ | refine x_fld (by rfl) (by rfl) FldO.h ?_ | refine x_nilck (by rfl) (by rfl) ?_ | refine x_len (by rfl) (by rfl) ElOf.some ?_ | refine x_ext (by rfl) (by rfl) (by rfl) ?_ | refine x_pickT (by rfl) (by rfl) (by rfl) ?_ | refine x_pickF (by rfl) (by rfl) (by rfl) ?_ | refine x_add (by rfl) (by rfl) (by rfl) (by omega) ?_ | refine x_sub (by rfl) (by rfl) (by rfl) (by omega) ?_ | refine x_not (by rfl) (by rfl) ?_)
      refine x_idx i (by rfl) (by rfl) (by rfl) ElSz.h rfl hi' ?_
      refine w_load (by rfl) (by rfl) (rd_load wt_len AggT.h (r1.at u2) hx rfl rfl) ?_
      refine w_call (by rfl) (by rfl) (by rfl) (due_add hF.dv x hxR (by omega) (hr112.le (by omega))) ?_
      rintro v w3 h3
      have s2 := u2.size
      rcases h3 with ⟨rfl, hex, hd3, u3⟩ | ⟨rfl, hno, y, G', hs, hn, hd3, u3, hG'⟩
      · repeat (first | refine x_move (by rfl) ?_ | refine x_as (by rfl) (by rfl) ?_ | refine x_skip (by rfl) ?_ | refine x_fld (by rfl) (by rfl) FldO.h ?_ | refine x_nilck (by rfl) (by rfl) ?_ | refine x_len (by rfl) (by rfl) ElOf.some ?_ | refine x_ext (by rfl) (by rfl) (by rfl) ?_ | refine x_pickT (by rfl) (by rfl) (by rfl) ?_ | refine x_pickF (by rfl) (by rfl) (by rfl) ?_ | refine x_add (by rfl) (by rfl) (by rfl) (by omega) ?_ | refine x_sub (by rfl) (by rfl) (by rfl) (by omega) ?_ | refine x_not (by rfl) (by rfl) ?_)
        refine x_nilw ?_
        have hany : ((ls.take i).foldl addTo []).any (aliA x) = true := any_ali.2 (hF.wts.key.1 hex)
        have s3 := u3.size
        exact ⟨rfl, G, S, N, false, at_ ⟨rfl, rfl, rfl, rfl, rfl, trivial⟩, by omega, by rw [hany]; rfl, hd3, fun b hb => ⟨(hF.gb b hb).1, by have := (hF.gb b hb).2; omega⟩, hF.own.at u3, hF.new, by rw [addTo, if_pos hany]; exact hF.wts, u2.trans u3⟩
      · repeat (first | refine x_move (by rfl) ?_ | refine x_as (by rfl) (by rfl) ?_ | refine x_skip (by rfl) ?_ | refine x_fld (by rfl) (by rfl) FldO.h ?_ | refine x_nilck (by rfl) (by rfl) ?_ | refine x_len (by rfl) (by rfl) ElOf.some ?_ | refine x_ext (by rfl) (by rfl) (by rfl) ?_ | refine x_pickT (by rfl) (by rfl) (by rfl) ?_ | refine x_pickF (by rfl) (by rfl) (by rfl) ?_ | refine x_add (by rfl) (by rfl) (by rfl) (by omega) ?_ | refine x_sub (by rfl) (by rfl) (by rfl) (by omega) ?_ | refine x_not (by rfl) (by rfl) ?_)
        refine x_nilw ?_
        have hany : ¬((ls.take i).foldl addTo []).any (aliA x) = true := fun h => hno (hF.wts.key.2 (any_ali.1 h))
        have s3 := u3.size
        have hvo := hF.own.get u3 fun b hb h => (hF.new b hb).2 h
        exact ⟨rfl, _, _, N + 1, true, at_ ⟨rfl, rfl, rfl, rfl, rfl, trivial⟩, by omega, by simp only [Bool.not_eq_true] at hany; rw [hany]; rfl, hd3.shrink, fun b hb => ⟨(hG' b hb.1).elim (fun h => (hF.gb b h).1) fun h => by omega, hb.2⟩, hvo, fun b hb => ⟨(hF.new b hb).1, fun h => by
          rcases hG' b h.1 with h2 | h2
          · exact (hF.new b hb).2 h2
          · have := hF.own.lt hb; omega⟩, by rw [addTo, if_neg hany]; exact hF.wts.put hs, u2.trans' u3 fun b hb h => by have := (hF.gb b h).1; omega⟩
    rintro σ w3 ⟨G', S', N', ok, ⟨ρ, rfl⟩, hN', hok, hd3, hg3, ho3, hv3, hw3, u3⟩
    refine n_then ?_
    obtain ⟨av, cv, rfl⟩ := ho3.slice
    have hRin : RL w3 (.slice av ((ls.take i).foldl addTo []).length cv) ((ls.take i).foldl addTo []) := ⟨ho3.rd, fun y hy => (hil y hy).at u3⟩
    (repeat (first | refine swp_seq ?_ | refine swp_block ?_)); refine swp_region (by kernel_rfl) ?_
    repeat (first | refine x_move (by rfl) ?_ | refine x_as (by rfl) (by rfl) ?_ | refine x_skip (by rfl) ?_ | refine x_fld (by rfl) (by rfl) FldO.h ?_ | refine x_nilck (by rfl) (by rfl) ?_ | refine x_len (by rfl) (by rfl) ElOf.some ?_ | refine x_ext (by rfl) (by rfl) (by rfl) ?_ | refine x_pickT (by rfl) (by rfl) (by rfl) ?_ | refine x_pickF (by rfl) (by rfl) (by rfl) ?_ | refine x_add (by rfl) (by rfl) (by rfl) (by omega) ?_ | refine x_sub (by rfl) (by rfl) (by rfl) (by omega) ?_ | refine x_not (by rfl) (by rfl) ?_)
    refine x_idx i (by rfl) (by rfl) (by rfl) ElSz.h rfl hi' ?_
    refine w_load (by rfl) (by rfl) (rd_load wt_len AggT.h (r1.at u3) hx rfl rfl) ?_
    refine w_call (by rfl) (by rfl) (by rfl) (find_wt hRin x ((h1.each x hxm).at u3) (by omega)) ?_
    rintro _ w4 ⟨rfl, u4⟩
    repeat (first | refine x_move (by rfl) ?_ | refine x_as (by rfl) (by rfl) ?_ | refine x_skip (by rfl) ?_ | refine x_fld (by rfl) (by rfl) FldO.h ?_ | refine x_nilck (by rfl) (by rfl) ?_ | refine x_len (by rfl) (by rfl) ElOf.some ?_ | refine x_ext (by rfl) (by rfl) (by rfl) ?_ | refine x_pickT (by rfl) (by rfl) (by rfl) ?_ | refine x_pickF (by rfl) (by rfl) (by rfl) ?_ | refine x_add (by rfl) (by rfl) (by rfl) (by omega) ?_ | refine x_sub (by rfl) (by rfl) (by rfl) (by omega) ?_ | refine x_not (by rfl) (by rfl) ?_)
    refine x_lss (by rfl) (by rfl) (by rfl) ?_
    have hlt : decide (findOf ((ls.take i).foldl addTo []) x < 0) = ok := by
      rw [hok]
      cases hany : ((ls.take i).foldl addTo []).any (aliA x) with
      | true =>
        obtain ⟨y, hy, hk⟩ := any_ali.1 hany
        exact decide_eq_false fun h => findOf_neg.1 h y hy hk
      | false =>
        refine decide_eq_true (findOf_neg.2 fun y hy hk => ?_)
        rw [any_ali.2 ⟨y, hy, hk⟩] at hany
        cases hany
    rw [hlt]
    refine x_neqB Try.underlying4 (by rfl) (by rfl) (by rfl) ?_
    rw [show (!(ok == ok)) = false by cases ok <;> rfl]
    refine x_nilw ?_
    have s4 := u4.size
    have hd4 := hd3.at u4
    have ho4 := ho3.at u4
    have u04 := u3.trans u4
    refine swp_fit [(0, .slice (some ⟨b1, o1, none⟩) ls.length c1), (5, .pointer (some ⟨bd, 0, none⟩)), (6, .slice av ((ls.take i).foldl addTo []).length cv), (7, .int .i64 (i : Nat)), (8, .bool ok), (32, .bool false)] ⟨rfl, rfl, rfl, rfl, rfl, rfl, trivial⟩ fun ρ => ?_
    (repeat (first | refine swp_seq ?_ | refine swp_block ?_))
    refine swp_false (by rfl) (swp_skip ?_)
    have htk : (ls.take (i + 1)).foldl addTo [] = addTo ((ls.take i).foldl addTo []) x := by rw [take_succ' hx, List.foldl_append]; rfl
    (repeat (first | refine swp_seq ?_ | refine swp_block ?_)); refine swp_region (by kernel_rfl) ?_
    repeat (first | refine x_move (by rfl) ?_ | refine x_as (by rfl) (by rfl) ?_ | refine x_skip (by rfl) ?_ | refine x_fld (by rfl) (by rfl) FldO.h ?_ | refine x_nilck (by rfl) (by rfl) ?_ | refine x_len (by rfl) (by rfl) ElOf.some ?_ | refine x_ext (by rfl) (by rfl) (by rfl) ?_ | refine x_pickT (by rfl) (by rfl) (by rfl) ?_ | refine x_pickF (by rfl) (by rfl) (by rfl) ?_ | refine x_add (by rfl) (by rfl) (by rfl) (by omega) ?_ | refine x_sub (by rfl) (by rfl) (by rfl) (by omega) ?_ | refine x_not (by rfl) (by rfl) ?_)
    refine x_nilw ?_
    cases hc : ok with
    | false =>
      (repeat (first | refine swp_seq ?_ | refine swp_block ?_))
      refine swp_false (by rfl) (swp_skip ?_)
      (repeat (first | with_reducible refine n_then ?_ | with_reducible refine n_block ?_ | with_reducible refine n_jump ?_))
      (repeat (first | refine swp_seq ?_ | refine swp_block ?_)); refine swp_region (by kernel_rfl) ?_
      repeat (first | refine x_move (by rfl) ?_ | refine x_as (by rfl) (by rfl) ?_ | refine x_skip (by rfl) ?_ | refine x_fld (by rfl) (by rfl) FldO.h ?_ | refine w_load (by rfl) (by rfl) (load_one OneT.h (by assumption) (by rfl)) ?_ | refine x_nilck (by rfl) (by rfl) ?_ | refine x_len (by rfl) (by rfl) ElOf.some ?_ | refine x_iface (by rfl) (by rfl) NIf.h ?_ | refine x_ext (by rfl) (by rfl) (by rfl) ?_ | refine x_pickT (by rfl) (by rfl) (by rfl) ?_ | refine x_pickF (by rfl) (by rfl) (by rfl) ?_ | refine x_add (by rfl) (by rfl) (by rfl) (by omega) ?_ | refine x_sub (by rfl) (by rfl) (by rfl) (by omega) ?_ | refine x_lss (by rfl) (by rfl) (by rfl) ?_ | refine x_geq (by rfl) (by rfl) (by rfl) ?_ | refine x_leq (by rfl) (by rfl) (by rfl) ?_ | refine x_gtr (by rfl) (by rfl) (by rfl) ?_ | refine x_eql (by rfl) (by rfl) (by rfl) ?_ | refine x_neq (by rfl) (by rfl) (by rfl) ?_ | refine x_not (by rfl) (by rfl) ?_)
      refine x_nilw ?_
      rw [hc] at hok
      have hany : ((ls.take i).foldl addTo []).any (aliA x) = true := by
        cases h : ((ls.take i).foldl addTo []).any (aliA x) with
        | true => rfl
        | false => rw [h] at hok; cases hok
      have hsame : addTo ((ls.take i).foldl addTo []) x = (ls.take i).foldl addTo [] := by rw [addTo, if_pos hany]
      refine ⟨i + 1, ⟨_, G', S', N', at_ ⟨rfl, rfl, rfl, rfl, trivial⟩, hi', hN', ?_⟩, by omega⟩
      rw [htk]
      refine ⟨hd4, fun b hb => ⟨(hg3 b hb).1, by have := (hg3 b hb).2; omega⟩, ?_, hv3, hw3, u04⟩
      rw [hsame]
      exact ho4
    | true =>
      rw [hc] at hok
      have hany : ¬((ls.take i).foldl addTo []).any (aliA x) = true := fun h => by rw [h] at hok; cases hok
      have hsame : addTo ((ls.take i).foldl addTo []) x = (ls.take i).foldl addTo [] ++ [x] := by rw [addTo, if_neg hany]
      (repeat (first | refine swp_seq ?_ | refine swp_block ?_))
      refine swp_true (by rfl) ?_
      (repeat (first | refine swp_seq ?_ | refine swp_block ?_)); refine swp_region (by kernel_rfl) ?_
      repeat (first | refine x_move (by rfl) ?_ | refine x_as (by rfl) (by rfl) ?_ | refine x_skip (by rfl) ?_ | refine x_fld (by rfl) (by rfl) FldO.h ?_ | refine x_nilck (by rfl) (by rfl) ?_ | refine x_len (by rfl) (by rfl) ElOf.some ?_ | refine x_ext (by rfl) (by rfl) (by rfl) ?_ | refine x_pickT (by rfl) (by rfl) (by rfl) ?_ | refine x_pickF (by rfl) (by rfl) (by rfl) ?_ | refine x_add (by rfl) (by rfl) (by rfl) (by omega) ?_ | refine x_sub (by rfl) (by rfl) (by rfl) (by omega) ?_ | refine x_not (by rfl) (by rfl) ?_)
      refine x_idx i (by rfl) (by rfl) (by rfl) ElSz.h rfl hi' ?_
      refine w_load (by rfl) (by rfl) (rd_load wt_len AggT.h (r1.at u04) hx rfl rfl) ?_
      refine w_bslice (e := 40) (cs := x.cells) (by rfl) (by rfl) (by rfl) (by kernel_rfl) ?_
      intro b5 w5 e5 u5 h5
      refine w_append (more := []) (news := x.cells) (by rfl) (by rfl) (by rfl) (by rfl) SlC.h (ho4.at u5) (by rw [List.append_nil]; exact h5) (wt_len _) (wt_one _) (by omega) (hr104.le (by omega)) ?_
      intro sv' w6 own6 u6 in6
      repeat (first | refine x_move (by rfl) ?_ | refine x_as (by rfl) (by rfl) ?_ | refine x_skip (by rfl) ?_ | refine x_fld (by rfl) (by rfl) FldO.h ?_ | refine x_nilck (by rfl) (by rfl) ?_ | refine x_len (by rfl) (by rfl) ElOf.some ?_ | refine x_ext (by rfl) (by rfl) (by rfl) ?_ | refine x_pickT (by rfl) (by rfl) (by rfl) ?_ | refine x_pickF (by rfl) (by rfl) (by rfl) ?_ | refine x_add (by rfl) (by rfl) (by rfl) (by omega) ?_ | refine x_sub (by rfl) (by rfl) (by rfl) (by omega) ?_ | refine x_not (by rfl) (by rfl) ?_)
      refine x_nilw ?_
      (repeat (first | with_reducible refine n_then ?_ | with_reducible refine n_block ?_ | with_reducible refine n_jump ?_))
      (repeat (first | refine swp_seq ?_ | refine swp_block ?_)); refine swp_region (by kernel_rfl) ?_
      repeat (first | refine x_move (by rfl) ?_ | refine x_as (by rfl) (by rfl) ?_ | refine x_skip (by rfl) ?_ | refine x_fld (by rfl) (by rfl) FldO.h ?_ | refine w_load (by rfl) (by rfl) (load_one OneT.h (by assumption) (by rfl)) ?_ | refine x_nilck (by rfl) (by rfl) ?_ | refine x_len (by rfl) (by rfl) ElOf.some ?_ | refine x_iface (by rfl) (by rfl) NIf.h ?_ | refine x_ext (by rfl) (by rfl) (by rfl) ?_ | refine x_pickT (by rfl) (by rfl) (by rfl) ?_ | refine x_pickF (by rfl) (by rfl) (by rfl) ?_ | refine x_add (by rfl) (by rfl) (by rfl) (by omega) ?_ | refine x_sub (by rfl) (by rfl) (by rfl) (by omega) ?_ | refine x_lss (by rfl) (by rfl) (by rfl) ?_ | refine x_geq (by rfl) (by rfl) (by rfl) ?_ | refine x_leq (by rfl) (by rfl) (by rfl) ?_ | refine x_gtr (by rfl) (by rfl) (by rfl) ?_ | refine x_eql (by rfl) (by rfl) (by rfl) ?_ | refine x_neq (by rfl) (by rfl) (by rfl) ?_ | refine x_not (by rfl) (by rfl) ?_)
      refine x_nilw ?_
      have s5 := u5.size; have s6 := u6.size
      refine ⟨i + 1, ⟨sv', G', S', N', at_ ⟨rfl, rfl, rfl, rfl, trivial⟩, hi', hN', ?_⟩, by omega⟩
      rw [htk]
      have hd6 := (hd4.at u5).get u6 fun b _ hb h => (hv3 b h).2 hb
      refine ⟨hd6, fun b hb => ⟨(hg3 b hb).1, by have := (hg3 b hb).2; omega⟩, ?_, fun b hb => ?_, hw3, (u04.trans u5).trans' u6 fun b hb h => by have := (hv3 b h).1; omega⟩
      · rw [hsame, List.length_append, List.length_singleton, fl_append, fl_one]
        exact own6
      · rcases in6 b hb with h | h
        · exact hv3 b h
        · exact ⟨by have := u04.size; omega, fun hg => by have := (hg3 b hg).2; omega⟩
  · have hin : i = ls.length := by omega
    subst hin
    rw [List.take_length] at hF hSl hfl
    obtain ⟨av, cv, rfl⟩ := hF.own.slice
    refine swp_exit ?_; (repeat (first | with_reducible refine e_then ?_ | with_reducible refine e_jump ?_)); refine e_block ?_; (repeat (first | with_reducible refine n_then ?_ | with_reducible refine n_block ?_ | with_reducible refine n_jump ?_))
    (repeat (first | refine swp_seq ?_ | refine swp_block ?_)); refine swp_region (by kernel_rfl) ?_
    repeat (first | refine x_move (by rfl) ?_ | refine x_as (by rfl) (by rfl) ?_ | refine x_skip (by rfl) ?_ | refine x_fld (by rfl) (by rfl) FldO.h ?_ | refine x_nilck (by rfl) (by rfl) ?_ | refine x_len (by rfl) (by rfl) ElOf.some ?_ | refine x_ext (by rfl) (by rfl) (by rfl) ?_ | refine x_pickT (by rfl) (by rfl) (by rfl) ?_ | refine x_pickF (by rfl) (by rfl) (by rfl) ?_ | refine x_add (by rfl) (by rfl) (by rfl) (by omega) ?_ | refine x_sub (by rfl) (by rfl) (by rfl) (by omega) ?_ | refine x_not (by rfl) (by rfl) ?_)
    refine w_call (by rfl) (by rfl) (by rfl) (due_len hF.dv) ?_
    rintro _ _ ⟨rfl, rfl⟩
    repeat (first | refine x_move (by rfl) ?_ | refine x_as (by rfl) (by rfl) ?_ | refine x_skip (by rfl) ?_ | refine x_fld (by rfl) (by rfl) FldO.h ?_ | refine x_nilck (by rfl) (by rfl) ?_ | refine x_len (by rfl) (by rfl) ElOf.some ?_ | refine x_ext (by rfl) (by rfl) (by rfl) ?_ | refine x_pickT (by rfl) (by rfl) (by rfl) ?_ | refine x_pickF (by rfl) (by rfl) (by rfl) ?_ | refine x_add (by rfl) (by rfl) (by rfl) (by omega) ?_ | refine x_sub (by rfl) (by rfl) (by rfl) (by omega) ?_ | refine x_not (by rfl) (by rfl) ?_)
    refine x_eqlT (by rfl) (by rfl) (by rfl) (by omega) ?_
    repeat (first | refine x_move (by rfl) ?_ | refine x_as (by rfl) (by rfl) ?_ | refine x_skip (by rfl) ?_ | refine x_fld (by rfl) (by rfl) FldO.h ?_ | refine x_nilck (by rfl) (by rfl) ?_ | refine x_len (by rfl) (by rfl) ElOf.some ?_ | refine x_ext (by rfl) (by rfl) (by rfl) ?_ | refine x_pickT (by rfl) (by rfl) (by rfl) ?_ | refine x_pickF (by rfl) (by rfl) (by rfl) ?_ | refine x_add (by rfl) (by rfl) (by rfl) (by omega) ?_ | refine x_sub (by rfl) (by rfl) (by rfl) (by omega) ?_ | refine x_not (by rfl) (by rfl) ?_)
    refine x_nilw ?_
    refine swp_ret ?_; (repeat (first | with_reducible refine r_then ?_ | with_reducible refine r_block ?_ | with_reducible refine r_jump ?_))
    exact post3 rfl rfl rfl rfl ⟨_, rfl, bd, G, S, N, _, rfl, hN, hF⟩
end Go.Proofs.Ytpnigekkbmanlaa
