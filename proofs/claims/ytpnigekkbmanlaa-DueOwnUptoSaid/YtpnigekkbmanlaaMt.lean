/- Matches in plain terms: their order, and how they are read. No conditions. -/
import Derived.Test.YtpnigekkbmanlaaHp
import Derived.Test.YtpnigekkbmanlaaApib
namespace Go.Proofs.Ytpnigekkbmanlaa
open Sx Hp

namespace Hp
theorem Holds.mem {α : Type} {lt : α → α → Bool} {L : List (α × Int)} {S : List α} {N : Nat} (h : Holds lt L S N) {e : α × Int} (he : e ∈ L) : e.1 ∈ S := by
  obtain ⟨E, h1, _, h3, _⟩ := h.ex
  rw [h3]
  exact List.mem_map_of_mem (h1.mem_iff.1 he)
end Hp

/-- A strict total order. -/
structure STot {α : Type} (lt : α → α → Bool) : Prop where
  irr : ∀ a, lt a a = false
  tr : ∀ a b c, lt a b = true → lt b c = true → lt a c = true
  tri : ∀ a b, a ≠ b → lt a b = true ∨ lt b a = true
theorem STot.ord {α β : Type} {lt : α → α → Bool} (h : STot lt) (f : β → α) : Ord fun a b => lt (f a) (f b) := by
  classical
  refine ⟨fun a => h.irr _, fun a b c => h.tr _ _ _, fun a b c h1 h2 => ?_⟩
  by_cases hab : f a = f b
  · rw [hab]; exact h2
  · by_cases hbc : f b = f c
    · rw [← hbc]; exact h1
    · have hba := (h.tri _ _ hab).resolve_left (by rw [h1]; simp)
      have hcb := (h.tri _ _ hbc).resolve_left (by rw [h2]; simp)
      have hca := h.tr _ _ _ hcb hba
      cases hac : lt (f a) (f c) with
      | false => rfl
      | true => have := h.tr _ _ _ hca hac; rw [h.irr] at this; cases this

/-- lists, thing by thing; a beginning first -/
def llt {α : Type} [DecidableEq α] (lt : α → α → Bool) : List α → List α → Bool
  | [], [] => false
  | [], _ :: _ => true
  | _ :: _, [] => false
  | x :: xs, y :: ys => if x = y then llt lt xs ys else lt x y
theorem llt_irr {α : Type} [DecidableEq α] {lt : α → α → Bool} : ∀ a : List α, llt lt a a = false
  | [] => rfl
  | x :: xs => by simp [llt, llt_irr xs]
theorem llt_tr {α : Type} [DecidableEq α] {lt : α → α → Bool} (h : STot lt) : ∀ a b c : List α, llt lt a b = true → llt lt b c = true → llt lt a c = true
  | [], [], _, h1, _ => by cases h1
  | [], _ :: _, [], _, h2 => by cases h2
  | [], _ :: _, _ :: _, _, _ => rfl
  | _ :: _, [], _, h1, _ => by cases h1
  | _ :: _, _ :: _, [], _, h2 => by cases h2
  | x :: xs, y :: ys, z :: zs, h1, h2 => by
    simp only [llt] at *
    by_cases e1 : x = y
    · subst e1
      rw [if_pos rfl] at h1
      by_cases e2 : x = z
      · subst e2
        rw [if_pos rfl] at h2 ⊢
        exact llt_tr h xs ys zs h1 h2
      · rw [if_neg e2] at h2 ⊢
        exact h2
    · rw [if_neg e1] at h1
      by_cases e2 : y = z
      · subst e2
        rw [if_neg e1]
        exact h1
      · rw [if_neg e2] at h2
        have := h.tr _ _ _ h1 h2
        rw [if_neg (fun e => by rw [e, h.irr] at this; cases this)]
        exact this
theorem llt_tri {α : Type} [DecidableEq α] {lt : α → α → Bool} (h : STot lt) : ∀ a b : List α, a ≠ b → llt lt a b = true ∨ llt lt b a = true
  | [], [], hn => absurd rfl hn
  | [], _ :: _, _ => .inl rfl
  | _ :: _, [], _ => .inr rfl
  | x :: xs, y :: ys, hn => by
    simp only [llt]
    by_cases e : x = y
    · subst e
      rw [if_pos rfl, if_pos rfl]
      exact llt_tri h xs ys fun e => hn (by rw [e])
    · rw [if_neg e, if_neg (Ne.symm e)]
      exact h.tri x y e
theorem llt_tot {α : Type} [DecidableEq α] {lt : α → α → Bool} (h : STot lt) : STot (llt lt) := ⟨llt_irr, llt_tr h, llt_tri h⟩
/-- by the first, then by the second -/
def plt {α β : Type} [DecidableEq α] (l1 : α → α → Bool) (l2 : β → β → Bool) (a b : α × β) : Bool := if a.1 = b.1 then l2 a.2 b.2 else l1 a.1 b.1
theorem plt_tot {α β : Type} [DecidableEq α] {l1 : α → α → Bool} {l2 : β → β → Bool} (h1 : STot l1) (h2 : STot l2) : STot (plt l1 l2) := by
  refine ⟨fun a => by simp [plt, h2.irr], fun a b c ha hb => ?_, fun a b hn => ?_⟩
  · obtain ⟨a1, a2⟩ := a; obtain ⟨b1, b2⟩ := b; obtain ⟨c1, c2⟩ := c
    simp only [plt] at *
    by_cases e1 : a1 = b1
    · subst e1
      rw [if_pos rfl] at ha
      by_cases e2 : a1 = c1
      · subst e2
        rw [if_pos rfl] at hb ⊢
        exact h2.tr _ _ _ ha hb
      · rw [if_neg e2] at hb ⊢
        exact hb
    · rw [if_neg e1] at ha
      by_cases e2 : b1 = c1
      · subst e2
        rw [if_neg e1]
        exact ha
      · rw [if_neg e2] at hb
        have := h1.tr _ _ _ ha hb
        rw [if_neg (fun e => by rw [e, h1.irr] at this; cases this)]
        exact this
  · obtain ⟨a1, a2⟩ := a; obtain ⟨b1, b2⟩ := b
    simp only [plt]
    by_cases e : a1 = b1
    · subst e
      rw [if_pos rfl, if_pos rfl]
      exact h2.tri _ _ fun e => hn (by rw [e])
    · rw [if_neg e, if_neg (Ne.symm e)]
      exact h1.tri _ _ e
def ilt (a b : Int) : Bool := decide (a < b)
theorem ilt_tot : STot ilt := ⟨fun a => by simp [ilt], fun a b c h1 h2 => by simp [ilt] at *; omega, fun a b h => by simp [ilt]; omega⟩
theorem nlt_tot : STot nlt := by
  refine ⟨fun a => by simp [nlt], fun a b c h1 h2 => ?_, fun a b h => ?_⟩
  · simp only [nlt, Bool.or_eq_true, Bool.and_eq_true, decide_eq_true_eq] at *; omega
  · simp only [nlt, Bool.or_eq_true, Bool.and_eq_true, decide_eq_true_eq]
    have : ¬ (a.ts = b.ts ∧ a.id = b.id) := fun ⟨h1, h2⟩ => h (by cases a; cases b; simp_all)
    omega
theorem llt_at {α : Type} [DecidableEq α] {lt : α → α → Bool} {x y : α} (hxy : x ≠ y) : ∀ {i : Nat} {a b : List α}, a.take i = b.take i → a[i]? = some x → b[i]? = some y → llt lt a b = lt x y
  | 0, _ :: _, _ :: _, _, hx, hy => by
    simp only [List.getElem?_cons_zero, Option.some.injEq] at hx hy
    subst hx; subst hy
    simp [llt, hxy]
  | i + 1, x' :: xs, y' :: ys, h, hx, hy => by
    simp only [List.take_succ_cons, List.cons.injEq, List.getElem?_cons_succ] at h hx hy
    simp only [llt, h.1, if_true]
    exact llt_at hxy h.2 hx hy
  | 0, [], _, _, hx, _ => by simp at hx
  | 0, _ :: _, [], _, _, hy => by simp at hy
  | _ + 1, [], _, _, hx, _ => by simp at hx
  | _ + 1, _ :: _, [], _, _, hy => by simp at hy
theorem llt_end {α : Type} [DecidableEq α] {lt : α → α → Bool} : ∀ {i : Nat} {a b : List α}, a.take i = b.take i → a.length ≤ i ∨ b.length ≤ i → llt lt a b = decide (a.length < b.length) ∧ (a = b ↔ a.length = b.length)
  | 0, [], [], _, _ => by simp [llt]
  | 0, [], _ :: _, _, _ => by simp [llt]
  | 0, _ :: _, [], _, _ => by simp [llt]
  | 0, _ :: _, _ :: _, _, h => by simp at h
  | _ + 1, [], [], _, _ => by simp [llt]
  | _ + 1, [], _ :: _, h, _ => by simp at h
  | _ + 1, _ :: _, [], h, _ => by simp at h
  | i + 1, x :: xs, y :: ys, h, hl => by
    simp only [List.take_succ_cons, List.cons.injEq, List.length_cons] at h hl
    obtain ⟨h1, h2⟩ := llt_end (lt := lt) h.2 (by omega)
    rw [h.1]
    simp only [llt, if_true, h1, List.cons.injEq, true_and, h2, List.length_cons]
    constructor
    · rw [decide_eq_decide]; omega
    · omega

/-- a number that is known, or not -/
structure Vl where
  kn : Bool
  n : Int
instance : DecidableEq Vl := fun a b => decidable_of_iff (a.kn = b.kn ∧ a.n = b.n) (by cases a; cases b; simp)
def Vl.cells (x : Vl) : List Value := [.bool x.kn, .int .i64 x.n]
abbrev Vl.v (x : Vl) : Value := .agg x.cells.toArray
theorem vl_len (x : Vl) : x.cells.length = 2 := rfl
theorem vl_one (x : Vl) : x.cells.all Value.oneCell' = true := rfl
def encN (n : Int) : List Value := [.int .i64 n]
theorem encN_len (n : Int) : (encN n).length = 1 := rfl
theorem encN_one (n : Int) : (encN n).all Value.oneCell' = true := rfl

/-- A match: its cells, and what its lists say. -/
structure Mt where
  dec : Int
  na : Option Addr
  nc : Nat
  names : List Nm
  la : Option Addr
  lc : Nat
  lens : List Int
  va : Option Addr
  vc : Nat
  vals : List Vl
def Mt.ns (x : Mt) : Value := .slice x.na x.names.length x.nc
def Mt.ls (x : Mt) : Value := .slice x.la x.lens.length x.lc
def Mt.vs (x : Mt) : Value := .slice x.va x.vals.length x.vc
def Mt.cells (x : Mt) : List Value := [.int .i64 x.dec, .slice x.na x.names.length x.nc, .slice x.la x.lens.length x.lc, .slice x.va x.vals.length x.vc]
abbrev Mt.v (x : Mt) : Value := .agg x.cells.toArray
def Mt.zero : Mt := ⟨0, none, 0, [], none, 0, [], none, 0, []⟩
/-- what a match says, without its memory -/
def Mt.key (x : Mt) : Int × List Nm × List Int := (x.dec, x.names, x.lens)
def Mt.says (x : Mt) : Int × List Nm × List Int × List Vl := (x.dec, x.names, x.lens, x.vals)
def klt : Int × List Nm × List Int → Int × List Nm × List Int → Bool := plt ilt (plt (llt nlt) (llt ilt))
theorem klt_tot : STot klt := plt_tot ilt_tot (plt_tot (llt_tot nlt_tot) (llt_tot ilt_tot))
def mlt (a b : Mt) : Bool := klt a.key b.key
theorem mlt_ord : Ord mlt := klt_tot.ord Mt.key

/-- a slice that reads so; where it lies is known if anything lies there -/
def Mt.Rdy (w : World) (x : Mt) : Prop := Rd w 2 x.ns x.names.length (fl Nm.cells x.names) ∧ Rd w 1 x.ls x.lens.length (fl encN x.lens) ∧ Rd w 2 x.vs x.vals.length (fl Vl.cells x.vals) ∧ x.names.length ≤ 9223372036854775807 ∧ x.lens.length ≤ 9223372036854775807 ∧ x.vals.length ≤ 9223372036854775807
def Mt.In (x : Mt) (b : Nat) : Prop := (0 < x.names.length ∧ isIn x.ns b) ∨ (0 < x.lens.length ∧ isIn x.ls b) ∨ (0 < x.vals.length ∧ isIn x.vs b)
section
variable {w w' : World} {sz n : Nat} {sv : Value} {xs : List Value}
theorem Sx.Rd.get0 {F : Nat → Prop} (h : Rd w sz sv n xs) (u : Upd F w w') (hn : ∀ b, 0 < n → isIn sv b → ¬F b) : Rd w' sz sv n xs := by
  rcases Nat.eq_zero_or_pos n with h0 | h0
  · obtain ⟨h1, a, c, rfl, h2⟩ := h
    exact ⟨h1, a, c, rfl, fun h => absurd h (by omega)⟩
  · exact h.get u fun b hb => hn b h0 hb
theorem Sx.Rd.lt0 (h : Rd w sz sv n xs) (h0 : 0 < n) {b : Nat} (hb : isIn sv b) : b < w.heap.size := by
  obtain ⟨b', o, c, rfl, h1, _⟩ := h.pos h0
  have e : b = b' := hb
  rw [e]; exact h1
end
theorem Mt.Rdy.get {F : Nat → Prop} {w w' : World} {x : Mt} (h : x.Rdy w) (u : Upd F w w') (hn : ∀ b, x.In b → ¬F b) : x.Rdy w' :=
  ⟨h.1.get0 u fun b h0 hb => hn b (.inl ⟨h0, hb⟩), h.2.1.get0 u fun b h0 hb => hn b (.inr (.inl ⟨h0, hb⟩)), h.2.2.1.get0 u fun b h0 hb => hn b (.inr (.inr ⟨h0, hb⟩)), h.2.2.2⟩
theorem Mt.Rdy.at {w w' : World} {x : Mt} (h : x.Rdy w) (u : Ext w w') : x.Rdy w' := h.get u fun _ _ h => h
theorem Mt.Rdy.lt {w : World} {x : Mt} (h : x.Rdy w) {b : Nat} (hb : x.In b) : b < w.heap.size := by
  rcases hb with ⟨h0, hb⟩ | ⟨h0, hb⟩ | ⟨h0, hb⟩
  · exact h.1.lt0 h0 hb
  · exact h.2.1.lt0 h0 hb
  · exact h.2.2.1.lt0 h0 hb
theorem mt_len (x : Mt) : x.cells.length = 4 := rfl
theorem mt_one (x : Mt) : x.cells.all Value.oneCell' = true := rfl
end Go.Proofs.Ytpnigekkbmanlaa
