/- Plain: tables of streams. -/
import Derived.Test.YtcgmliaahdpmcaaDoorEvA
set_option linter.unusedSimpArgs false
set_option linter.unusedVariables false
namespace Go.Proofs.YtcgmliaahdpmcaaDoor
open Go.Sl
/-- What a stream knows of a key. -/
structure Kn where
  key : ByteArray
  first : Int
  s : S3
abbrev Kn.cells (x : Kn) : List Value := [.string x.key, .int .i64 x.first, .int .i64 x.s.w, .int .i64 x.s.l, .int .i64 x.s.n]
abbrev Kn.v (x : Kn) : Value := .agg x.cells.toArray
def Kn.zero : Kn := ⟨ByteArray.empty, 0, S3.zero⟩
/-- A stream in memory. -/
structure Sm where
  f : Nat
  nm : ByteArray
  q : Option Addr
  c : Nat
  evs : List Ev
  mb : Nat
  ks : List Kn
abbrev kmap (ks : List Kn) : List (ByteArray × Value) := ks.map fun k => (k.key, k.v)
abbrev smap (T : List Sm) : List (ByteArray × Value) := T.map fun x => (x.nm, .pointer (some ⟨x.f, 0, none⟩))
def fnd : List Sm → ByteArray → Option Sm
  | [], _ => none
  | x :: T, nm => if nm = x.nm then some x else fnd T nm
def fkn : List Kn → ByteArray → Option Kn
  | [], _ => none
  | x :: T, nm => if nm = x.key then some x else fkn T nm
def tput : List Sm → Sm → List Sm
  | [], x => [x]
  | y :: T, x => if x.nm = y.nm then x :: T else y :: tput T x
theorem mget_smap (T : List Sm) (nm : ByteArray) : mget (smap T) nm = (fnd T nm).map fun x => .pointer (some ⟨x.f, 0, none⟩) := by
  induction T with
  | nil => rfl
  | cons x T ih =>
    simp only [smap, List.map_cons, mget, fnd]
    split
    · rfl
    · exact ih
theorem mget_kmap (T : List Kn) (nm : ByteArray) : mget (kmap T) nm = (fkn T nm).map Kn.v := by
  induction T with
  | nil => rfl
  | cons x T ih =>
    simp only [kmap, List.map_cons, mget, fkn]
    split
    · rfl
    · exact ih
theorem fnd_split {T : List Sm} {nm : ByteArray} {x : Sm} (h : fnd T nm = some x) : x.nm = nm ∧ ∃ A B, T = A ++ x :: B ∧ ∀ x' : Sm, x'.nm = nm → tput T x' = A ++ x' :: B := by
  induction T with
  | nil => cases h
  | cons y T ih =>
    simp only [fnd] at h
    split at h
    · rename_i e
      cases h
      exact ⟨e.symm, [], T, rfl, fun x' hx => by simp [tput, hx, e]⟩
    · rename_i e
      obtain ⟨h1, A, B, h2, h3⟩ := ih h
      refine ⟨h1, y :: A, B, by simp [h2], fun x' hx => ?_⟩
      simp only [tput, hx, if_neg e, List.cons_append]
      rw [h3 x' hx]
theorem fnd_none {T : List Sm} {nm : ByteArray} (h : fnd T nm = none) : ∀ x' : Sm, x'.nm = nm → tput T x' = T ++ [x'] ∧ ∀ v, mput (smap T) nm v = smap T ++ [(nm, v)] := by
  induction T with
  | nil => exact fun x' hx => ⟨rfl, fun v => rfl⟩
  | cons y T ih =>
    simp only [fnd] at h
    split at h
    · cases h
    · rename_i e
      intro x' hx
      obtain ⟨h1, h2⟩ := ih h x' hx
      refine ⟨by simp [tput, hx, e, h1], fun v => ?_⟩
      have := h2 v
      simp only [smap, List.map_cons, mput, if_neg e, List.cons_append] at this ⊢
      rw [this]
theorem fkn_none {T : List Kn} {nm : ByteArray} (h : fkn T nm = none) : ∀ v, mput (kmap T) nm v = kmap T ++ [(nm, v)] := by
  induction T with
  | nil => exact fun v => rfl
  | cons y T ih =>
    simp only [fkn] at h
    split at h
    · cases h
    · rename_i e
      intro v
      have := ih h v
      simp only [kmap, List.map_cons, mput, if_neg e, List.cons_append] at this ⊢
      rw [this]
def alikeB : List Ev → Bool
  | [] => true
  | e :: l => (e :: l).all fun x => decide (x.st = e.st) && (decide (x.s.w = e.s.w ∧ x.s.l = e.s.l ∧ x.s.n = e.s.n) && x.ok)
def goesB : List Ev → Int → Bool
  | [], _ => true
  | e :: l, v => decide (e.ver = v + 1) && goesB l (v + 1)
theorem goes_all : ∀ (l : List Ev) (v : Int), goesB l v = true ↔ ∀ (i : Nat) (h : i < l.length), l[i].ver = v + 1 + i
  | [], v => by simp [goesB]
  | e :: l, v => by
    simp only [goesB, Bool.and_eq_true, decide_eq_true_eq, goes_all l]
    constructor
    · rintro ⟨h1, h2⟩ i hi
      cases i with
      | zero => simpa using h1
      | succ i => have := h2 i (by simpa using hi); simp only [List.getElem_cons_succ, this]; push_cast; omega
    · intro h
      have h0 : e.ver = v + 1 + ((0 : Nat) : Int) := h 0 (by simp)
      refine ⟨by omega, fun i hi => ?_⟩
      have := h (i + 1) (by simpa using hi)
      simp only [List.getElem_cons_succ] at this
      rw [this]; push_cast; omega
end Go.Proofs.YtcgmliaahdpmcaaDoor
