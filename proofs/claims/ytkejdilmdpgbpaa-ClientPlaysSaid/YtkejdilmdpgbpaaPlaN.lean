/- Steps that came in, as lists. -/
import Derived.Test.YtkejdilmdpgbpaaPlaI
import Derived.Test.YtkejdilmdpgbpaaPlaZ
set_option linter.unusedSimpArgs false
set_option linter.unusedVariables false
namespace Go.Proofs.Ytkejdilmdpgbpaa
open Go Go.Sl facts
abbrev S3T := Int × Int × Int × Unit
abbrev CurT := S3T × Int × ByteArray × Unit
abbrev EvT := ByteArray × Int × ByteArray × S3T × Int × Unit
abbrev PutT := ByteArray × Int × SliceOf ByteArray × Unit
abbrev BatT := ByteArray × SliceOf PutT × Unit
abbrev RngT := Int × Int × Int × Int × Unit
abbrev CallT := Int × S3T × BatT × ByteArray × Int × CurT × ByteArray × Int × RngT × Int × Unit
abbrev RepT := Int × S3T × SliceOf Int × SliceOf EvT × CurT × SliceOf RngT × Int × Unit
abbrev StpT := Int × CallT × Int × RepT × Unit
def s3T (x : S3T) : S3 := ⟨x.1, x.2.1, x.2.2.1⟩
def curT (x : CurT) : Cur := ⟨s3T x.1, x.2.1, x.2.2.1⟩
def evT (x : EvT) : Ev := ⟨x.1, x.2.1, x.2.2.1, s3T x.2.2.2.1, x.2.2.2.2.1⟩
def putV (x : PutT) : PutV := ⟨x.1, x.2.1, x.2.2.1.place, x.2.2.1.xs.length, x.2.2.1.cap⟩
def putD (x : PutT) : PutD := ⟨x.1, x.2.1, x.2.2.1.xs⟩
def rngC (x : RngT) : List Value := [int x.1, int x.2.1, int x.2.2.1, int x.2.2.2.1]
def callT : CallT → CallV := fun (kind, tok, bat, stream, frm, cur, pat, mx, r, to, _) => ⟨kind, s3T tok, bat.1, stream, frm, curT cur, pat, mx, r.1, r.2.1, r.2.2.1, r.2.2.2.1, to⟩
def repT : RepT → Rp := fun (code, st, firsts, evs, cur, ranges, node, _) => ⟨⟨code, s3T st, curT cur, node⟩, firsts.place, firsts.xs.length, firsts.cap, firsts.xs.map int, evs.place, evs.cap, evs.xs.map evT, ranges.place, ranges.xs.length, ranges.cap, ranges.xs.flatMap rngC⟩
def stpT : StpT → StV := fun (kind, call, n, rep, _) => ⟨kind, callT call, call.2.2.1.2.1.place, call.2.2.1.2.1.cap, call.2.2.1.2.1.xs.map putV, call.2.2.1.2.1.xs.map putD, n, repT rep⟩
theorem ml {n : Nat} (h : n ≤ maxLen) : n ≤ 9223372036854775807 := by unfold maxLen at h; omega
theorem flat_one {α : Type} (f : α → Value) : ∀ l : List α, (l.flatMap fun x => [f x]) = l.map f
  | [] => rfl
  | a :: l => by rw [List.flatMap_cons, flat_one f l]; rfl
theorem s3T_of {W : World} {x : S3T} {c : List Value} (h : OpensZ.is (P := Try.prog) (t := 25) W x c) : c = (s3T x).cells := by
  obtain ⟨h0, ⟨h1, _⟩, ⟨h2, _⟩, ⟨h3, _⟩, _⟩ := h
  match c, h0 with
  | [c0, c1, c2], _ =>
    simp at h1 h2 h3
    subst h1 h2 h3
    rfl
theorem curT_of {W : World} {x : CurT} {c : List Value} (h : OpensZ.is (P := Try.prog) (t := 27) W x c) : c = (curT x).cells ∧ (curT x).t.size ≤ 9223372036854775807 := by
  obtain ⟨h0, h1, ⟨h2, _⟩, ⟨h3, g3⟩, _⟩ := h
  have h1 := s3T_of h1
  match c, h0 with
  | [c0, c1, c2, c3, c4], _ =>
    simp at h1 h2 h3
    obtain ⟨rfl, rfl, rfl⟩ := h1
    subst h2 h3
    exact ⟨rfl, ml g3⟩
theorem evT_of {W : World} {x : EvT} {c : List Value} (h : OpensZ.is (P := Try.prog) (t := 53) W x c) : c = (evT x).cells ∧ (evT x).st.size ≤ 9223372036854775807 ∧ (evT x).data.size ≤ 9223372036854775807 := by
  obtain ⟨h0, ⟨h1, g1⟩, ⟨h2, _⟩, ⟨h3, g3⟩, h4, ⟨h8, _⟩, _⟩ := h
  have h4 := s3T_of h4
  match c, h0 with
  | [c0, c1, c2, c3, c4, c5, c6], _ =>
    simp at h1 h2 h3 h4 h8
    obtain ⟨rfl, rfl, rfl⟩ := h4
    subst h1 h2 h3 h8
    exact ⟨rfl, ml g1, ml g3⟩
theorem rngT_of {W : World} {x : RngT} {c : List Value} (h : OpensZ.is (P := Try.prog) (t := 36) W x c) : c = rngC x := by
  obtain ⟨h0, ⟨h1, _⟩, ⟨h2, _⟩, ⟨h3, _⟩, ⟨h4, _⟩, _⟩ := h
  match c, h0 with
  | [c0, c1, c2, c3], _ =>
    simp at h1 h2 h3 h4
    subst h1 h2 h3 h4
    rfl
def PutIn (W : World) (x : PutT) : Prop := PutAt (Init W) (putV x) (putD x) ∧ (putD x).data.length * 16 ≤ 140737488355328
theorem putT_of {W : World} {x : PutT} {c : List Value} (h : OpensZ.is (P := Try.prog) (t := 88) W x c) : c = (putV x).cells ∧ PutIn W x := by
  obtain ⟨h0, ⟨h1, _⟩, ⟨h2, _⟩, ⟨h3, g3⟩, _⟩ := h
  match c, h0 with
  | [c0, c1, c2], _ =>
    simp [SliceOf.val] at h1 h2 h3
    subst h1 h2 h3
    obtain ⟨e1, e2, _, _⟩ := sl_inZ (f := fun s : ByteArray => s) (g := fun s => [Value.string s]) (R := fun _ => True) (by decide) g3 (fun x c hx => ⟨hx.1, trivial⟩) (fun _ => rfl) (fun _ => rfl)
    refine ⟨rfl, ⟨rfl, rfl, rfl, ?_⟩, e2⟩
    rw [List.map_id' x.2.2.1.xs] at e1
    rw [show (x.2.2.1.xs.flatMap fun s => [Value.string s]) = x.2.2.1.xs.map Value.string from flat_one _ _] at e1
    exact e1
theorem putsAt_of {W : World} {s : SliceOf PutT} (g : (∀ y ∈ s.xs.map id, PutIn W y)) : PutsAt (Init W) (s.xs.map putV) (s.xs.map putD) := by
  refine ⟨by simp, fun i v d h1 h2 => ?_⟩
  rw [List.getElem?_map, Option.map_eq_some_iff] at h1 h2
  obtain ⟨y, hy, rfl⟩ := h1
  obtain ⟨z, hz, rfl⟩ := h2
  rw [hy] at hz
  cases hz
  exact (g y (by rw [List.map_id]; exact List.mem_of_getElem? hy)).1
structure CallIn (W : World) (x : CallT) : Prop where
  b : SlAt (Init W) 3 x.2.2.1.2.1.place (x.2.2.1.2.1.xs.map putV).length ((x.2.2.1.2.1.xs.map putV).flatMap PutV.cells)
  d : PutsAt (Init W) (x.2.2.1.2.1.xs.map putV) (x.2.2.1.2.1.xs.map putD)
  bl : (x.2.2.1.2.1.xs.map putV).length * 48 ≤ 140737488355328
  dl : ∀ d ∈ x.2.2.1.2.1.xs.map putD, d.data.length * 16 ≤ 140737488355328
  z1 : (callT x).stream.size ≤ 9223372036854775807
  z2 : (callT x).pat.size ≤ 9223372036854775807
  z3 : (callT x).cur.t.size ≤ 9223372036854775807
set_option synthInstance.maxHeartbeats 400000 in
set_option synthInstance.maxSize 1000 in
theorem callT_of {W : World} {x : CallT} {c : List Value} (h : OpensZ.is (P := Try.prog) (t := 38) W x c) : c = (callT x).cellsF x.2.2.1.2.1.place (x.2.2.1.2.1.xs.map putV).length x.2.2.1.2.1.cap ∧ CallIn W x := by
  obtain ⟨kind, tok, ⟨key, ps, _⟩, stream, frm, cur, pat, mx, r, to, _⟩ := x
  obtain ⟨h0, ⟨h1, _⟩, h2, ⟨h3, ⟨h4, _⟩, ⟨h5, g5⟩, _⟩, ⟨h6, g6⟩, ⟨h7, _⟩, h8, ⟨h9, g9⟩, ⟨h10, _⟩, h11, ⟨h12, _⟩, _⟩ := h
  have h2 := s3T_of h2
  obtain ⟨h8, g8⟩ := curT_of h8
  have h11 := rngT_of h11
  match c, h0 with
  | [c0, c1, c2, c3, c4, c5, c6, c7, c8, c9, c10, c11, c12, c13, c14, c15, c16, c17, c18, c19], _ =>
    simp [SliceOf.val, rngC] at h1 h2 h4 h5 h6 h7 h8 h9 h10 h11 h12
    obtain ⟨rfl, rfl, rfl⟩ := h2
    obtain ⟨rfl, rfl, rfl, rfl, rfl⟩ := h8
    obtain ⟨rfl, rfl, rfl, rfl⟩ := h11
    subst h1 h4 h5 h6 h7 h9 h10 h12
    obtain ⟨e1, e2, e3, _⟩ := sl_inZ (f := id) (g := fun x : PutT => (putV x).cells) (R := PutIn W) (by decide) g5 (fun x c hx => putT_of hx) (fun _ => rfl) (fun _ => rfl)
    refine ⟨by simp [callT], ⟨?_, putsAt_of e3, ?_, fun d hd => ?_, ml g6, ml g9, g8⟩⟩
    · rw [List.map_id] at e1
      rw [List.length_map, List.flatMap_map]
      exact e1
    · rw [List.length_map]; exact e2
    · obtain ⟨y, hy, rfl⟩ := List.mem_map.1 hd
      exact (e3 y (by rw [List.map_id]; exact hy)).2
structure RepIn (W : World) (r : Rp) : Prop where
  a1 : SlAt (Init W) 1 r.p1 r.m1 r.l1
  a2 : SlAt (Init W) 7 r.p2 r.evs.length (r.evs.flatMap Ev.cells)
  a3 : SlAt (Init W) 4 r.p3 r.m3 r.l3
  n1 : r.m1 ≤ 9223372036854775807
  n2 : r.evs.length ≤ 9223372036854775807
  n3 : r.m3 ≤ 9223372036854775807
  eo : EvsOk r.evs
  z4 : r.v.cur.t.size ≤ 9223372036854775807
set_option synthInstance.maxHeartbeats 400000 in
set_option synthInstance.maxSize 1000 in
theorem repT_of {W : World} {x : RepT} {c : List Value} (h : OpensZ.is (P := Try.prog) (t := 46) W x c) : c = (repT x).cells ∧ RepIn W (repT x) := by
  obtain ⟨code, st, firsts, evs, cur, ranges, node, _⟩ := x
  obtain ⟨h0, ⟨h1, _⟩, h2, ⟨h3, g3⟩, ⟨h4, g4⟩, h5, ⟨h6, g6⟩, ⟨h7, _⟩, _⟩ := h
  have h2 := s3T_of h2
  obtain ⟨h5, g5⟩ := curT_of h5
  match c, h0 with
  | [c0, c1, c2, c3, c4, c5, c6, c7, c8, c9, c10, c11, c12], _ =>
    simp [SliceOf.val] at h1 h2 h3 h4 h5 h6 h7
    obtain ⟨rfl, rfl, rfl⟩ := h2
    obtain ⟨rfl, rfl, rfl, rfl, rfl⟩ := h5
    subst h1 h3 h4 h6 h7
    obtain ⟨e1, _, _, e2⟩ := sl_inZ (f := fun n : Int => n) (g := fun n => [int n]) (R := fun _ => True) (by decide) g3 (fun x c hx => ⟨hx.1, trivial⟩) (fun _ => rfl) (fun _ => rfl)
    obtain ⟨f1, _, f3, f2⟩ := sl_inZ (f := evT) (R := fun y => y.st.size ≤ 9223372036854775807 ∧ y.data.size ≤ 9223372036854775807) (by decide) g4 (fun x c => evT_of) (fun _ => rfl) ev_len
    obtain ⟨k1, _, _, k2⟩ := sl_inZ (f := id) (g := rngC) (R := fun _ => True) (by decide) g6 (fun x c hx => ⟨rngT_of hx, trivial⟩) (fun _ => rfl) (fun _ => rfl)
    refine ⟨by simp [repT], ⟨?_, f1, ?_, e2, by simpa [repT] using f2, k2, f3, g5⟩⟩
    · rw [List.map_id' firsts.xs] at e1
      rw [show (firsts.xs.flatMap fun n => [int n]) = firsts.xs.map int from flat_one _ _] at e1
      exact e1
    · rw [List.map_id] at k1
      exact k1
set_option synthInstance.maxHeartbeats 400000 in
set_option synthInstance.maxSize 1000 in
theorem stpT_of {W : World} {x : StpT} {c : List Value} (h : OpensZ.is (P := Try.prog) (t := 71) W x c) : c = (stpT x).cells ∧ StepAt (Init W) (stpT x) := by
  obtain ⟨kind, call, n, rep, _⟩ := x
  obtain ⟨h0, ⟨h1, _⟩, h2, ⟨h3, _⟩, h4, _⟩ := h
  obtain ⟨h2, b⟩ := callT_of h2
  obtain ⟨h4, r⟩ := repT_of h4
  refine ⟨?_, ⟨b.b, b.d, b.bl, b.dl, r.a1, r.a2, r.a3, r.n1, r.n2, r.n3, r.eo, b.z1, b.z2, b.z3, r.z4⟩⟩
  have e : c = (c.drop 0).take 1 ++ ((c.drop 1).take 20 ++ ((c.drop 21).take 1 ++ (c.drop 22).take 13)) := by
    have l1 : (c.drop 22).take 13 = c.drop 22 := List.take_of_length_le (by rw [List.length_drop, h0]; decide)
    have l2 : (c.drop 21).take 1 ++ c.drop 22 = c.drop 21 := by have := List.take_append_drop 1 (c.drop 21); rwa [List.drop_drop] at this
    have l3 : (c.drop 1).take 20 ++ c.drop 21 = c.drop 1 := by have := List.take_append_drop 20 (c.drop 1); rwa [List.drop_drop] at this
    rw [l1, l2, l3]
    exact (List.take_append_drop 1 c).symm
  rw [e, h1, h2, h3, h4]
  rfl
set_option synthInstance.maxHeartbeats 400000 in
set_option synthInstance.maxSize 1000 in
theorem stepsAt_of {W : World} {x : SliceOf StpT} {c : List Value} (h : OpensZ.is (P := Try.prog) (t := 64) W x c) : StepsAt (Init W) x.place (x.xs.map stpT) ∧ x.xs.length ≤ 9223372036854775807 := by
  obtain ⟨_, g⟩ := h
  obtain ⟨k1, _, k3, k2⟩ := sl_inZ (f := stpT) (R := StepAt (Init W)) (by decide) g (fun x c => stpT_of) (fun _ => rfl) stv_len
  exact ⟨⟨k1, k3⟩, k2⟩
end Go.Proofs.Ytkejdilmdpgbpaa
