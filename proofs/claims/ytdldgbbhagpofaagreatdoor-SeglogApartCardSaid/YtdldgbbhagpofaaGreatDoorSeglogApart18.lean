/- Contracts and laws that the proof stands on. -/
import Derived.Test.YtdldgbbhagpofaaGreatDoorSeglogApart17
set_option linter.unusedSimpArgs false
set_option linter.unusedVariables false
namespace Go.Proofs.YtdldgbbhagpofaaGreatDoor
open Go.Sl facts
abbrev FD := List UInt8 × List UInt8
def fdat (fs : List Fi) (nm : ByteArray) : Option FD := (fs.find? fun x => decide (x.nm = nm)).map fun x => (x.safe, x.loose)
theorem fdat_append (a b : List Fi) (nm : ByteArray) : fdat (a ++ b) nm = (fdat a nm).or (fdat b nm) := by
  unfold fdat
  rw [List.find?_append]
  cases h : a.find? fun x => decide (x.nm = nm) <;> simp
theorem fdat_cons (x : Fi) (b : List Fi) (nm : ByteArray) : fdat (x :: b) nm = if x.nm = nm then some (x.safe, x.loose) else fdat b nm := by
  unfold fdat
  rw [List.find?_cons]
  by_cases h : x.nm = nm <;> simp [h]
theorem fdat_none {a : List Fi} {nm : ByteArray} (h : ∀ x ∈ a, x.nm ≠ nm) : fdat a nm = none := by
  unfold fdat
  rw [List.find?_eq_none.2 (fun x hx => by simpa using h x hx)]
  rfl
theorem take_ne {fs : List Fi} {nm : ByteArray} {pos : Nat} (hP : PosIs fs nm pos) : ∀ x ∈ fs.take pos, x.nm ≠ nm := fun x hx => by
  obtain ⟨i, hi, rfl⟩ := List.mem_iff_getElem.1 hx
  simp only [List.length_take] at hi
  rw [List.getElem_take]
  intro e
  have := cmpS_neg.1 (hP.lo i (by omega) (by omega))
  rw [e, ltB_irr] at this
  cases this
theorem fdat_no {fs : List Fi} {nm : ByteArray} {pos : Nat} (hS : SortF fs) (hP : PosIs fs nm pos) (hf : foundB fs nm pos = false) : fdat fs nm = none := by
  refine fdat_none fun x hx e => ?_
  obtain ⟨i, hi, rfl⟩ := List.mem_iff_getElem.1 hx
  obtain ⟨hP2, hF2⟩ := hS.at hi
  rw [e] at hP2 hF2
  have : pos = i := by
    rcases Nat.lt_trichotomy pos i with h | h | h
    · have h1 := hP2.lo pos (by omega) h
      exact absurd h1 (hP.hi pos (by omega) (Nat.le_refl _))
    · exact h
    · have h1 := hP.lo i hi h
      exact absurd h1 (hP2.hi i hi (Nat.le_refl _))
  subst this
  rw [hf] at hF2
  cases hF2
theorem fdat_yes {fs : List Fi} {nm : ByteArray} {pos : Nat} (hP : PosIs fs nm pos) (hlt : pos < fs.length) (hf : foundB fs nm pos = true) : fdat fs nm = some (fs[pos].safe, fs[pos].loose) := by
  conv => lhs; rw [split_at fs pos hlt]
  rw [fdat_append, fdat_none (take_ne hP), fdat_cons, if_pos (found_nm hf hlt)]
  rfl
theorem fdat_ins {fs : List Fi} {x : Fi} {pos : Nat} (hP : PosIs fs x.nm pos) (nm : ByteArray) : fdat (ins fs pos x) nm = if nm = x.nm then some (x.safe, x.loose) else fdat fs nm := by
  unfold ins
  rw [fdat_append, fdat_cons]
  by_cases h : nm = x.nm
  · subst h
    rw [fdat_none (take_ne hP), if_pos rfl, if_pos rfl]
    rfl
  · rw [if_neg (Ne.symm h), if_neg h, ← fdat_append, List.take_append_drop]
theorem fdat_upd {fs : List Fi} {x : Fi} {nm0 : ByteArray} {pos : Nat} (hP : PosIs fs nm0 pos) (hlt : pos < fs.length) (hx : x.nm = nm0) (hf : fs[pos].nm = nm0) (nm : ByteArray) : fdat (upd fs pos x) nm = if nm = nm0 then some (x.safe, x.loose) else fdat fs nm := by
  subst hx
  unfold upd
  by_cases h : nm = x.nm
  · subst h
    rw [fdat_append, fdat_cons, fdat_none (take_ne hP), if_pos rfl, if_pos rfl]
    rfl
  · rw [if_neg h]
    conv => rhs; rw [split_at fs pos hlt]
    rw [fdat_append, fdat_cons, fdat_append, fdat_cons, if_neg (Ne.symm h), if_neg (by rw [hf]; exact Ne.symm h)]
def fall (fs : List Fi) (nm : ByteArray) : List UInt8 := match fdat fs nm with | some (a, b) => a ++ b | none => []
structure DkX where
  q : Option Addr
  c : Nat
  fs : List Fi
structure Put1 (nm : ByteArray) (l : List UInt8) (fs gs : List Fi) : Prop where
  sort : SortF gs
  used : used gs = used fs + l.length
  len : gs.length ≤ fs.length + 1
  at_ : fdat gs nm = some (match fdat fs nm with | some (a, b) => (a, b ++ l) | none => ([], l))
  else_ : ∀ nm', nm' ≠ nm → fdat gs nm' = fdat fs nm'
structure Syn1 (nm : ByteArray) (fs gs : List Fi) : Prop where
  sort : SortF gs
  used : Go.Proofs.YtdldgbbhagpofaaGreatDoor.used gs = Go.Proofs.YtdldgbbhagpofaaGreatDoor.used fs
  len : gs.length = fs.length
  at_ : fdat gs nm = some (fall fs nm, [])
  else_ : ∀ nm', nm' ≠ nm → fdat gs nm' = fdat fs nm'
attribute [local irreducible] Code.wp wpList Exit.then Exit.inBlock bodyPost Back MidQ G GP QStep VStep CStep SStep Does Post Reads
theorem appendS (d : Nat) (room : Int) (q : Option Addr) (c : Nat) (ops ct : Int) (h : Cnt ops ct) (h1 : ct ≠ 1) (fs : List Fi) (hS : SortF fs) (nm : ByteArray) (hn0 : 0 < nm.size) (hn1 : nm.size ≤ 100) (hn : fs.length ≤ 1000) (hr0 : 0 ≤ room ∧ room ≤ 8388608) (hu : used fs ≤ 100000000) {C : Chunk} {p : Option Addr} {l : List UInt8} (cap : Nat) (hB : BtAt C p l) (hl : l.length ≤ 1000000) (hfit : (l.length : Int) ≤ room - used fs) :
    Does Tryz.prog 49 [ptr d, .string nm, .slice p l.length cap] (bagL d room ops ct q c fs [C]) (X := DkX) (fun _ => int 0) (fun y => bagL d room (ops + 1) (cutN ct) y.q y.c y.fs [C]) (fun y => Put1 nm l fs y.fs) := by
  obtain ⟨pos, hP⟩ := hS.pos nm
  cases hfd : foundB fs nm pos with
  | false =>
    refine does_map (fun x : AX => ⟨x.q, x.c, ins fs pos x.x⟩) (take_all _) (fun _ _ => rfl) (fun _ _ _ _ h => h) (fun x hx => ?_) (append_add d room q c ops ct h h1 fs nm pos hn0 hn1 (by omega) hP hr0 hu cap (btAt_slAt hB) hl hfd hfit)
    obtain ⟨e1, e2, e3⟩ := hx
    subst e1
    refine ⟨sort_ins hS hP hfd, ?_, ?_, ?_, fun nm' h' => ?_⟩
    · dsimp only; rw [used_ins, e2, e3]; simp
    · dsimp only; rw [ins_len _ _ _ hP.le]; exact Nat.le_refl _
    · dsimp only; rw [fdat_ins hP, if_pos rfl, fdat_no hS hP hfd, e2, e3]
    · dsimp only; rw [fdat_ins hP, if_neg h']
  | true =>
    have hlt := found_lt hfd
    refine does_map (fun x : Fi => ⟨q, c, upd fs pos x⟩) (take_all _) (fun _ _ => rfl) (fun Γ x w _ h => ?_) (fun x hx => ?_) (append_to d room q c ops ct h h1 fs nm pos hn0 hn1 (by omega) hP hr0 hu cap (btAt_slAt hB) hl hfd hlt hfit)
    · exact h
    · obtain ⟨e1, e2, e3⟩ := hx
      have e4 := found_nm hfd hlt
      refine ⟨sort_upd hS hlt e1, ?_, ?_, ?_, fun nm' h' => ?_⟩
      · dsimp only
        have := used_upd fs pos x hlt
        rw [e2, e3, List.length_append] at this
        omega
      · dsimp only; rw [upd_len _ _ _ hlt]; omega
      · dsimp only; rw [fdat_upd hP hlt (e1.trans e4) e4, if_pos rfl, fdat_yes hP hlt hfd, e2, e3]
      · dsimp only; rw [fdat_upd hP hlt (e1.trans e4) e4, if_neg h']
theorem fdat_found {fs : List Fi} {nm : ByteArray} {pos : Nat} (hS : SortF fs) (hP : PosIs fs nm pos) {y : FD} (h : fdat fs nm = some y) : foundB fs nm pos = true := by
  cases hf : foundB fs nm pos with
  | true => rfl
  | false => rw [fdat_no hS hP hf] at h; cases h
theorem syncS (d : Nat) (room : Int) (q : Option Addr) (c : Nat) (ops ct : Int) (h : Cnt ops ct) (h1 : ct ≠ 1) (fs : List Fi) (hS : SortF fs) (nm : ByteArray) (hn : fs.length ≤ 1001) (hu : used fs ≤ 100000000) (y : FD) (hy : fdat fs nm = some y) :
    Does Tryz.prog 39 [ptr d, .string nm] (bagL d room ops ct q c fs []) (X := DkX) (fun _ => int 0) (fun y => bagL d room (ops + 1) (cutN ct) y.q y.c y.fs []) (fun y => Syn1 nm fs y.fs) := by
  obtain ⟨pos, hP⟩ := hS.pos nm
  have hfd := fdat_found hS hP hy
  have hlt := found_lt hfd
  refine does_map (fun x : Fi => ⟨q, c, upd fs pos x⟩) (take_all _) (fun _ _ => rfl) (fun Γ x w hx h => ?_) (fun x hx => ?_) (sync_g d room q c ops ct h h1 fs nm pos (by omega) hP hu hfd hlt)
  · exact h
  · obtain ⟨e1, e2, e3⟩ := hx
    have e4 := found_nm hfd hlt
    have hall : fall fs nm = fs[pos].safe ++ fs[pos].loose := by unfold fall; rw [fdat_yes hP hlt hfd]
    refine ⟨sort_upd hS hlt e1, ?_, ?_, ?_, fun nm' h' => ?_⟩
    · dsimp only
      have := used_upd fs pos x hlt
      rw [e2, e3, List.length_append, List.length_nil] at this
      omega
    · dsimp only; rw [upd_len _ _ _ hlt]
    · dsimp only; rw [fdat_upd hP hlt (e1.trans e4) e4, if_pos rfl, hall, e2, e3]
    · dsimp only; rw [fdat_upd hP hlt (e1.trans e4) e4, if_neg h']
end Go.Proofs.YtdldgbbhagpofaaGreatDoor

namespace Go.Proofs.YtdldgbbhagpofaaGreatDoor
open Go.Sl facts
structure Wr (nm : ByteArray) (l : List UInt8) (fs gs : List Fi) : Prop where
  sort : SortF gs
  used : Go.Proofs.YtdldgbbhagpofaaGreatDoor.used gs = Go.Proofs.YtdldgbbhagpofaaGreatDoor.used fs + l.length
  len : gs.length ≤ fs.length + 1
  at_ : fdat gs nm = some (fall fs nm ++ l, [])
  else_ : ∀ nm', nm' ≠ nm → fdat gs nm' = fdat fs nm'
theorem Wr.of {nm : ByteArray} {l : List UInt8} {fs gs hs : List Fi} (h1 : Put1 nm l fs gs) (h2 : Syn1 nm gs hs) : Wr nm l fs hs := by
  refine ⟨h2.sort, by rw [h2.used, h1.used], by rw [h2.len]; exact h1.len, ?_, fun nm' h => by rw [h2.else_ nm' h, h1.else_ nm' h]⟩
  rw [h2.at_]
  unfold fall
  rw [h1.at_]
  cases fdat fs nm with
  | none => rfl
  | some y => obtain ⟨a, b⟩ := y; simp
def recB (l : List BV) : List UInt8 := (l.map fun r => frameB r.l).flatten
def partB (z : PV) : List UInt8 := (if z.fresh then frameB (vb z.first) else []) ++ recB z.l
theorem recB_take (l : List BV) (i : Nat) (h : i < l.length) : recB (l.take (i + 1)) = recB (l.take i) ++ frameB l[i].l := by
  unfold recB
  rw [List.take_add_one, List.getElem?_eq_getElem h, List.map_append, List.flatten_append]
  simp
theorem recB_len (l : List BV) : (recB l).length = sumL l + 8 * l.length := by
  induction l with
  | nil => rfl
  | cons r l ih =>
    have e : recB (r :: l) = frameB r.l ++ recB l := rfl
    have e2 : sumL (r :: l) = r.l.length + sumL l := by unfold sumL; simp
    rw [e, List.length_append, ih, frameB_len, e2, List.length_cons]
    omega
theorem rec_0 (l : List BV) : recB (l.take 0) = [] := rfl
theorem rec_le (l : List BV) (i : Nat) : (recB (l.take i)).length ≤ (recB l).length := by
  rw [recB_len, recB_len]
  have := sumL_take_le l i
  rw [List.length_take]
  omega
structure WrX where
  i : Nat
  q : Option Addr
  c : Nat
attribute [local irreducible] Code.wp wpList Exit.then Exit.inBlock bodyPost Back MidQ G GP QStep VStep CStep SStep Does Post Reads
attribute [local irreducible] frameB recB
theorem write_ {H : HP} (lg d : Nat) (x : LG) (off : Bool) (room : Int) (q : Option Addr) (c : Nat) (ops ct : Int) (h : Cnt (ops + 1) (cutN ct)) (hc0 : Cnt ops ct) (hct : ct = 0) (fs : List Fi) (hS : SortF fs) (hn : fs.length ≤ 999) (hr0' : 0 ≤ room ∧ room ≤ 8388608) (hu : used fs ≤ 10000000)
    (z : PV) (hz : z.file < 100) (hz1 : z.first ≤ 1000000000) (hP : PAt H z) (hB : BtsAt H z.l) (hbl : ∀ r ∈ z.l, r.l.length ≤ 131072) (hzl : z.l.length ≤ 1000) (hpl : (partB z).length ≤ 1000000) (hfit : ((partB z).length : Int) ≤ room - used fs) :
    Does Tryz.prog 29 [ptr lg, z.v] (x.row lg d off :: bagL d room ops ct q c fs [Pile H]) (X := DkX) (fun _ => int 0) (fun y => x.row lg d off :: bagL d room (ops + 2) ct y.q y.c y.fs [Pile H]) (fun y => Wr (nmB z.file) (partB z) fs y.fs) := by
  obtain ⟨rq, rc, xs, fq, fc, fs', size, sl⟩ := x
  dsimp only [LG.row]
  have hnm := nm_size z.file hz
  have hpe : partB z = (if z.fresh then frameB (vb z.first) else []) ++ recB z.l := rfl
  refine fn_intro Tryz.func29 rfl Tryz.ntmps29 rfl (by simp only [argFr, Nat.zero_add, Nat.reduceAdd]; rfl) (fun Γ => ?_)
  repeat (first
    | (refine g_ops ?_; first | refine sO ?_ | refine s_n (fun _ => ?_) | refine s_appB (fun _ _ => ?_) | refine s_app (fun _ _ => ?_) | refine s_b0 (fun _ => ?_) | ((fail_if_success refine g_lit rfl rfl rfl ?_); first | apply g_partM rfl rfl rfl | apply g_partMB rfl rfl rfl | fail))
    | refine gS ?_ | exact s_m | intro _)
  rename_i bx
  refine g_cutX (X := OA) (fun y => [(0, ptr lg), (3, ptr bx), (5, .slice y.1 (if z.fresh then frameB (vb z.first) else []).length y.2)])
    (fun y => .own y.1 (if z.fresh then frameB (vb z.first) else []).length y.2 1 (cells8 (if z.fresh then frameB (vb z.first) else [])) 5 :: .row bx z.cells 63 :: lrow lg d (.slice rq xs.length rc) (.slice fq fs'.length fc) size sl off :: bagL d room ops ct q c fs [Pile H]) (fun _ => True) ?_ (fun y _ => ?_)
  · cases hfr : z.fresh with
    | false =>
      refine g_own_nil none 1 5 ?_
      repeat (first
        | (refine g_ops ?_; first | refine sO ?_ | refine s_n (fun _ => ?_) | refine s_appB (fun _ _ => ?_) | refine s_app (fun _ _ => ?_) | refine s_b0 (fun _ => ?_) | ((fail_if_success refine g_lit rfl rfl rfl ?_); first | apply g_partM rfl rfl rfl | apply g_partMB rfl rfl rfl | fail))
        | refine gS ?_ | exact s_m | intro _)
      exact gM ((none, 0) : OA) trivial
    | true =>
      repeat (first
        | (refine g_ops ?_; first | refine sO ?_ | refine s_n (fun _ => ?_) | refine s_appB (fun _ _ => ?_) | refine s_app (fun _ _ => ?_) | refine s_b0 (fun _ => ?_) | ((fail_if_success refine g_lit rfl rfl rfl ?_); first | apply g_partM rfl rfl rfl | apply g_partMB rfl rfl rfl | fail))
        | refine gS ?_ | exact s_m | intro _)
      refine s_q (q := by exact qs_convInt rfl) ?_
      refine g_as 16 (v' := .int .u64 ((z.first : Nat) : Int)) rfl (congrArg (Value.int .u64) (by rw [u64_mod]; omega)) ?_
      have hv := varint z.first (by omega)
      repeat (first
        | (refine g_ops ?_; first | refine sO ?_ | refine s_n (fun _ => ?_) | refine s_appB (fun _ _ => ?_) | refine s_app (fun _ _ => ?_) | refine s_b0 (fun _ => ?_) | ((fail_if_success refine g_lit rfl rfl rfl ?_); first | apply g_partM rfl rfl rfl | apply g_partMB rfl rfl rfl | fail) | refine s_c (hv) (fun _ _ => ?_))
        | refine gS ?_ | exact s_m | intro _)
      rename_i yv _
      obtain ⟨vp, vc⟩ := yv
      dsimp only [List.cons_append, List.nil_append]
      refine g_own (p := vp) (len := (vb z.first).length) (cap := vc) (n := 1) (xs := cells8 (vb z.first)) (e := 5) (by (repeat (first | exact Sel.here | apply Sel.there)); first | done | fail) (fun _ _ hq => ?_)
      have hvl := vb_len10 z.first (by omega)
      have hf := fPut (.own vp (vb z.first).length vc 1 (cells8 (vb z.first)) 5) vp (vb z.first) vc (btAt_own hq rfl) (by omega)
      repeat (first
        | (refine g_ops ?_; first | refine sO ?_ | refine s_n (fun _ => ?_) | refine s_appB (fun _ _ => ?_) | refine s_app (fun _ _ => ?_) | refine s_b0 (fun _ => ?_) | ((fail_if_success refine g_lit rfl rfl rfl ?_); first | apply g_partM rfl rfl rfl | apply g_partMB rfl rfl rfl | fail) | refine s_c (hf) (fun _ _ => ?_))
        | refine gS ?_ | exact s_m | intro _)
      rename_i yf _
      obtain ⟨fp, fcc⟩ := yf
      dsimp only [List.cons_append, List.nil_append]
      exact gM ((fp, fcc) : OA) trivial
  · generalize hB0 : (if z.fresh = true then frameB (vb z.first) else []) = B0 at *
    obtain ⟨q0, c0⟩ := y
    dsimp only
    repeat (first
      | (refine g_ops ?_; first | refine sO ?_ | refine s_n (fun _ => ?_) | refine s_appB (fun _ _ => ?_) | refine s_app (fun _ _ => ?_) | refine s_b0 (fun _ => ?_) | ((fail_if_success refine g_lit rfl rfl rfl ?_); first | apply g_partM rfl rfl rfl | apply g_partMB rfl rfl rfl | fail))
      | refine gS ?_ | exact s_m | intro _)
    refine g_as 24 (v' := int ((0 : Nat) : Int)) rfl rfl ?_
    refine g_loop (X := WrX) (fun y => [(0, ptr lg), (3, ptr bx), (5, .slice y.q (B0 ++ recB (z.l.take y.i)).length y.c), (22, .slice z.p z.l.length z.c), (23, int z.l.length), (24, int y.i)])
      (fun y => .own y.q (B0 ++ recB (z.l.take y.i)).length y.c 1 (cells8 (B0 ++ recB (z.l.take y.i))) 5 :: .row bx z.cells 63 :: lrow lg d (.slice rq xs.length rc) (.slice fq fs'.length fc) size sl off :: bagL d room ops ct q c fs [Pile H]) (fun y => y.i ≤ z.l.length) (fun y => z.l.length - y.i) ⟨0, q0, c0⟩ (Nat.zero_le _) (by rw [rec_0, List.append_nil]; exact ((by (repeat (first | exact FrSub.nil | refine FrSub.cons rfl ?_)); first | done | fail))) (by rw [rec_0, List.append_nil]; exact ((by (repeat (first | exact Take.nil | apply Take.cons | exact Sel.here | apply Sel.there)); first | done | fail))) (fun y hy => ?_)
    obtain ⟨i, q1, c1⟩ := y
    dsimp only at hy ⊢
    repeat (first
      | (refine g_ops ?_; first | refine sO ?_ | refine s_n (fun _ => ?_) | refine s_appB (fun _ _ => ?_) | refine s_app (fun _ _ => ?_) | refine s_b0 (fun _ => ?_) | ((fail_if_success refine g_lit rfl rfl rfl ?_); first | apply g_partM rfl rfl rfl | apply g_partMB rfl rfl rfl | fail))
      | refine gS ?_ | exact s_m | intro _)
    refine g_cond_dec rfl (fun h5 => ?_) (fun h5 => ?_)
    · have hi' : i < z.l.length := by omega
      obtain ⟨rb, ro, hzp, hrow⟩ := slAt_cell hP (i := i) (v := (z.l[i]).v) (by simp [hi'])
      have hst := recB_take z.l i hi'
      have hbt := hB z.l[i] (List.getElem_mem hi')
      have hbn := hbl z.l[i] (List.getElem_mem hi')
      have hlen : (B0 ++ recB (z.l.take i)).length ≤ 1000000 := by
        have : (recB (z.l.take i)).length ≤ (recB z.l).length := rec_le z.l i
        rw [hpe, List.length_append] at hpl
        rw [List.length_append]; omega
      generalize hr0 : z.l[i] = r at hrow hst hbt hbn
      rw [hzp]
      have hr : ∀ k, k = i → Reads (Pile H) ⟨rb, ro + k, none⟩ r.v := fun k hk => by rw [hk]; exact hrow
      have hf := fPut (Pile H) r.p r.l r.c hbt (by omega)
      have hfl := frameB_len r.l
      have hsn : B0 ++ recB (z.l.take (i + 1)) = (B0 ++ recB (z.l.take i)) ++ frameB r.l := by rw [hst, List.append_assoc]
      generalize B0 ++ recB (z.l.take i) = b1 at *
      repeat (first
        | (refine g_ops ?_; first | refine sO ?_ | refine s_n (fun _ => ?_) | refine s_appB (fun _ _ => ?_) | refine s_app (fun _ _ => ?_) | refine s_b0 (fun _ => ?_) | ((fail_if_success refine g_lit rfl rfl rfl ?_); first | apply g_partM rfl rfl rfl | apply g_partMB rfl rfl rfl | fail) | refine s_c (hf) (fun _ _ => ?_))
        | refine gS ?_ | exact s_m | intro _)
      rename_i yf _ q' c'
      rw [← hsn]
      refine g_as 24 (v' := int ((i + 1 : Nat) : Int)) rfl (congrArg (Value.int .i64) (by push_cast; rfl)) ?_
      exact gA ⟨i + 1, q', c'⟩ (by simp only; omega) hi'
    · obtain rfl : i = z.l.length := by omega
      rw [List.take_length, ← hpe]
      subst hct
      have hpl2 := hpl
      generalize hpb : partB z = pb at *
      repeat (first
        | (refine g_ops ?_; first | refine sO ?_ | refine s_n (fun _ => ?_) | refine s_appB (fun _ _ => ?_) | refine s_app (fun _ _ => ?_) | refine s_b0 (fun _ => ?_) | ((fail_if_success refine g_lit rfl rfl rfl ?_); first | apply g_partM rfl rfl rfl | apply g_partMB rfl rfl rfl | fail))
        | refine gS ?_ | exact s_m | intro _)
      refine g_own (p := q1) (len := pb.length) (cap := c1) (n := 1) (xs := cells8 pb) (e := 5) (by (repeat (first | exact Sel.here | apply Sel.there)); first | done | fail) (fun _ _ hq => ?_)
      have happ := appendS d room q c ops 0 hc0 (by decide) fs hS (nmB z.file) hnm.2 (by omega) (by omega) hr0' (by omega) (C := .own q1 pb.length c1 1 (cells8 pb) 5) c1 (btAt_own hq rfl) hpl hfit
      have hsn := sname z.file hz
      refine g_draw (id := 10) (C := [.row bx z.cells 63, lrow lg d (.slice rq xs.length rc) (.slice fq fs'.length fc) size sl off]) (.take 0 (.take 1 (.take 2 (.see 3 [8,9] (.take 4 (.see 5 [6,8,9] (.see 6 [8,9] (.take 7 (.thaw 8 (.take 9 .done)))))))))) (by kernel_rfl) (by (repeat (first | exact Take.nil | apply Take.cons | exact Sel.here | apply Sel.there)); first | done | fail) (fun k hd hk => ?_)
      repeat (first
        | (refine gp_take ?_; first | refine pT ?_ | ((fail_if_success refine gp_lit rfl rfl rfl rfl ?_); first | apply gp_guard_dec rfl rfl rfl rfl | apply gp_guard rfl rfl rfl rfl | fail) | refine p_p (hsn) ?_)
        | (refine gp_see ?_; first | refine p_f ?_ | refine pS ?_ | ((fail_if_success refine gp_lit rfl rfl rfl rfl ?_); first | apply gp_guard_dec rfl rfl rfl rfl | apply gp_guard rfl rfl rfl rfl | fail) | refine p_sp (hsn) ?_)
        | (refine gp_one ?_; first | refine pO ?_ | refine p_n (fun _ => ?_) | refine p_appB (fun _ _ => ?_) | refine p_app (fun _ _ => ?_) | refine p_b0 (fun _ => ?_) | ((fail_if_success refine gp_lit rfl rfl rfl rfl ?_); first | apply gp_guard_dec rfl rfl rfl rfl | apply gp_guard rfl rfl rfl rfl | fail))
        | refine gp_two ?_ ?_ | refine gp_done hd hk ?_ | intro _ | refine p_tc (happ) hd hk (fun _ _ _ hd hk => ?_) | refine p_ta hd hk (fun _ _ _ hd hk => ?_) | refine p_ts hd hk (fun _ hd hk => ?_))
      rename_i y1 m1 hput
      obtain ⟨q2, c2, gs⟩ := y1
      dsimp only [List.cons_append, List.nil_append] at hput ⊢
      have hct2 : cutN 0 = 0 := by decide
      have hsy := syncS d room q2 c2 (ops + 1) (cutN 0) h (by decide) gs hput.sort (nmB z.file) (by have := hput.len; omega) (by have := hput.used; omega) _ hput.at_
      repeat (first
        | (refine g_ops ?_; first | refine sO ?_ | refine s_n (fun _ => ?_) | refine s_appB (fun _ _ => ?_) | refine s_app (fun _ _ => ?_) | refine s_b0 (fun _ => ?_) | ((fail_if_success refine g_lit rfl rfl rfl ?_); first | apply g_partM rfl rfl rfl | apply g_partMB rfl rfl rfl | fail))
        | refine gS ?_ | exact s_m | intro _)
      refine g_draw (id := 13) (C := [.row bx z.cells 63, lrow lg d (.slice rq xs.length rc) (.slice fq fs'.length fc) size sl off]) (.take 0 (.take 1 (.take 2 (.see 3 [7,8] (.take 4 (.see 5 [6,7,8] (.see 6 [7,8] (.thaw 7 (.take 8 .done))))))))) (by kernel_rfl) (by (repeat (first | exact Take.nil | apply Take.cons | exact Sel.here | apply Sel.there)); first | done | fail) (fun k hd hk => ?_)
      repeat (first
        | (refine gp_take ?_; first | refine pT ?_ | ((fail_if_success refine gp_lit rfl rfl rfl rfl ?_); first | apply gp_guard_dec rfl rfl rfl rfl | apply gp_guard rfl rfl rfl rfl | fail) | refine p_p (hsn) ?_)
        | (refine gp_see ?_; first | refine p_f ?_ | refine pS ?_ | ((fail_if_success refine gp_lit rfl rfl rfl rfl ?_); first | apply gp_guard_dec rfl rfl rfl rfl | apply gp_guard rfl rfl rfl rfl | fail) | refine p_sp (hsn) ?_)
        | (refine gp_one ?_; first | refine pO ?_ | refine p_n (fun _ => ?_) | refine p_appB (fun _ _ => ?_) | refine p_app (fun _ _ => ?_) | refine p_b0 (fun _ => ?_) | ((fail_if_success refine gp_lit rfl rfl rfl rfl ?_); first | apply gp_guard_dec rfl rfl rfl rfl | apply gp_guard rfl rfl rfl rfl | fail))
        | refine gp_two ?_ ?_ | refine gp_done hd hk ?_ | intro _ | refine p_tc (hsy) hd hk (fun _ _ _ hd hk => ?_) | refine p_ta hd hk (fun _ _ _ hd hk => ?_) | refine p_ts hd hk (fun _ hd hk => ?_))
      rename_i y2 m2 hsyn
      obtain ⟨q3, c3, hs3⟩ := y2
      dsimp only [List.cons_append, List.nil_append] at hsyn ⊢
      rw [hct2, hct2, show ops + 1 + 1 = ops + 2 by omega]
      repeat (first
        | (refine g_ops ?_; first | refine sO ?_ | refine s_n (fun _ => ?_) | refine s_appB (fun _ _ => ?_) | refine s_app (fun _ _ => ?_) | refine s_b0 (fun _ => ?_) | ((fail_if_success refine g_lit rfl rfl rfl ?_); first | apply g_partM rfl rfl rfl | apply g_partMB rfl rfl rfl | fail))
        | refine gS ?_ | exact s_m | intro _)
      exact gR (⟨q3, c3, hs3⟩ : DkX) (Wr.of hput hsyn)
end Go.Proofs.YtdldgbbhagpofaaGreatDoor
