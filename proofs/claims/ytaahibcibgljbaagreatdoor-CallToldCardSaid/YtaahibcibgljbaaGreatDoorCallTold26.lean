/- Contracts and laws that the proof stands on. -/
import Derived.Test.YtaahibcibgljbaaGreatDoorCallTold25
import Derived.Test.YtaahibcibgljbaaGreatDoorCallTold13
set_option linter.unusedSimpArgs false
set_option linter.unusedVariables false
namespace Go.Proofs.YtaahibcibgljbaaGreatDoor
open Go.Sl facts
def szE : List Evt → Nat
  | [] => 0
  | x :: l => x.st.size + x.data.size + szE l
theorem szE_cons (x : Evt) (l : List Evt) : szE (x :: l) = x.st.size + x.data.size + szE l := rfl
attribute [local irreducible] weigh weighL
theorem evGood {y : Evt} (h : EvtIn y) : GoodT (evL y) := goodL fun z hz => by
  simp only [List.mem_cons, List.not_mem_nil, or_false] at hz
  rcases hz with rfl | rfl | rfl | rfl | rfl
  · exact goodS
  · exact goodI h.i1
  · exact goodS
  · exact goodS
  · exact goodI h.i5
theorem rgGood {y : Rge} (h : inI y.a ∧ inI y.b ∧ inI y.c ∧ inI y.d) : GoodT (rgL y) := goodL fun z hz => by
  simp only [List.mem_cons, List.not_mem_nil, or_false] at hz
  rcases hz with rfl | rfl | rfl | rfl
  · exact goodI h.1
  · exact goodI h.2.1
  · exact goodI h.2.2.1
  · exact goodI h.2.2.2
theorem kvGood {F : List KV} (h : ∀ f ∈ F, GoodT f.2) : GoodT (kvV F) := goodP (by simp) fun z hz => by
  obtain ⟨f, hf, rfl⟩ := List.mem_map.1 hz
  exact h f hf
theorem formGood {H : HP} {x : Rp} {fs : List Int} {es : List Evt} {rs : List Rge} (hx : RpIn H x fs es rs) : ∀ f ∈ formR x fs es rs, GoodT f.2 := by
  have gC : ∀ f ∈ oC x, GoodT f.2 := by
    unfold oC
    split
    · intro f h; cases h
    · intro f h
      rw [List.mem_singleton] at h
      subst h
      exact goodL fun z hz => by
        simp only [List.mem_cons, List.not_mem_nil, or_false] at hz
        rcases hz with rfl | rfl | rfl
        · exact goodS
        · exact goodI hx.i8
        · exact goodS
  have gE : ∀ f ∈ oE es, GoodT f.2 := by
    unfold oE
    split
    · intro f h
      rw [List.mem_singleton] at h
      subst h
      exact goodL fun z hz => by
        obtain ⟨y, hy, rfl⟩ := List.mem_map.1 hz
        exact evGood (hx.ev y hy)
    · intro f h; cases h
  have gF : ∀ f ∈ oF fs, GoodT f.2 := by
    unfold oF
    split
    · intro f h
      rw [List.mem_singleton] at h
      subst h
      exact goodL fun z hz => by
        obtain ⟨y, hy, rfl⟩ := List.mem_map.1 hz
        exact goodI (hx.fi y hy)
    · intro f h; cases h
  have gR : ∀ f ∈ oR rs, GoodT f.2 := by
    unfold oR
    split
    · intro f h
      rw [List.mem_singleton] at h
      subst h
      exact goodL fun z hz => by
        obtain ⟨y, hy, rfl⟩ := List.mem_map.1 hz
        exact rgGood (hx.ri y hy)
    · intro f h; cases h
  have gS : ∀ f ∈ oS x, GoodT f.2 := by
    unfold oS
    split
    · intro f h; cases h
    · intro f h
      rw [List.mem_singleton] at h
      subst h
      exact goodS
  have g0 : ∀ f ∈ [(kCode, intV x.code)], GoodT f.2 := fun f h => by
    rw [List.mem_singleton] at h
    subst h
    exact goodI hx.i1
  have g1 : ∀ f ∈ [(kNode, intV x.node)], GoodT f.2 := fun f h => by
    rw [List.mem_singleton] at h
    subst h
    exact goodI hx.i9
  intro f hf
  unfold formR at hf
  split at hf
  · rcases List.mem_append.1 hf with h | h
    · exact g0 f h
    · exact g1 f h
  split at hf
  · exact g0 f hf
  simp only [List.mem_append] at hf
  rcases hf with (((((h | h) | h) | h) | h) | h)
  · exact g0 f h
  · exact gC f h
  · exact gE f h
  · exact gF f h
  · exact gR f h
  · exact gS f h
theorem szEvs {l : List Evt} : (∀ y ∈ l, EvtIn y) → szK (l.map evL) ≤ 80 * l.length + szE l := by
  induction l with
  | nil => intro _; simp [szK_nil, szE]
  | cons x l ih =>
    intro h
    have h1 := ih fun y hy => h y (List.mem_cons_of_mem _ hy)
    have hx := h x (List.mem_cons_self ..)
    have h2 := stext_len x.w x.l x.nd hx.i2 hx.i3 hx.i4
    have e0 : ByteArray.empty.size = 0 := rfl
    have hz : szV (evL x) ≤ 80 + x.st.size + x.data.size := by
      unfold evL listV textV intV
      simp only [szV_mk, szK_cons, szK_nil, szS_nil, List.length_nil, List.length_cons]
      omega
    rw [List.map_cons, szK_cons, szE_cons, List.length_cons]
    omega
theorem szInts : ∀ (l : List Int), szK (l.map intV) ≤ 5 * l.length
  | [] => by simp [szK_nil]
  | x :: l => by
    have h1 := szInts l
    have e0 : ByteArray.empty.size = 0 := rfl
    rw [List.map_cons, szK_cons]
    unfold intV at h1 ⊢
    simp only [szV_mk, szK_cons, szK_nil, szS_nil, List.length_nil, List.length_cons] at h1 ⊢
    omega
theorem szRgs : ∀ (l : List Rge), szK (l.map rgL) ≤ 20 * l.length
  | [] => by simp [szK_nil]
  | x :: l => by
    have h1 := szRgs l
    have e0 : ByteArray.empty.size = 0 := rfl
    rw [List.map_cons, szK_cons]
    unfold rgL listV intV at h1 ⊢
    simp only [szV_mk, szK_cons, szK_nil, szS_nil, List.length_nil, List.length_cons] at h1 ⊢
    omega
def szF : List KV → Nat
  | [] => 0
  | f :: l => 1 + f.1.size + szV f.2 + szF l
theorem szF_app : ∀ (l m : List KV), szF (l ++ m) = szF l + szF m
  | [], m => by simp [szF]
  | f :: l, m => by rw [List.cons_append]; simp only [szF]; rw [szF_app l m]; omega
theorem szF_kv (F : List KV) : szV (kvV F) ≤ 1 + szF F := by
  have h1 : ∀ l : List KV, l.length + szS (l.map (·.1)) + szK (l.map (·.2)) ≤ szF l := by
    intro l
    induction l with
    | nil => simp [szS_nil, szK_nil, szF]
    | cons f l ih => rw [List.map_cons, List.map_cons, szS_cons, szK_cons, List.length_cons]; simp only [szF]; omega
  have e0 : ByteArray.empty.size = 0 := rfl
  have := h1 F
  unfold kvV pairsV
  rw [szV_mk]
  omega
theorem formSz {H : HP} {x : Rp} {fs : List Int} {es : List Evt} {rs : List Rge} (hx : RpIn H x fs es rs) : szV (kvV (formR x fs es rs)) ≤ 1000 + x.cs.size + 80 * es.length + szE es + 5 * fs.length + 20 * rs.length := by
  have e0 : ByteArray.empty.size = 0 := rfl
  have k1 : kCode.size = 4 := rfl
  have k2 : kNode.size = 4 := rfl
  have k3 : kCursor.size = 6 := rfl
  have k4 : kEvents.size = 6 := rfl
  have k5 : kFirsts.size = 6 := rfl
  have k6 : kRanges.size = 6 := rfl
  have k7 : kStamp.size = 5 := rfl
  have z1 := stext_len x.cw x.cl x.cn hx.i5 hx.i6 hx.i7
  have z2 := stext_len x.w x.l x.n hx.i2 hx.i3 hx.i4
  have hE := szEvs hx.ev
  have hF := szInts fs
  have hR := szRgs rs
  have s0 : szF [(kCode, intV x.code)] ≤ 20 := by unfold intV; simp only [szF, szV_mk, szK_nil, szS_nil, List.length_nil]; omega
  have s1 : szF [(kNode, intV x.node)] ≤ 20 := by unfold intV; simp only [szF, szV_mk, szK_nil, szS_nil, List.length_nil]; omega
  have sC : szF (oC x) ≤ 200 + x.cs.size := by
    unfold oC
    split
    · simp only [szF]; omega
    · unfold curL listV textV intV
      simp only [szF, szV_mk, szK_cons, szK_nil, szS_nil, List.length_nil]
      omega
  have sE : szF (oE es) ≤ 20 + 80 * es.length + szE es := by
    unfold oE
    split
    · unfold listV
      simp only [szF, szV_mk, szS_nil, List.length_nil]
      omega
    · simp only [szF]; omega
  have sF : szF (oF fs) ≤ 20 + 5 * fs.length := by
    unfold oF
    split
    · unfold listV
      simp only [szF, szV_mk, szS_nil, List.length_nil]
      omega
    · simp only [szF]; omega
  have sR : szF (oR rs) ≤ 20 + 20 * rs.length := by
    unfold oR
    split
    · unfold listV
      simp only [szF, szV_mk, szS_nil, List.length_nil]
      omega
    · simp only [szF]; omega
  have sS : szF (oS x) ≤ 200 := by
    unfold oS
    split
    · simp only [szF]; omega
    · unfold textV
      simp only [szF, szV_mk, szK_nil, szS_nil, List.length_nil]
      omega
  have hk := szF_kv (formR x fs es rs)
  have hf : szF (formR x fs es rs) ≤ 900 + x.cs.size + 80 * es.length + szE es + 5 * fs.length + 20 * rs.length := by
    unfold formR
    split
    · rw [szF_app]; omega
    split
    · omega
    · simp only [szF_app]; omega
  omega
attribute [local irreducible] Code.wp wpList Exit.then Exit.inBlock bodyPost Back MidQ G GP QStep VStep CStep SStep Does Post Reads
attribute [local irreducible] sumF textB
structure RqIn (H : HP) (x : Rp) (fs : List Int) (es : List Evt) (rs : List Rge) : Prop where
  rp : es.length ≤ 100000 → fs.length ≤ 100000 → rs.length ≤ 100000 → RpIn H x fs es rs
  fn : x.fn = fs.length
  en : x.en = es.length
  rn : x.rn = rs.length
  eS : SlAt (Pile H) 7 x.ep es.length (es.flatMap Evt.cells)
  ev : ∀ y ∈ es, EvtIn y
  cz : x.cs.size ≤ 9223372036854775807
  fz : fs.length ≤ 9223372036854775807
  ez : es.length ≤ 9223372036854775807
  rz : rs.length ≤ 9223372036854775807
end Go.Proofs.YtaahibcibgljbaaGreatDoor

namespace Go.Proofs.YtaahibcibgljbaaGreatDoor
open Go.Sl facts
attribute [local irreducible] weigh weighL
theorem vAscii : ∀ l : List UInt8, (∀ b ∈ l, b.toNat < 128) → Lib.validD l = true
  | [], _ => by decide +kernel
  | b :: l, h => by rw [Lib.validD_cons b l (h b (List.mem_cons_self ..))]; exact vAscii l fun c hc => h c (List.mem_cons_of_mem _ hc)
theorem numC_low {c : UInt8} (h : numC c = true) : c.toNat < 128 := by
  unfold numC at h
  simp at h
  omega
theorem stext_valid (w l n : Int) : validB (stext w l n) = true := by
  unfold validB stext
  rw [txt_list]
  refine vAscii _ fun c hc => ?_
  simp only [List.mem_append, List.mem_cons] at hc
  rcases hc with (hc | rfl | hc) | rfl | hc
  · exact numC_low (decI_num _ c hc)
  · decide
  · exact numC_low (decI_num _ c hc)
  · decide
  · exact numC_low (decI_num _ c hc)
theorem weigh_int (m lv n : Int) (h : n + 1 ≤ 1000) : weigh (intV m) lv n = (0, n + 1) := by
  unfold intV
  rw [weigh_mk, if_neg (by decide), if_neg (fun h => absurd h.1 (by decide)), if_neg (by omega), if_pos (by decide)]
theorem weigh_text {s : ByteArray} (hs : validB s = true) (lv n : Int) (h : n + 1 ≤ 1000) : weigh (textV s) lv n = (0, n + 1) := by
  unfold textV
  rw [weigh_mk, if_neg (by decide), if_neg (fun h => by rw [hs] at h; exact absurd h.2 (by decide)), if_neg (by omega), if_pos (by decide)]
theorem weighL_ints : ∀ (l : List Int) (pr : Option ByteArray) (ks : List ByteArray) (lv n : Int), n + l.length ≤ 1000 → weighL false pr ks (l.map intV) lv n = (0, n + l.length)
  | [], pr, ks, lv, n, _ => by rw [List.map_nil, weighL_nil]; simp
  | x :: l, pr, ks, lv, n, h => by
    simp only [List.length_cons] at h
    push_cast at h
    rw [List.map_cons, weighL_cons, if_neg (fun h => absurd h.1 (by decide)), weigh_int _ _ _ (by omega), if_pos rfl, weighL_ints l _ _ _ _ (by omega)]
    simp only [List.length_cons]
    push_cast
    congr 1
    omega
theorem weigh_ints (l : List Int) (lv n : Int) (hl : lv < 20) (h : n + 1 + l.length ≤ 1000) : weigh (listV (l.map intV)) lv n = (0, n + 1 + l.length) := by
  unfold listV
  rw [weigh_mk, if_neg (by decide), if_neg (fun h => absurd h.1 (by decide)), if_neg (by omega), if_neg (by decide), if_neg (by omega), show decide ((5 : Int) = 6) = false by decide, weighL_ints _ _ _ _ _ h]
theorem key_lt1 : bltB kCode kFirsts = true := by decide +kernel
theorem key_lt2 : bltB kCode kStamp = true := by decide +kernel
theorem key_lt3 : bltB kFirsts kStamp = true := by decide +kernel
theorem key_lt4 : bltB kCode kNode = true := by decide +kernel
theorem key_ok : keyB kCode = true ∧ keyB kFirsts = true ∧ keyB kStamp = true ∧ keyB kNode = true := by decide +kernel
theorem toldW (x : Rp) (fs : List Int) (hc : x.cw = 0 ∧ x.cl = 0 ∧ x.cn = 0 ∧ x.ci = 0 ∧ x.cs = ByteArray.empty) (hf : fs.length ≤ 50) : (weigh (kvV (formR x fs [] [])) 0 0).1 = 0 := by
  obtain ⟨o1, o2, o3, o4⟩ := key_ok
  have hv := stext_valid x.w x.l x.n
  have eC : oC x = [] := if_pos hc
  have eE : oE [] = [] := rfl
  have eR : oR [] = [] := rfl
  unfold formR kvV pairsV
  rw [weigh_mk, if_neg (by decide), if_neg (fun h => absurd h.1 (by decide)), if_neg (by decide), if_neg (by decide), if_neg (by decide), show decide ((6 : Int) = 6) = true by decide]
  have w1 : weigh (intV x.code) 1 1 = (0, 2) := weigh_int _ _ _ (by decide)
  have w2 : weigh (intV x.node) 1 2 = (0, 3) := weigh_int _ _ _ (by decide)
  split
  · simp [weighL_cons, weighL_nil, w1, w2, o1, o4, key_lt4]
  split
  · simp [weighL_cons, weighL_nil, w1, o1]
  rw [eC, eE, eR]
  unfold oF oS
  have wf : weigh (listV (fs.map intV)) 1 2 = ((0 : Int), 2 + 1 + (fs.length : Int)) := weigh_ints fs 1 2 (by decide) (by omega)
  split
  · split
    · simp [weighL_cons, weighL_nil, w1, o1, o2, key_lt1, wf]
    · have wt : weigh (textV (stext x.w x.l x.n)) 1 (3 + (fs.length : Int)) = ((0 : Int), 3 + (fs.length : Int) + 1) := weigh_text hv _ _ (by omega)
      simp [weighL_cons, weighL_nil, w1, o1, o2, o3, key_lt1, key_lt3, wf, wt]
  · split
    · simp [weighL_cons, weighL_nil, w1, o1]
    · have wt : weigh (textV (stext x.w x.l x.n)) 1 2 = (0, 3) := weigh_text hv _ _ (by decide)
      simp [weighL_cons, weighL_nil, w1, o1, o3, key_lt2, wt]
theorem toldN (x : Rp) (fs : List Int) (hc : x.cw = 0 ∧ x.cl = 0 ∧ x.cn = 0 ∧ x.ci = 0 ∧ x.cs = ByteArray.empty) : nrm (kvV (formR x fs [] [])) = kvV (formR x fs [] []) := by
  have eC : oC x = [] := if_pos hc
  have h : ∀ f ∈ formR x fs [] [], nrm f.2 = f.2 := by
    intro f hf
    unfold formR at hf
    rw [eC, show oE [] = [] from rfl, show oR [] = [] from rfl] at hf
    unfold oF oS at hf
    split at hf
    · simp at hf
      rcases hf with rfl | rfl <;> exact nrm_int _
    split at hf
    · simp at hf; subst hf; exact nrm_int _
    have hl : nrm (listV (fs.map intV)) = listV (fs.map intV) := nrm_list fun y hy => by
      obtain ⟨m, _, rfl⟩ := List.mem_map.1 hy
      exact nrm_int _
    split at hf <;> split at hf <;> simp at hf
    · rcases hf with rfl | rfl
      · exact nrm_int _
      · exact hl
    · rcases hf with rfl | rfl | rfl
      · exact nrm_int _
      · exact hl
      · exact nrm_text _
    · subst hf; exact nrm_int _
    · rcases hf with rfl | rfl
      · exact nrm_int _
      · exact nrm_text _
  exact nrm_pairs fun y hy => by
    obtain ⟨f, hf, rfl⟩ := List.mem_map.1 hy
    exact h f hf
theorem kv_kid {F : List KV} {f : KV} (hf : f ∈ F) : szV f.2 ≤ szV (kvV F) := by
  have := szK_mem (List.mem_map_of_mem (f := fun f : KV => f.2) hf)
  unfold kvV pairsV
  rw [szV_mk]
  omega
theorem keys_ne : kCode ≠ kStamp ∧ kCode ≠ kNode ∧ kCode ≠ kFirsts ∧ kFirsts ≠ kStamp ∧ kFirsts ≠ kNode ∧ kStamp ≠ kNode := by decide +kernel
def FirstAt (F : List KV) (k : ByteArray) (v : V) : Prop := ∃ i, F[i]? = some (k, v) ∧ ∀ (j : Nat) (g : KV), j < i → F[j]? = some g → g.1 ≠ k
theorem first1 {a : KV} {k : ByteArray} {v : V} {F : List KV} (h : a.1 ≠ k) : FirstAt (a :: (k, v) :: F) k v := ⟨1, rfl, fun j g hj hg => by
  obtain rfl : j = 0 := by omega
  cases hg
  exact h⟩
theorem first2 {a b : KV} {k : ByteArray} {v : V} {F : List KV} (h : a.1 ≠ k) (h2 : b.1 ≠ k) : FirstAt (a :: b :: (k, v) :: F) k v := ⟨2, rfl, fun j g hj hg => by
  match j, hj with
  | 0, _ => cases hg; exact h
  | 1, _ => cases hg; exact h2⟩
structure ToldF (code node w l n : Int) (fs : List Int) (F : List KV) : Prop where
  len : F.length ≤ 6
  c : FirstAt F kCode (intV code)
  s1 : code = 0 → ¬ (w = 0 ∧ l = 0 ∧ n = 0) → FirstAt F kStamp (textV (stext w l n))
  s0 : ¬ (code = 0 ∧ ¬ (w = 0 ∧ l = 0 ∧ n = 0)) → ∀ f ∈ F, f.1 ≠ kStamp
  n1 : code = 8 → node ≠ 0 → FirstAt F kNode (intV node)
  n0 : ¬ (code = 8 ∧ node ≠ 0) → ∀ f ∈ F, f.1 ≠ kNode
  f1 : code = 0 → 0 < fs.length → FirstAt F kFirsts (listV (fs.map intV))
theorem toldF (x : Rp) (fs : List Int) (hc : x.cw = 0 ∧ x.cl = 0 ∧ x.cn = 0 ∧ x.ci = 0 ∧ x.cs = ByteArray.empty) : ToldF x.code x.node x.w x.l x.n fs (formR x fs [] []) := by
  obtain ⟨d1, d2, d3, d4, d5, d6⟩ := keys_ne
  have eC : oC x = [] := if_pos hc
  unfold formR
  rw [eC, show oE [] = [] from rfl, show oR [] = [] from rfl]
  have c0 : ∀ (v : V) (G : List KV), FirstAt ((kCode, v) :: G) kCode v := fun v G => ⟨0, rfl, fun j g hj => by omega⟩
  split
  · rename_i h
    exact ⟨by simp, c0 _ _, fun h0 => by omega, fun _ f hf => by
      simp at hf
      rcases hf with rfl | rfl
      · exact d1
      · exact d6.symm, fun _ _ => first1 d2, fun h0 => absurd h h0, fun h0 => by omega⟩
  rename_i h8
  split
  · rename_i h
    exact ⟨by simp, c0 _ _, fun h0 => by omega, fun _ f hf => by
      simp at hf
      subst hf
      exact d1, fun h1 h2 => absurd ⟨h1, h2⟩ h8, fun _ f hf => by
      simp at hf
      subst hf
      exact d2, fun h0 => by omega⟩
  rename_i h0
  have h0 : x.code = 0 := by omega
  unfold oF oS
  split <;> split
  · rename_i hf hs
    exact ⟨by simp, c0 _ _, fun _ h => absurd hs h, fun _ f hf => by
      simp at hf
      rcases hf with rfl | rfl
      · exact d1
      · exact d4, fun h => by omega, fun _ f hf => by
      simp at hf
      rcases hf with rfl | rfl
      · exact d2
      · exact d5, fun _ _ => first1 d3⟩
  · rename_i hf hs
    exact ⟨by simp, c0 _ _, fun _ _ => first2 d1 d4, fun h => absurd ⟨h0, hs⟩ h, fun h => by omega, fun _ f hf => by
      simp at hf
      rcases hf with rfl | rfl | rfl
      · exact d2
      · exact d5
      · exact d6, fun _ _ => first1 d3⟩
  · rename_i hf hs
    exact ⟨by simp, c0 _ _, fun _ h => absurd hs h, fun _ f hf => by
      simp at hf
      subst hf
      exact d1, fun h => by omega, fun _ f hf => by
      simp at hf
      subst hf
      exact d2, fun _ h => absurd h hf⟩
  · rename_i hf hs
    exact ⟨by simp, c0 _ _, fun _ _ => first1 d1, fun h => absurd ⟨h0, hs⟩ h, fun h => by omega, fun _ f hf => by
      simp at hf
      rcases hf with rfl | rfl
      · exact d2
      · exact d6, fun _ h => absurd h hf⟩
attribute [local irreducible] Code.wp wpList Exit.then Exit.inBlock bodyPost Back MidQ G GP QStep VStep CStep SStep Does Post Reads
attribute [local irreducible] textB parsP nrm kvV formR
theorem rsound_eq (w l n : Int) (b : Bool) (h : b = true ↔ 0 ≤ w ∧ w ≤ 1125899906842624 ∧ 0 ≤ l ∧ l < 65536 ∧ 0 ≤ n ∧ n ≤ 5) : b = decide (0 ≤ w ∧ w ≤ 1125899906842624 ∧ 0 ≤ l ∧ l < 65536 ∧ 0 ≤ n ∧ n ≤ 5) := by
  rw [Bool.eq_iff_iff, h]
  simp
theorem rsound (w l n : Int) : Does1 Tryz.prog 10 [.agg [int w, int l, int n].toArray] [] (.bool (decide (0 ≤ w ∧ w ≤ 1125899906842624 ∧ 0 ≤ l ∧ l < 65536 ∧ 0 ≤ n ∧ n ≤ 5))) := by
  refine fn_intro Tryz.func10 rfl Tryz.ntmps10 rfl (by simp only [argFr, Nat.zero_add, Nat.reduceAdd]; rfl) (fun Γ => ?_)
  repeat (first
    | (refine g_ops ?_; first | refine sO ?_ | refine s_n (fun _ => ?_) | refine s_app (fun _ _ => ?_) | refine s_b0 (fun _ => ?_) | ((fail_if_success refine g_lit rfl rfl rfl ?_); first | apply g_partM rfl rfl rfl | apply g_partMB rfl rfl rfl | fail))
    | apply g_regB (id := 1) 2 | refine gS ?_ | exact s_m | intro _ | (refine gp_take ?_; first | refine pT ?_ | ((fail_if_success refine gp_lit rfl rfl rfl rfl ?_); first | apply gp_guard_dec rfl rfl rfl rfl | apply gp_guard rfl rfl rfl rfl | fail))
    | (refine gp_see ?_; first | refine p_f ?_ | refine pS ?_ | ((fail_if_success refine gp_lit rfl rfl rfl rfl ?_); first | apply gp_guard_dec rfl rfl rfl rfl | apply gp_guard rfl rfl rfl rfl | fail))
    | (refine gp_one ?_; first | refine pO ?_ | refine p_n (fun _ => ?_) | refine p_app (fun _ _ => ?_) | refine p_b0 (fun _ => ?_) | ((fail_if_success refine gp_lit rfl rfl rfl rfl ?_); first | apply gp_guard_dec rfl rfl rfl rfl | apply gp_guard rfl rfl rfl rfl | fail))
    | refine gp_two ?_ ?_ | refine gp_done hd hk ?_ | intro _ | refine p_ta hd hk (fun _ _ _ hd hk => ?_) | refine p_ts hd hk (fun _ hd hk => ?_))
  exact g_ret () rfl (by (repeat (first | exact RVs.nil | apply RVs.tmp rfl | apply RVs.cellA rfl (by (repeat (first | exact Sel.here | apply Sel.there)); first | done | fail) (by (repeat (first | exact Cut.zero | apply Cut.take | apply Cut.skip)); first | done | fail) | apply RVs.cell1 rfl (by (repeat (first | exact Sel.here | apply Sel.there)); first | done | fail) rfl)); first | done | fail) (by (repeat (first | exact Take.nil | apply Take.cons | exact Sel.here | apply Sel.there)); first | done | fail) (by simp only [pack]; congr 1; refine rsound_eq _ _ _ _ ?_; simp) trivial
structure ToldIn (H : HP) (w l n code node : Int) (fp : Option Addr) (fs : List Int) : Prop where
  fS : SlAt (Pile H) 1 fp fs.length (fs.map fun n => int n)
  fi : ∀ y ∈ fs, inI y
  fz : fs.length ≤ 9223372036854775807
  i1 : inI w
  i2 : inI l
  i3 : inI n
  i4 : inI code
  i5 : inI node
structure TdX where
  v : Value
  e : Int
  H : HP
set_option maxHeartbeats 16000000 in
theorem told {H : HP} (hT : Tb H) (hE : ErrH H) (hI : ItH H) (hM : VarI H 0) (code w l n node : Int) (fp : Option Addr) (fc : Nat) (fs : List Int) (hx : ToldIn H w l n code node fp fs) : Does1 Tryz.prog 4 [int code, .agg [int w, int l, int n].toArray, .slice fp fs.length fc, int node] [Pile H] (.bool true) := by
  obtain ⟨fS, fi, fz, i1, i2, i3, i4, i5⟩ := hx
  have aw := awake28 hT hE
  have hso := rsound w l n
  have z0 : inI 0 := ⟨by decide, by decide⟩
  have hrp : fs.length ≤ 50 → RpIn H ⟨code, w, l, n, fp, fs.length, fc, none, 0, 0, 0, 0, 0, 0, ByteArray.empty, none, 0, 0, node⟩ fs [] [] := fun h => ⟨rfl, rfl, rfl, fS, SlAt.none, SlAt.none, (fun _ h => by cases h), fi, (fun _ h => by cases h), i4, i1, i2, i3, z0, z0, z0, z0, i5, by dsimp only; decide, by omega, by simp, by simp⟩
  refine fn_intro Tryz.func4 rfl Tryz.ntmps4 rfl (by simp only [argFr, Nat.zero_add, Nat.reduceAdd]; rfl) (fun Γ => ?_)
  repeat (first
    | (refine g_ops ?_; first | refine sO ?_ | refine s_n (fun _ => ?_) | refine s_app (fun _ _ => ?_) | refine s_b0 (fun _ => ?_) | ((fail_if_success refine g_lit rfl rfl rfl ?_); first | apply g_partM rfl rfl rfl | apply g_partMB rfl rfl rfl | fail) | refine s_p (hso) ?_)
    | refine gS ?_ | exact s_m | intro _)
  rename_i rb
  by_cases c1 : code < 0
  · refine g_as 25 (v' := .bool true) rfl (congrArg Value.bool (decide_eq_true c1)) ?_
    repeat (first
      | (refine g_ops ?_; first | refine sO ?_ | refine s_n (fun _ => ?_) | refine s_app (fun _ _ => ?_) | refine s_b0 (fun _ => ?_) | ((fail_if_success refine g_lit rfl rfl rfl ?_); first | apply g_partM rfl rfl rfl | apply g_partMB rfl rfl rfl | fail) | refine s_p (hso) ?_ | refine s_k (aw) ?_)
      | refine gS ?_ | exact s_m | intro _)
    exact s_r ()
  refine g_as 25 (v' := .bool false) rfl (congrArg Value.bool (decide_eq_false c1)) ?_
  repeat (first
    | (refine g_ops ?_; first | refine sO ?_ | refine s_n (fun _ => ?_) | refine s_app (fun _ _ => ?_) | refine s_b0 (fun _ => ?_) | ((fail_if_success refine g_lit rfl rfl rfl ?_); first | apply g_partM rfl rfl rfl | apply g_partMB rfl rfl rfl | fail) | refine s_p (hso) ?_)
    | refine gS ?_ | exact s_m | intro _)
  by_cases c2 : 12 < code
  · refine g_as 29 (v' := .bool true) rfl (congrArg Value.bool (decide_eq_true c2)) ?_
    repeat (first
      | (refine g_ops ?_; first | refine sO ?_ | refine s_n (fun _ => ?_) | refine s_app (fun _ _ => ?_) | refine s_b0 (fun _ => ?_) | ((fail_if_success refine g_lit rfl rfl rfl ?_); first | apply g_partM rfl rfl rfl | apply g_partMB rfl rfl rfl | fail) | refine s_p (hso) ?_ | refine s_k (aw) ?_)
      | refine gS ?_ | exact s_m | intro _)
    exact s_r ()
  refine g_as 29 (v' := .bool false) rfl (congrArg Value.bool (decide_eq_false c2)) ?_
  repeat (first
    | (refine g_ops ?_; first | refine sO ?_ | refine s_n (fun _ => ?_) | refine s_app (fun _ _ => ?_) | refine s_b0 (fun _ => ?_) | ((fail_if_success refine g_lit rfl rfl rfl ?_); first | apply g_partM rfl rfl rfl | apply g_partMB rfl rfl rfl | fail) | refine s_p (hso) ?_)
    | refine gS ?_ | exact s_m | intro _)
  by_cases c3 : 50 < fs.length
  · refine g_as 34 (v' := .bool true) rfl (congrArg Value.bool (decide_eq_true (by omega))) ?_
    repeat (first
      | (refine g_ops ?_; first | refine sO ?_ | refine s_n (fun _ => ?_) | refine s_app (fun _ _ => ?_) | refine s_b0 (fun _ => ?_) | ((fail_if_success refine g_lit rfl rfl rfl ?_); first | apply g_partM rfl rfl rfl | apply g_partMB rfl rfl rfl | fail) | refine s_p (hso) ?_ | refine s_k (aw) ?_)
      | refine gS ?_ | exact s_m | intro _)
    exact s_r ()
  refine g_as 34 (v' := .bool false) rfl (congrArg Value.bool (decide_eq_false (by omega))) ?_
  repeat (first
    | (refine g_ops ?_; first | refine sO ?_ | refine s_n (fun _ => ?_) | refine s_app (fun _ _ => ?_) | refine s_b0 (fun _ => ?_) | ((fail_if_success refine g_lit rfl rfl rfl ?_); first | apply g_partM rfl rfl rfl | apply g_partMB rfl rfl rfl | fail) | refine s_p (hso) ?_)
    | refine gS ?_ | exact s_m | intro _)
  refine g_cond rfl (fun _ => ?_) (fun _ => ?_)
  · repeat (first
      | (refine g_ops ?_; first | refine sO ?_ | refine s_n (fun _ => ?_) | refine s_app (fun _ _ => ?_) | refine s_b0 (fun _ => ?_) | ((fail_if_success refine g_lit rfl rfl rfl ?_); first | apply g_partM rfl rfl rfl | apply g_partMB rfl rfl rfl | fail) | refine s_k (aw) ?_)
      | refine gS ?_ | exact s_m | intro _)
    exact s_r ()
  have g := hrp (by omega)
  have hV := toldW ⟨code, w, l, n, fp, fs.length, fc, none, 0, 0, 0, 0, 0, 0, ByteArray.empty, none, 0, 0, node⟩ fs ⟨rfl, rfl, rfl, rfl, rfl⟩ (by omega)
  have hN := toldN ⟨code, w, l, n, fp, fs.length, fc, none, 0, 0, 0, 0, 0, 0, ByteArray.empty, none, 0, 0, node⟩ fs ⟨rfl, rfl, rfl, rfl, rfl⟩
  have hG := kvGood (formGood g)
  have hZ := formSz g
  have hS : szV (kvV (formR ⟨code, w, l, n, fp, fs.length, fc, none, 0, 0, 0, 0, 0, 0, ByteArray.empty, none, 0, 0, node⟩ fs [] [])) ≤ 2000 := by
    have e0 : ByteArray.empty.size = 0 := rfl
    simp only [szE, List.length_nil] at hZ
    omega
  have hct := ctext hT _ (reply_ hI _ g) hG.2 (by omega)
  have hlt := textL_len _ hG.2
  have hpv := parsP_of hV hG
  have etx : textB (kvV (formR ⟨code, w, l, n, fp, fs.length, fc, none, 0, 0, 0, 0, 0, 0, ByteArray.empty, none, 0, 0, node⟩ fs [] [])) = txt (textL (kvV (formR ⟨code, w, l, n, fp, fs.length, fc, none, 0, 0, 0, 0, 0, 0, ByteArray.empty, none, 0, 0, node⟩ fs [] []))) := by unfold textB; exact if_pos hV
  rw [hN] at hpv
  rw [etx] at hct
  have hTF := toldF ⟨code, w, l, n, fp, fs.length, fc, none, 0, 0, 0, 0, 0, 0, ByteArray.empty, none, 0, 0, node⟩ fs ⟨rfl, rfl, rfl, rfl, rfl⟩
  dsimp only at hTF
  generalize hF : formR ⟨code, w, l, n, fp, fs.length, fc, none, 0, 0, 0, 0, 0, 0, ByteArray.empty, none, 0, 0, node⟩ fs [] [] = F at *
  have hps := fun (H' : HP) (s : HP.sub H H') => parse1 (hT.grow s) (hE.grow s) (textL (kvV F)) (by omega)
  simp only [hpv, Option.isSome_some, if_true] at hps
  dsimp only [Rp.cells] at hct
  repeat (first
    | (refine g_ops ?_; first | refine sO ?_ | refine s_n (fun _ => ?_) | refine s_app (fun _ _ => ?_) | refine s_b0 (fun _ => ?_) | ((fail_if_success refine g_lit rfl rfl rfl ?_); first | apply g_partM rfl rfl rfl | apply g_partMB rfl rfl rfl | fail) | refine s_c (hct) (fun _ _ => ?_))
    | refine gS ?_ | exact s_m | intro _)
  rename_i r9 H1 hs1
  try dsimp only at hs1 ⊢
  try dsimp only [List.cons_append, List.nil_append, List.append_eq]
  have hp1 := hps H1 hs1
  repeat (first
    | (refine g_ops ?_; first | refine sO ?_ | refine s_n (fun _ => ?_) | refine s_app (fun _ _ => ?_) | refine s_b0 (fun _ => ?_) | ((fail_if_success refine g_lit rfl rfl rfl ?_); first | apply g_partM rfl rfl rfl | apply g_partMB rfl rfl rfl | fail) | refine s_c (hp1) (fun _ _ => ?_))
    | refine gS ?_ | exact s_m | intro _)
  rename_i y1 hy1
  obtain ⟨H2, x⟩ := y1
  obtain ⟨hs2, hx, _⟩ := hy1
  replace hx := hx _ rfl
  dsimp only at hs2 hx ⊢
  try dsimp only [List.cons_append, List.nil_append, List.append_eq]
  have hs3 := hs1.trans hs2
  have hFl := hTF.len
  have hsz : ∀ f ∈ F, szV f.2 ≤ 100000000 := fun f hf => by have := kv_kid hf; omega
  obtain ⟨i0, q1, q2⟩ := hTF.c
  have gC := getK (hT.grow hs3) (VarI.grow hs3 hM) hx hV (by omega) i0 _ q1 q2 [99, 111, 100, 101] rfl ⟨by decide, by decide⟩ (by decide) (hsz _ (List.mem_of_getElem? q1))
  repeat (first
    | (refine g_ops ?_; first | refine sO ?_ | refine s_n (fun _ => ?_) | refine s_app (fun _ _ => ?_) | refine s_b0 (fun _ => ?_) | ((fail_if_success refine g_lit rfl rfl rfl ?_); first | apply g_partM rfl rfl rfl | apply g_partMB rfl rfl rfl | fail) | refine s_c (gC) (fun _ _ => ?_))
    | refine gS ?_ | exact s_m | intro _)
  rename_i y2 hy2
  obtain ⟨H3, xc⟩ := y2
  obtain ⟨hs4, hxc⟩ := hy2
  dsimp only at hs4 hxc ⊢
  try dsimp only [List.cons_append, List.nil_append, List.append_eq]
  have hi1 := int1 hxc
  repeat (first
    | (refine g_ops ?_; first | refine sO ?_ | refine s_n (fun _ => ?_) | refine s_app (fun _ _ => ?_) | refine s_b0 (fun _ => ?_) | ((fail_if_success refine g_lit rfl rfl rfl ?_); first | apply g_partM rfl rfl rfl | apply g_partMB rfl rfl rfl | fail) | refine s_p (hi1) ?_)
    | refine gS ?_ | exact s_m | intro _)
  refine g_as 73 (v' := .bool false) rfl (congrArg Value.bool (decide_eq_false (fun h => h rfl))) ?_
  have hs5 := hs3.trans hs4
  refine g_cond_false rfl ?_
  repeat (first | refine g_skip ?_ | refine g_then_normal ?_ | refine g_seq ?_ | refine g_nil ?_)
  refine g_cutX (X := TdX) (fun y => [(16, y.v), (17, int y.e), (10, x), (5, ptr rb), (0, int code), (2, .slice fp fs.length fc), (3, int node), (8, .bool false)]) (fun y => [.row rb [int w, int l, int n] 24, Pile y.H]) (fun y => HP.sub H3 y.H ∧ ((code = 0 ∧ ¬ (w = 0 ∧ l = 0 ∧ n = 0)) → y.e = 0 ∧ TAt y.H (textV (stext w l n)) y.v) ∧ (¬ (code = 0 ∧ ¬ (w = 0 ∧ l = 0 ∧ n = 0)) → y.e = 1)) ?_ (fun y hy => ?_)
  · by_cases hst : code = 0 ∧ ¬ (w = 0 ∧ l = 0 ∧ n = 0)
    · obtain ⟨i1, q3, q4⟩ := hTF.s1 hst.1 hst.2
      have gT := getK (hT.grow hs5) (VarI.grow hs5 hM) (hx.grow hs4) hV (by omega) i1 _ q3 q4 [115, 116, 97, 109, 112] rfl ⟨by decide, by decide⟩ (by decide) (hsz _ (List.mem_of_getElem? q3))
      repeat (first
        | (refine g_ops ?_; first | refine sO ?_ | refine s_n (fun _ => ?_) | refine s_app (fun _ _ => ?_) | refine s_b0 (fun _ => ?_) | ((fail_if_success refine g_lit rfl rfl rfl ?_); first | apply g_partM rfl rfl rfl | apply g_partMB rfl rfl rfl | fail) | refine s_c (gT) (fun _ _ => ?_))
        | refine gS ?_ | exact s_m | intro _)
      rename_i y3 hy3
      obtain ⟨H4, xs⟩ := y3
      obtain ⟨hs6, hxs⟩ := hy3
      dsimp only at hs6 hxs ⊢
      try dsimp only [List.cons_append, List.nil_append, List.append_eq]
      exact gM ⟨xs, 0, H4⟩ ⟨hs6, fun _ => ⟨rfl, hxs⟩, fun h => absurd hst h⟩
    · have gT := getN (hT.grow hs5) (VarI.grow hs5 hM) (hx.grow hs4) hV (by omega) [115, 116, 97, 109, 112] (hTF.s0 hst) ⟨by decide, by decide⟩ (by decide)
      repeat (first
        | (refine g_ops ?_; first | refine sO ?_ | refine s_n (fun _ => ?_) | refine s_app (fun _ _ => ?_) | refine s_b0 (fun _ => ?_) | ((fail_if_success refine g_lit rfl rfl rfl ?_); first | apply g_partM rfl rfl rfl | apply g_partMB rfl rfl rfl | fail) | refine s_c (gT) (fun _ _ => ?_))
        | refine gS ?_ | exact s_m | intro _)
      rename_i y3 hs6
      obtain ⟨H4, xs⟩ := y3
      dsimp only at hs6 ⊢
      try dsimp only [List.cons_append, List.nil_append, List.append_eq]
      exact gM ⟨xs, 1, H4⟩ ⟨hs6, fun h => absurd h hst, fun _ => rfl⟩
  obtain ⟨v1, e1, H4⟩ := y
  obtain ⟨hs6, p1, p0⟩ := hy
  dsimp only at hs6 p1 p0 ⊢
  have hs7 := hs5.trans hs6
  have hst0 := stext_len w l n i1 i2 i3
  repeat (first | refine g_skip ?_ | refine g_then_normal ?_ | refine g_seq ?_ | refine g_nil ?_)
  refine g_cutX (X := Unit) (fun _ => [(101, .bool false), (10, x), (5, ptr rb), (0, int code), (2, .slice fp fs.length fc), (3, int node), (8, .bool false)]) (fun _ => [.row rb [int w, int l, int n] 24, Pile H4]) (fun _ => True) ?_ (fun _ _ => ?_)
  · by_cases hst : code = 0 ∧ ¬ (w = 0 ∧ l = 0 ∧ n = 0)
    · obtain ⟨rfl, hxs⟩ := p1 hst
      have t1 := text1 (hT.grow hs7) hxs ⟨⟨by decide, by decide⟩, fun y h => by cases h⟩ (by unfold textV; rw [szV_mk, szS_nil, szK_nil]; omega)
      have t2 := text1 (hT.grow hs7) (TAt.text (H := H4) (y := false) (n := 0) (s := stext w l n) (ks := []) (l := []) (by omega)) ⟨⟨by decide, by decide⟩, fun y h => by cases h⟩ (by rw [szV_mk, szS_nil, szK_nil]; omega)
      have dT := dText w l n i1 i2 i3
      refine g_draw (.take 0 (.take 1 (.take 2 (.take 3 (.take 4 (.see 5 [] (.take 6 (.take 7 (.take 8 (.take 9 (.take 10 (.take 11 (.take 12 (.take 13 (.take 14 (.see 16 [] (.one 15 (.one 17 (.take 18 (.one 19 (.take 20 (.take 21 (.take 22 .done))))))))))))))))))))))) (by kernel_rfl) (C := [.row rb [int w, int l, int n] 24]) (by (repeat (first | exact Take.nil | apply Take.cons | exact Sel.here | apply Sel.there)); first | done | fail) (fun m hd hk => ?_)
      repeat (first
        | (refine gp_take ?_; first | refine pT ?_ | ((fail_if_success refine gp_lit rfl rfl rfl rfl ?_); first | apply gp_guard_dec rfl rfl rfl rfl | apply gp_guard rfl rfl rfl rfl | fail))
        | (refine gp_see ?_; first | refine p_f ?_ | refine pS ?_ | ((fail_if_success refine gp_lit rfl rfl rfl rfl ?_); first | apply gp_guard_dec rfl rfl rfl rfl | apply gp_guard rfl rfl rfl rfl | fail) | refine p_h (t1) hd hk ?_ | refine p_h (t2) hd hk ?_ | refine p_h (does1_more dT) hd hk ?_)
        | (refine gp_one ?_; first | refine pO ?_ | refine p_n (fun _ => ?_) | refine p_app (fun _ _ => ?_) | refine p_b0 (fun _ => ?_) | ((fail_if_success refine gp_lit rfl rfl rfl rfl ?_); first | apply gp_guard_dec rfl rfl rfl rfl | apply gp_guard rfl rfl rfl rfl | fail) | refine p_k (t1) ?_ | refine p_k (t2) ?_ | refine p_k (does1_more dT) ?_)
        | refine gp_two ?_ ?_ | refine gp_done hd hk ?_ | intro _ | refine p_ta hd hk (fun _ _ _ hd hk => ?_) | refine p_ts hd hk (fun _ hd hk => ?_))
      refine gp_as 83 (v' := .bool true) rfl (congrArg Value.bool (decide_eq_true hst.1)) ?_
      repeat (first
        | (refine gp_take ?_; first | refine p_qa ?_ | refine pT ?_ | ((fail_if_success refine gp_lit rfl rfl rfl rfl ?_); first | apply gp_guard_dec rfl rfl rfl rfl | apply gp_guard rfl rfl rfl rfl | fail))
        | (refine gp_see ?_; first | refine p_f ?_ | refine pS ?_ | ((fail_if_success refine gp_lit rfl rfl rfl rfl ?_); first | apply gp_guard_dec rfl rfl rfl rfl | apply gp_guard rfl rfl rfl rfl | fail) | refine p_h (t1) hd hk ?_ | refine p_h (t2) hd hk ?_ | refine p_h (does1_more dT) hd hk ?_)
        | (refine gp_one ?_; first | refine pO ?_ | refine p_n (fun _ => ?_) | refine p_app (fun _ _ => ?_) | refine p_b0 (fun _ => ?_) | ((fail_if_success refine gp_lit rfl rfl rfl rfl ?_); first | apply gp_guard_dec rfl rfl rfl rfl | apply gp_guard rfl rfl rfl rfl | fail) | refine p_k (t1) ?_ | refine p_k (t2) ?_ | refine p_k (does1_more dT) ?_)
        | refine gp_two ?_ ?_ | refine gp_done hd hk ?_ | intro _ | refine p_ta hd hk (fun _ _ _ hd hk => ?_) | refine p_ts hd hk (fun _ hd hk => ?_))
      have hz := hst.2
      refine gp_as 89 (v' := .bool false) rfl (congrArg Value.bool (by by_cases a : w = 0 <;> by_cases b : l = 0 <;> by_cases c : n = 0 <;> simp_all)) ?_
      repeat (first
        | (refine gp_take ?_; first | refine pT ?_ | ((fail_if_success refine gp_lit rfl rfl rfl rfl ?_); first | apply gp_guard_dec rfl rfl rfl rfl | apply gp_guard rfl rfl rfl rfl | fail))
        | (refine gp_see ?_; first | refine p_f ?_ | refine pS ?_ | ((fail_if_success refine gp_lit rfl rfl rfl rfl ?_); first | apply gp_guard_dec rfl rfl rfl rfl | apply gp_guard rfl rfl rfl rfl | fail) | refine p_h (t1) hd hk ?_ | refine p_h (t2) hd hk ?_ | refine p_h (does1_more dT) hd hk ?_)
        | (refine gp_one ?_; first | refine pO ?_ | refine p_n (fun _ => ?_) | refine p_app (fun _ _ => ?_) | refine p_b0 (fun _ => ?_) | ((fail_if_success refine gp_lit rfl rfl rfl rfl ?_); first | apply gp_guard_dec rfl rfl rfl rfl | apply gp_guard rfl rfl rfl rfl | fail) | refine p_k (t1) ?_ | refine p_k (t2) ?_ | refine p_k (does1_more dT) ?_)
        | refine gp_two ?_ ?_ | refine gp_done hd hk ?_ | intro _ | refine p_ta hd hk (fun _ _ _ hd hk => ?_) | refine p_ts hd hk (fun _ hd hk => ?_))
      refine g_as 101 (v' := .bool false) rfl (congrArg Value.bool (decide_eq_false (fun h => h rfl))) ?_
      try dsimp only [List.cons_append, List.nil_append, List.append_eq]
      exact gM () trivial
    · obtain rfl := p0 hst
      refine g_draw (.take 0 (.take 1 (.take 2 (.take 3 (.take 4 (.see 5 [] (.take 6 (.take 7 (.take 8 (.take 9 (.take 10 (.take 11 (.take 12 (.take 13 (.take 14 (.see 16 [] (.one 15 (.one 17 (.take 18 (.one 19 (.take 20 (.take 21 (.take 22 .done))))))))))))))))))))))) (by kernel_rfl) (C := [.row rb [int w, int l, int n] 24]) (by (repeat (first | exact Take.nil | apply Take.cons | exact Sel.here | apply Sel.there)); first | done | fail) (fun m hd hk => ?_)
      repeat (first
        | (refine gp_take ?_; first | refine pT ?_ | ((fail_if_success refine gp_lit rfl rfl rfl rfl ?_); first | apply gp_guard_dec rfl rfl rfl rfl | apply gp_guard rfl rfl rfl rfl | fail))
        | (refine gp_see ?_; first | refine p_f ?_ | refine pS ?_ | ((fail_if_success refine gp_lit rfl rfl rfl rfl ?_); first | apply gp_guard_dec rfl rfl rfl rfl | apply gp_guard rfl rfl rfl rfl | fail))
        | (refine gp_one ?_; first | refine pO ?_ | refine p_n (fun _ => ?_) | refine p_app (fun _ _ => ?_) | refine p_b0 (fun _ => ?_) | ((fail_if_success refine gp_lit rfl rfl rfl rfl ?_); first | apply gp_guard_dec rfl rfl rfl rfl | apply gp_guard rfl rfl rfl rfl | fail))
        | refine gp_two ?_ ?_ | refine gp_done hd hk ?_ | intro _ | refine p_ta hd hk (fun _ _ _ hd hk => ?_) | refine p_ts hd hk (fun _ hd hk => ?_))
      by_cases c0 : code = 0
      · have hz : w = 0 ∧ l = 0 ∧ n = 0 := Classical.byContradiction fun h => hst ⟨c0, h⟩
        refine gp_as 83 (v' := .bool true) rfl (congrArg Value.bool (decide_eq_true c0)) ?_
        repeat (first
          | (refine gp_take ?_; first | refine p_qa ?_ | refine pT ?_ | ((fail_if_success refine gp_lit rfl rfl rfl rfl ?_); first | apply gp_guard_dec rfl rfl rfl rfl | apply gp_guard rfl rfl rfl rfl | fail))
          | (refine gp_see ?_; first | refine p_f ?_ | refine pS ?_ | ((fail_if_success refine gp_lit rfl rfl rfl rfl ?_); first | apply gp_guard_dec rfl rfl rfl rfl | apply gp_guard rfl rfl rfl rfl | fail))
          | (refine gp_one ?_; first | refine pO ?_ | refine p_n (fun _ => ?_) | refine p_app (fun _ _ => ?_) | refine p_b0 (fun _ => ?_) | ((fail_if_success refine gp_lit rfl rfl rfl rfl ?_); first | apply gp_guard_dec rfl rfl rfl rfl | apply gp_guard rfl rfl rfl rfl | fail))
          | refine gp_two ?_ ?_ | refine gp_done hd hk ?_ | intro _ | refine p_ta hd hk (fun _ _ _ hd hk => ?_) | refine p_ts hd hk (fun _ hd hk => ?_))
        refine gp_as 89 (v' := .bool false) rfl (congrArg Value.bool (by simp [hz.1, hz.2.1, hz.2.2])) ?_
        repeat (first
          | (refine gp_take ?_; first | refine pT ?_ | ((fail_if_success refine gp_lit rfl rfl rfl rfl ?_); first | apply gp_guard_dec rfl rfl rfl rfl | apply gp_guard rfl rfl rfl rfl | fail))
          | (refine gp_see ?_; first | refine p_f ?_ | refine pS ?_ | ((fail_if_success refine gp_lit rfl rfl rfl rfl ?_); first | apply gp_guard_dec rfl rfl rfl rfl | apply gp_guard rfl rfl rfl rfl | fail))
          | (refine gp_one ?_; first | refine pO ?_ | refine p_n (fun _ => ?_) | refine p_app (fun _ _ => ?_) | refine p_b0 (fun _ => ?_) | ((fail_if_success refine gp_lit rfl rfl rfl rfl ?_); first | apply gp_guard_dec rfl rfl rfl rfl | apply gp_guard rfl rfl rfl rfl | fail))
          | refine gp_two ?_ ?_ | refine gp_done hd hk ?_ | intro _ | refine p_ta hd hk (fun _ _ _ hd hk => ?_) | refine p_ts hd hk (fun _ hd hk => ?_))
        try dsimp only [List.cons_append, List.nil_append, List.append_eq]
        exact gM () trivial
      · refine gp_as 83 (v' := .bool false) rfl (congrArg Value.bool (decide_eq_false c0)) ?_
        repeat (first
          | (refine gp_take ?_; first | refine p_qa ?_ | refine pT ?_ | ((fail_if_success refine gp_lit rfl rfl rfl rfl ?_); first | apply gp_guard_dec rfl rfl rfl rfl | apply gp_guard rfl rfl rfl rfl | fail))
          | (refine gp_see ?_; first | refine p_f ?_ | refine pS ?_ | ((fail_if_success refine gp_lit rfl rfl rfl rfl ?_); first | apply gp_guard_dec rfl rfl rfl rfl | apply gp_guard rfl rfl rfl rfl | fail))
          | (refine gp_one ?_; first | refine pO ?_ | refine p_n (fun _ => ?_) | refine p_app (fun _ _ => ?_) | refine p_b0 (fun _ => ?_) | ((fail_if_success refine gp_lit rfl rfl rfl rfl ?_); first | apply gp_guard_dec rfl rfl rfl rfl | apply gp_guard rfl rfl rfl rfl | fail))
          | refine gp_two ?_ ?_ | refine gp_done hd hk ?_ | intro _ | refine p_ta hd hk (fun _ _ _ hd hk => ?_) | refine p_ts hd hk (fun _ hd hk => ?_))
        try dsimp only [List.cons_append, List.nil_append, List.append_eq]
        exact gM () trivial
  refine g_then_normal ?_
  refine g_cond_false rfl ?_
  repeat (first | refine g_skip ?_ | refine g_then_normal ?_ | refine g_seq ?_ | refine g_nil ?_)
  refine g_cutX (X := TdX) (fun y => [(18, y.v), (19, int y.e), (10, x), (0, int code), (2, .slice fp fs.length fc), (3, int node), (8, .bool false)]) (fun y => [Pile y.H]) (fun y => HP.sub H4 y.H ∧ (code = 8 ∧ node ≠ 0 → y.e = 0 ∧ TAt y.H (intV node) y.v) ∧ (¬ (code = 8 ∧ node ≠ 0) → y.e = 1)) ?_ (fun y hy => ?_)
  · by_cases hnd : code = 8 ∧ node ≠ 0
    · obtain ⟨i2, q3, q4⟩ := hTF.n1 hnd.1 hnd.2
      have gT := getK (hT.grow hs7) (VarI.grow hs7 hM) (hx.grow (hs4.trans hs6)) hV (by omega) i2 _ q3 q4 [110, 111, 100, 101] rfl ⟨by decide, by decide⟩ (by decide) (hsz _ (List.mem_of_getElem? q3))
      repeat (first
        | (refine g_ops ?_; first | refine sO ?_ | refine s_n (fun _ => ?_) | refine s_app (fun _ _ => ?_) | refine s_b0 (fun _ => ?_) | ((fail_if_success refine g_lit rfl rfl rfl ?_); first | apply g_partM rfl rfl rfl | apply g_partMB rfl rfl rfl | fail) | refine s_c (gT) (fun _ _ => ?_))
        | refine gS ?_ | exact s_m | intro _)
      rename_i y3 hy3
      obtain ⟨H5, xs⟩ := y3
      obtain ⟨hs8, hxs⟩ := hy3
      dsimp only at hs8 hxs ⊢
      try dsimp only [List.cons_append, List.nil_append, List.append_eq]
      exact gM ⟨xs, 0, H5⟩ ⟨hs8, fun _ => ⟨rfl, hxs⟩, fun h => absurd hnd h⟩
    · have gT := getN (hT.grow hs7) (VarI.grow hs7 hM) (hx.grow (hs4.trans hs6)) hV (by omega) [110, 111, 100, 101] (hTF.n0 hnd) ⟨by decide, by decide⟩ (by decide)
      repeat (first
        | (refine g_ops ?_; first | refine sO ?_ | refine s_n (fun _ => ?_) | refine s_app (fun _ _ => ?_) | refine s_b0 (fun _ => ?_) | ((fail_if_success refine g_lit rfl rfl rfl ?_); first | apply g_partM rfl rfl rfl | apply g_partMB rfl rfl rfl | fail) | refine s_c (gT) (fun _ _ => ?_))
        | refine gS ?_ | exact s_m | intro _)
      rename_i y3 hs8
      obtain ⟨H5, xs⟩ := y3
      dsimp only at hs8 ⊢
      try dsimp only [List.cons_append, List.nil_append, List.append_eq]
      exact gM ⟨xs, 1, H5⟩ ⟨hs8, fun h => absurd h hnd, fun _ => rfl⟩
  obtain ⟨v2, e2, H5⟩ := y
  obtain ⟨hs8, p3, p4⟩ := hy
  dsimp only at hs8 p3 p4 ⊢
  have hs9 := hs7.trans hs8
  repeat (first | refine g_skip ?_ | refine g_then_normal ?_ | refine g_seq ?_ | refine g_nil ?_)
  refine g_cutX (X := Unit) (fun _ => [(127, .bool false), (10, x), (0, int code), (2, .slice fp fs.length fc), (3, int node), (8, .bool false)]) (fun _ => [Pile H5]) (fun _ => True) ?_ (fun _ _ => ?_)
  · by_cases hnd : code = 8 ∧ node ≠ 0
    · obtain ⟨rfl, hxs⟩ := p3 hnd
      have t1 := text1 (hT.grow hs9) hxs ⟨i5, fun y h => by cases h⟩ (by unfold intV; rw [szV_mk, szS_nil, szK_nil]; decide)
      have t2 := text1 (hT.grow hs9) (TAt.int (H := H5) (y := false) (n := node) (s := ByteArray.empty) (ks := []) (l := []) i5) ⟨i5, fun y h => by cases h⟩ (by rw [szV_mk, szS_nil, szK_nil]; decide)
      repeat (first
        | (refine g_ops ?_; first | refine sO ?_ | refine s_n (fun _ => ?_) | refine s_app (fun _ _ => ?_) | refine s_b0 (fun _ => ?_) | ((fail_if_success refine g_lit rfl rfl rfl ?_); first | apply g_partM rfl rfl rfl | apply g_partMB rfl rfl rfl | fail) | refine s_k (t1) ?_ | refine s_k (t2) ?_)
        | refine gS ?_ | exact s_m | intro _)
      refine g_as 111 (v' := .bool true) rfl (congrArg Value.bool (decide_eq_true hnd.1)) ?_
      repeat (first
        | (refine g_ops ?_; first | refine sO ?_ | refine s_n (fun _ => ?_) | refine s_app (fun _ _ => ?_) | refine s_b0 (fun _ => ?_) | ((fail_if_success refine g_lit rfl rfl rfl ?_); first | apply g_partM rfl rfl rfl | apply g_partMB rfl rfl rfl | fail) | refine s_k (t1) ?_ | refine s_k (t2) ?_)
        | refine gS ?_ | exact s_m | intro _)
      refine g_as 116 (v' := .bool false) rfl (congrArg Value.bool (by simp [hnd.2])) ?_
      repeat (first
        | (refine g_ops ?_; first | refine sO ?_ | refine s_n (fun _ => ?_) | refine s_app (fun _ _ => ?_) | refine s_b0 (fun _ => ?_) | ((fail_if_success refine g_lit rfl rfl rfl ?_); first | apply g_partM rfl rfl rfl | apply g_partMB rfl rfl rfl | fail) | refine s_k (t1) ?_ | refine s_k (t2) ?_)
        | refine gS ?_ | exact s_m | intro _)
      refine g_as 127 (v' := .bool false) rfl (congrArg Value.bool (decide_eq_false (fun h => h rfl))) ?_
      exact gM () trivial
    · obtain rfl := p4 hnd
      repeat (first
        | (refine g_ops ?_; first | refine sO ?_ | refine s_n (fun _ => ?_) | refine s_app (fun _ _ => ?_) | refine s_b0 (fun _ => ?_) | ((fail_if_success refine g_lit rfl rfl rfl ?_); first | apply g_partM rfl rfl rfl | apply g_partMB rfl rfl rfl | fail))
        | refine gS ?_ | exact s_m | intro _)
      by_cases c8 : code = 8
      · have hn0 : node = 0 := Classical.byContradiction fun h => hnd ⟨c8, h⟩
        refine g_as 111 (v' := .bool true) rfl (congrArg Value.bool (decide_eq_true c8)) ?_
        repeat (first
          | (refine g_ops ?_; first | refine sO ?_ | refine s_n (fun _ => ?_) | refine s_app (fun _ _ => ?_) | refine s_b0 (fun _ => ?_) | ((fail_if_success refine g_lit rfl rfl rfl ?_); first | apply g_partM rfl rfl rfl | apply g_partMB rfl rfl rfl | fail))
          | refine gS ?_ | exact s_m | intro _)
        refine g_as 116 (v' := .bool false) rfl (congrArg Value.bool (by simp [hn0])) ?_
        repeat (first
          | (refine g_ops ?_; first | refine sO ?_ | refine s_n (fun _ => ?_) | refine s_app (fun _ _ => ?_) | refine s_b0 (fun _ => ?_) | ((fail_if_success refine g_lit rfl rfl rfl ?_); first | apply g_partM rfl rfl rfl | apply g_partMB rfl rfl rfl | fail))
          | refine gS ?_ | exact s_m | intro _)
        exact gM () trivial
      · refine g_as 111 (v' := .bool false) rfl (congrArg Value.bool (decide_eq_false c8)) ?_
        repeat (first
          | (refine g_ops ?_; first | refine sO ?_ | refine s_n (fun _ => ?_) | refine s_app (fun _ _ => ?_) | refine s_b0 (fun _ => ?_) | ((fail_if_success refine g_lit rfl rfl rfl ?_); first | apply g_partM rfl rfl rfl | apply g_partMB rfl rfl rfl | fail))
          | refine gS ?_ | exact s_m | intro _)
        exact gM () trivial
  refine g_then_normal ?_
  refine g_cond_false rfl ?_
  refine g_skip ?_
  refine g_then_normal ?_
  repeat (first | refine g_then_normal ?_ | refine g_seq ?_ | refine g_nil ?_)
  repeat (first
    | (refine g_ops ?_; first | refine sO ?_ | refine s_n (fun _ => ?_) | refine s_app (fun _ _ => ?_) | refine s_b0 (fun _ => ?_) | ((fail_if_success refine g_lit rfl rfl rfl ?_); first | apply g_partM rfl rfl rfl | apply g_partMB rfl rfl rfl | fail))
    | refine gS ?_ | exact s_m | intro _)
  refine g_loop (X := LzX) (fun y => [(20, int y.k), (10, x), (0, int code), (2, .slice fp fs.length fc), (8, .bool false)]) (fun y => [Pile y.H]) (fun y => y.k ≤ fs.length ∧ HP.sub H5 y.H) (fun y => fs.length - y.k) ⟨0, none, 0, [], H5⟩ ⟨Nat.zero_le _, HP.sub.refl _⟩ (by (repeat (first | exact FrSub.nil | refine FrSub.cons rfl ?_)); first | done | fail) (by (repeat (first | exact Take.nil | apply Take.cons | exact Sel.here | apply Sel.there)); first | done | fail) (fun y hy => ?_)
  obtain ⟨m, _, _, _, H6⟩ := y
  obtain ⟨hm, hs10⟩ := hy
  dsimp only at hm hs10 ⊢
  have hs11 := hs9.trans hs10
  repeat (first
    | (refine g_ops ?_; first | refine sO ?_ | refine s_n (fun _ => ?_) | refine s_app (fun _ _ => ?_) | refine s_b0 (fun _ => ?_) | ((fail_if_success refine g_lit rfl rfl rfl ?_); first | apply g_partM rfl rfl rfl | apply g_partMB rfl rfl rfl | fail))
    | refine gS ?_ | exact s_m | intro _)
  by_cases g1 : m < fs.length
  · refine g_as 132 (v' := .bool true) rfl (congrArg Value.bool (decide_eq_true (by omega))) ?_
    repeat (first
      | (refine g_ops ?_; first | refine sO ?_ | refine s_n (fun _ => ?_) | refine s_app (fun _ _ => ?_) | refine s_b0 (fun _ => ?_) | ((fail_if_success refine g_lit rfl rfl rfl ?_); first | apply g_partM rfl rfl rfl | apply g_partMB rfl rfl rfl | fail))
      | refine gS ?_ | exact s_m | intro _)
    refine g_cond_dec rfl (fun g2 => ?_) (fun g2 => ?_)
    · have hgl : fs[m]? = some fs[m] := List.getElem?_eq_getElem g1
      have hfi := fi _ (List.getElem_mem g1)
      have e1 : (weigh (intV (m : Int)) 0 0).1 = 0 := by rw [weigh_int _ _ _ (by decide)]
      have et : textB (intV (m : Int)) = txt (decI m) := by
        unfold textB
        rw [if_pos e1]
        unfold intV
        rw [textL_mk]
        simp
      have hmi : inI (m : Int) := ⟨by omega, by omega⟩
      have t1 : Does1 Tryz.prog 15 [.iface 3 (int m)] [Pile H6] (.string (txt (decI m))) := by
        rw [← et]
        exact text1 (hT.grow hs11) (TAt.int (H := H6) (y := false) (n := (m : Int)) (s := ByteArray.empty) (ks := []) (l := []) hmi) ⟨hmi, fun y h => by cases h⟩ (by unfold intV; rw [szV_mk, szS_nil, szK_nil]; decide)
      obtain ⟨i3, q3, q4⟩ := hTF.f1 g2 (by omega)
      have hdl := (decI_len20 (m : Int) hmi).1
      have gT := getL (hT.grow hs11) (hE.grow hs11) (VarI.grow hs11 hM) (hx.grow (hs4.trans (hs6.trans (hs8.trans hs10)))) hV (by omega) i3 _ _ q3 q4 [102, 105, 114, 115, 116, 115] rfl ⟨by decide, by decide⟩ (by decide) m (intV fs[m]) (by rw [List.getElem?_map, hgl]; rfl) (by rw [List.length_map]; omega) (by unfold intV; rw [szV_mk, szS_nil, szK_nil]; decide)
      repeat (first
        | (refine g_ops ?_; first | refine sO ?_ | refine s_n (fun _ => ?_) | refine s_app (fun _ _ => ?_) | refine s_b0 (fun _ => ?_) | ((fail_if_success refine g_lit rfl rfl rfl ?_); first | apply g_partM rfl rfl rfl | apply g_partMB rfl rfl rfl | fail) | refine s_k (t1) ?_)
        | refine gS ?_ | exact s_m | intro _)
      refine s_q (q := by exact qs_addS (a := (⟨#[102, 105, 114, 115, 116, 115, 47]⟩ : ByteArray)) (b := txt (decI m)) rfl rfl (Nat.le_trans (Nat.add_le_add (Nat.le_of_eq (show _ = 7 from rfl)) (Nat.le_of_eq (txt_size _))) (by omega))) ?_
      refine g_as 143 (v' := .string (txt ([102, 105, 114, 115, 116, 115] ++ 47 :: decI m))) rfl (congrArg Value.string (by rw [show (⟨#[102, 105, 114, 115, 116, 115, 47]⟩ : ByteArray) = txt [102, 105, 114, 115, 116, 115, 47] from rfl, txt_append]; simp)) ?_
      repeat (first
        | (refine g_ops ?_; first | refine sO ?_ | refine s_n (fun _ => ?_) | refine s_app (fun _ _ => ?_) | refine s_b0 (fun _ => ?_) | ((fail_if_success refine g_lit rfl rfl rfl ?_); first | apply g_partM rfl rfl rfl | apply g_partMB rfl rfl rfl | fail) | refine s_c (gT) (fun _ _ => ?_))
        | refine gS ?_ | exact s_m | intro _)
      rename_i y3 hy3
      obtain ⟨H7, xs⟩ := y3
      obtain ⟨hs12, hxs⟩ := hy3
      dsimp only at hs12 hxs ⊢
      try dsimp only [List.cons_append, List.nil_append, List.append_eq]
      have hs13 := hs11.trans hs12
      obtain ⟨b3, o3, rfl, hr0⟩ := slAt_cell (fS.grow hs13) (i := m) (v := int fs[m]) (by simp [g1])
      generalize fs[m] = z at hfi hr0 hxs
      have hr : ∀ a, a = m → Reads (Pile H7) ⟨b3, o3 + a, none⟩ (int z) := fun _ e => e ▸ hr0
      have t2 := text1 (hT.grow hs13) hxs ⟨hfi, fun y h => by cases h⟩ (by unfold intV; rw [szV_mk, szS_nil, szK_nil]; decide)
      have t3 := text1 (hT.grow hs13) (TAt.int (H := H7) (y := false) (n := z) (s := ByteArray.empty) (ks := []) (l := []) hfi) ⟨hfi, fun y h => by cases h⟩ (by rw [szV_mk, szS_nil, szK_nil]; decide)
      refine g_draw (.take 0 (.take 1 (.take 2 (.take 3 (.take 5 (.take 6 (.take 7 (.see 8 [] (.take 9 (.one 4 (.one 10 (.take 11 (.take 12 .done))))))))))))) (by kernel_rfl) (take_all _) (fun k hd hk => ?_)
      repeat (first
        | (refine gp_take ?_; first | refine pT ?_ | ((fail_if_success refine gp_lit rfl rfl rfl rfl ?_); first | apply gp_guard_dec rfl rfl rfl rfl | apply gp_guard rfl rfl rfl rfl | fail))
        | (refine gp_see ?_; first | refine p_f ?_ | refine pS ?_ | ((fail_if_success refine gp_lit rfl rfl rfl rfl ?_); first | apply gp_guard_dec rfl rfl rfl rfl | apply gp_guard rfl rfl rfl rfl | fail))
        | (refine gp_one ?_; first | refine pO ?_ | refine p_n (fun _ => ?_) | refine p_app (fun _ _ => ?_) | refine p_b0 (fun _ => ?_) | ((fail_if_success refine gp_lit rfl rfl rfl rfl ?_); first | apply gp_guard_dec rfl rfl rfl rfl | apply gp_guard rfl rfl rfl rfl | fail) | refine p_cP (t2) hd hk (fun _ _ => ?_) | refine p_cP (t3) hd hk (fun _ _ => ?_))
        | refine gp_two ?_ ?_ | refine gp_done hd hk ?_ | intro _ | refine p_ta hd hk (fun _ _ _ hd hk => ?_) | refine p_ts hd hk (fun _ hd hk => ?_))
      refine g_as 159 (v' := .bool false) rfl (congrArg Value.bool (decide_eq_false (fun h => h rfl))) ?_
      try dsimp only [List.cons_append, List.nil_append, List.append_eq]
      repeat (first
        | (refine g_ops ?_; first | refine sO ?_ | refine s_n (fun _ => ?_) | refine s_app (fun _ _ => ?_) | refine s_b0 (fun _ => ?_) | ((fail_if_success refine g_lit rfl rfl rfl ?_); first | apply g_partM rfl rfl rfl | apply g_partMB rfl rfl rfl | fail))
        | refine gS ?_ | exact s_m | intro _)
      refine g_as 20 (v' := int ((m + 1 : Nat) : Int)) rfl (congrArg (Value.int .i64) (by push_cast; rfl)) ?_
      exact gA ⟨m + 1, none, 0, [], H7⟩ (by simp only; omega) ⟨g1, hs10.trans hs12⟩
    · have aw3 := awake28 (hT.grow hs11) (hE.grow hs11)
      repeat (first
        | (refine g_ops ?_; first | refine sO ?_ | refine s_n (fun _ => ?_) | refine s_app (fun _ _ => ?_) | refine s_b0 (fun _ => ?_) | ((fail_if_success refine g_lit rfl rfl rfl ?_); first | apply g_partM rfl rfl rfl | apply g_partMB rfl rfl rfl | fail) | refine s_k (aw3) ?_)
        | refine gS ?_ | exact s_m | intro _)
      refine g_unpile hs11 (by (repeat (first | exact Sel.here | apply Sel.there)); first | done | fail) ?_
      exact s_r ()
  · refine g_as 132 (v' := .bool false) rfl (congrArg Value.bool (decide_eq_false (by omega))) ?_
    have aw3 := awake28 (hT.grow hs11) (hE.grow hs11)
    repeat (first
      | (refine g_ops ?_; first | refine sO ?_ | refine s_n (fun _ => ?_) | refine s_app (fun _ _ => ?_) | refine s_b0 (fun _ => ?_) | ((fail_if_success refine g_lit rfl rfl rfl ?_); first | apply g_partM rfl rfl rfl | apply g_partMB rfl rfl rfl | fail) | refine s_k (aw3) ?_)
      | refine gS ?_ | exact s_m | intro _)
    refine g_unpile hs11 (by (repeat (first | exact Sel.here | apply Sel.there)); first | done | fail) ?_
    exact s_r ()
end Go.Proofs.YtaahibcibgljbaaGreatDoor

namespace Go.Proofs.YtaahibcibgljbaaGreatDoor
open Go Go.Sl facts
abbrev S3T := Int × Int × Int × Unit
theorem stT_of {W : World} {x : S3T} {c : List Value} (h : Opens.is (P := Tryz.prog) (t := 24) W x c) : c = [int x.1, int x.2.1, int x.2.2.1] ∧ inI x.1 ∧ inI x.2.1 ∧ inI x.2.2.1 := by
  obtain ⟨hl, ⟨h1, g1⟩, ⟨h2, g2⟩, ⟨h3, g3⟩, _⟩ := h
  match c, hl with
  | [c0, c1, c2], _ =>
    simp at h1 h2 h3
    subst h1 h2 h3
    exact ⟨rfl, inI_wfV g1, inI_wfV g2, inI_wfV g3⟩
theorem flat_int (l : List Int) : l.flatMap (fun t => [Value.int .i64 t]) = l.map (.int .i64 ·) := by
  induction l with
  | nil => rfl
  | cons a l ih => simp only [List.flatMap_cons, List.map_cons, ih]; rfl
theorem ints_of {W : World} {x : SliceOf Int} (h : x.xs.length ≤ x.cap ∧ x.cap ≤ maxLen ∧ (x.place = none → x.xs = [] ∧ x.cap = 0) ∧ ∀ (i : Nat) (y : Int), x.xs[i]? = some y → ∃ b o c, x.place = some ⟨b, o, none⟩ ∧ Opens.is Tryz.prog 3 W y c ∧ c.length = 1 ∧ CellsAt W b (o + i * 1) c) : SlAt (Init W) 1 x.place x.xs.length (x.xs.map (.int .i64 ·)) ∧ x.xs.length ≤ 9223372036854775807 ∧ ∀ y ∈ x.xs, inI y := by
  obtain ⟨g1, g2, g3, g4⟩ := h
  have e1 := slAt_of (g := fun t => [Value.int .i64 t]) (n := 1) (by decide) (fun e => (g3 e).1) g4 (fun x c hx _ => hx.1) (fun _ => rfl) (fun _ => rfl)
  rw [flat_int] at e1
  refine ⟨e1, ?_, fun y hy => ?_⟩
  · unfold maxLen at g2; omega
  · obtain ⟨i, hi, rfl⟩ := List.mem_iff_getElem.1 hy
    obtain ⟨_, _, c, _, ha, _⟩ := g4 i _ (List.getElem?_eq_getElem hi)
    exact inI_wfV ha.2
end Go.Proofs.YtaahibcibgljbaaGreatDoor
