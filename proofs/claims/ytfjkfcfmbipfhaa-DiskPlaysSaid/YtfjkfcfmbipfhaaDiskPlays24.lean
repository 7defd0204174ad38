/- Contracts and laws that the proof stands on. -/
import Derived.Test.YtfjkfcfmbipfhaaDiskPlays23
set_option linter.unusedSimpArgs false
set_option linter.unusedVariables false
namespace Go.Proofs.Ytfjkfcfmbipfhaa
open Go.Sl facts
structure Stt where
  d : Nat
  q : Option Addr
  c : Nat
  fs : List Fi
  ops : Int
  ct : Int
  m : Nat
  mq : Option Addr
  mc : Nat
  ds : List Df
  last : Int
  H : HP
abbrev pL (room : Int) (s : Stt) (T : List Chunk) : List Chunk := bagL s.d room s.ops s.ct s.q s.c s.fs T
abbrev nL (room : Int) (s : Stt) (T : List Chunk) : List Chunk := mL s.m room s.ops s.last s.mq s.mc s.ds T
abbrev stL (room : Int) (s : Stt) : List Chunk := Pile s.H :: pL room s (nL room s [])
structure Inv (i : Nat) (s : Stt) : Prop where
  sort : SortF s.fs
  rel : Rel s.fs s.ds
  len : s.fs.length ≤ i
  used : used s.fs ≤ 3000 * i
  ds : DsAt s.H s.ds
  cut : CutRel s.ops s.ct s.ops s.last
  ops : s.ops ≤ i
theorem Inv.next {i : Nat} {s : Stt} (h : Inv i s) {fs : List Fi} {ds : List Df} {H : HP} {q mq : Option Addr} {c mc : Nat} (hs : SortF fs) (hr : Rel fs ds) (hl : fs.length ≤ i + 1) (hu : Go.Proofs.Ytfjkfcfmbipfhaa.used fs ≤ 3000 * (i + 1)) (hd : DsAt H ds) :
    Inv (i + 1) ⟨s.d, q, c, fs, s.ops + 1, cutN s.ct, s.m, mq, mc, ds, s.last, H⟩ :=
  ⟨hs, hr, hl, hu, hd, h.cut.next, by have := h.ops; simp only; omega⟩
theorem Inv.more {i : Nat} {s : Stt} (h : Inv i s) : Inv (i + 1) s := ⟨h.sort, h.rel, by have := h.len; omega, by have := h.used; omega, h.ds, h.cut, by have := h.ops; omega⟩
structure PY where
  q : Option Addr
  c : Nat
  fs : List Fi
structure MY where
  q : Option Addr
  c : Nat
  ds : List Df
  H : HP
abbrev aftP (room : Int) (s : Stt) (T : List Chunk) (y : PY) : List Chunk := bagL s.d room (s.ops + 1) (cutN s.ct) y.q y.c y.fs T
abbrev aftM (room : Int) (s : Stt) (T : List Chunk) (z : MY) : List Chunk := Pile z.H :: mL s.m room (s.ops + 1) s.last z.q z.c z.ds T
abbrev aft (s : Stt) (y : PY) (z : MY) : Stt := ⟨s.d, y.q, y.c, y.fs, s.ops + 1, cutN s.ct, s.m, z.q, z.c, z.ds, s.last, z.H⟩
def Both (room : Int) (i : Nat) (s : Stt) (f g : FuncId) (a : List Value) : Prop :=
  ∃ (e : Int) (φ : PY → Prop) (ψ : MY → Prop), Does Try.prog f (ptr s.d :: a) (pL room s []) (X := PY) (fun _ => int e) (aftP room s []) φ ∧
    Does Try.prog g (ptr s.m :: a) (Pile s.H :: nL room s []) (X := MY) (fun _ => int e) (aftM room s []) ψ ∧ ∀ y z, φ y → ψ z → HP.sub s.H z.H ∧ Inv (i + 1) (aft s y z)
theorem used_delE (fs : List Fi) (pos : Nat) (h : pos < fs.length) : used fs = used (del fs pos) + (fs[pos].safe.length + fs[pos].loose.length) := by
  have e := used_append (fs.take pos) (fs[pos] :: fs.drop (pos + 1))
  rw [← split_at fs pos h] at e
  rw [del, used_append]
  simp only [used] at e ⊢
  omega
theorem one_le (fs : List Fi) (pos : Nat) (h : pos < fs.length) : fs[pos].safe.length + fs[pos].loose.length ≤ used fs := by
  have := used_delE fs pos h
  omega
section
variable {room : Int} {i : Nat} {s : Stt}
theorem Inv.whr (h : Inv i s) {nm : ByteArray} {pos : Nat} (hP : PosIs s.fs nm pos) : WhereAt s.ds nm (foundB s.fs nm pos) pos :=
  ⟨fun e => h.rel.fnd hP e, fun e => ⟨h.rel.no h.sort hP e, h.rel.put h.sort hP e⟩⟩
set_option maxHeartbeats 2000000 in
theorem k_append (hr0 : 0 ≤ room ∧ room ≤ 8388608) (hi : i < 100) (hI : Inv i s) (nm : ByteArray) (hz : nm.size ≤ 60000) {C : Chunk} {p : Option Addr} {l : List UInt8} (cap : Nat) (hS : SlAt C 1 p l.length (cells8 l)) (hl : l.length ≤ 3000) :
    ∃ (e : Int) (φ : PY → Prop), Does Try.prog 12 [ptr s.d, .string nm, .slice p l.length cap] (pL room s [C]) (X := PY) (fun _ => int e) (aftP room s [C]) φ ∧
      ∀ {C' : Chunk} {p' : Option Addr} (cap' : Nat), SlAt C' 1 p' l.length (cells8 l) → ∃ ψ : MY → Prop, Does Try.prog 40 [ptr s.m, .string nm, .slice p' l.length cap'] (Pile s.H :: nL room s [C']) (X := MY) (fun _ => int e) (aftM room s [C']) ψ ∧ ∀ y z, φ y → ψ z → HP.sub s.H z.H ∧ Inv (i + 1) (aft s y z) := by
  obtain ⟨d, q, c, fs, ops, ct, m, mq, mc, ds, last, H⟩ := s
  have hlen := hI.len
  have hus := hI.used
  have hop := hI.ops
  have hop0 := hI.cut.2.1
  have hcn := hI.cut.cnt (by omega)
  have hoff := hI.cut.off
  have hrl := hI.rel.len
  have hru := rel_used hI.rel
  have hrel := hI.rel
  have hsort := hI.sort
  have hds := hI.ds
  dsimp only at hlen hus hop hop0 hcn hoff hrl hru hrel hsort hds ⊢
  by_cases h1 : ct = 1
  · have ho := hoff.2 h1
    refine ⟨9, fun y => y = ⟨q, c, fs⟩, does_map (fun _ => ⟨q, c, fs⟩) (by (repeat (first | exact Take.nil | apply Take.cons | exact Sel.here | apply Sel.there)); first | done | fail) (fun _ _ => rfl) (fun Γ x w _ hB => ?_) (fun _ _ => rfl) (Does.frame (append_off d room (.slice q fs.length c) ops ct hcn h1 nm (.slice p l.length cap)) [.own q fs.length c 1 (ptrs fs) 67, Bag fs, C]), fun cap' _ => ⟨fun z => z = ⟨mq, mc, ds, H⟩, does_map (fun _ => ⟨mq, mc, ds, H⟩) (by (repeat (first | exact Take.nil | apply Take.cons | exact Sel.here | apply Sel.there)); first | done | fail) (fun _ _ => rfl) (fun Γ x w _ hB => ?_) (fun _ _ => rfl) (Does.frame (mapp_off m room mq ds.length mc ops last ⟨by omega, by omega⟩ ho nm _) [Pile H, mown mq mc ds, _]), fun y z hy hz => ?_⟩⟩
    · dsimp only [aftP, bagL]
      rw [show cutN ct = ct from by rw [h1]; rfl]
      exact hB.takeDrop (by (repeat (first | exact Take.nil | apply Take.cons | exact Sel.here | apply Sel.there)); first | done | fail)
    · exact hB.takeDrop (by (repeat (first | exact Take.nil | apply Take.cons | exact Sel.here | apply Sel.there)); first | done | fail)
    · subst hy hz
      exact ⟨HP.sub.refl _, hI.next hsort hrel (by first | omega | (dsimp only; omega)) (by first | omega | (dsimp only; omega)) hds⟩
  · have ho := fun h => h1 (hoff.1 h)
    cases hok : nmOk nm with
    | false =>
      refine ⟨1, fun y => y = ⟨q, c, fs⟩, does_map (fun _ => ⟨q, c, fs⟩) (by (repeat (first | exact Take.nil | apply Take.cons | exact Sel.here | apply Sel.there)); first | done | fail) (fun _ _ => rfl) (fun Γ x w _ hB => ?_) (fun _ _ => rfl) (Does.frame (append_bad d room (.slice q fs.length c) ops ct hcn h1 nm (by omega) hok (.slice p l.length cap)) [.own q fs.length c 1 (ptrs fs) 67, Bag fs, C]), fun cap' _ => ⟨fun z => z = ⟨mq, mc, ds, H⟩, does_map (fun _ => ⟨mq, mc, ds, H⟩) (by (repeat (first | exact Take.nil | apply Take.cons | exact Sel.here | apply Sel.there)); first | done | fail) (fun _ _ => rfl) (fun Γ x w _ hB => ?_) (fun _ _ => rfl) (Does.frame (mapp_bad m room mq ds.length mc ops last ⟨by omega, by omega⟩ ho nm (by omega) hok _) [Pile H, mown mq mc ds, _]), fun y z hy hz => ?_⟩⟩
      · exact hB.takeDrop (by (repeat (first | exact Take.nil | apply Take.cons | exact Sel.here | apply Sel.there)); first | done | fail)
      · exact hB.takeDrop (by (repeat (first | exact Take.nil | apply Take.cons | exact Sel.here | apply Sel.there)); first | done | fail)
      · subst hy hz
        exact ⟨HP.sub.refl _, hI.next hsort hrel (by first | omega | (dsimp only; omega)) (by first | omega | (dsimp only; omega)) hds⟩
    | true =>
      obtain ⟨hn0, hn1⟩ := nmOk_of hok
      obtain ⟨pos, hP⟩ := hsort.pos nm
      have hW := hI.whr hP
      dsimp only at hW
      have hmap := fun {C' : Chunk} {p' : Option Addr} (cap' : Nat) (hS' : SlAt C' 1 p' l.length (cells8 l)) => mapp m room mq mc ops last ds ⟨by omega, by omega⟩ ho nm (by omega) hok (foundB fs nm pos) pos hW (by omega) hr0 (by omega) hds cap' hS' (by omega)
      rw [hru] at hmap
      by_cases hfit : (l.length : Int) ≤ room - used fs
      · cases hfd : foundB fs nm pos with
        | false =>
          rw [hfd] at hmap
          have hap := append_add d room q c ops ct hcn h1 fs nm pos hn0 hn1 (by omega) hP hr0 (by omega) cap hS (by omega) hfd hfit
          refine ⟨0, fun y => ∃ x : Fi, y.fs = ins fs pos x ∧ x.nm = nm ∧ x.safe = [] ∧ x.loose = l, does_map (fun x : AX => ⟨x.q, x.c, ins fs pos x.x⟩) (by (repeat (first | exact Take.nil | apply Take.cons | exact Sel.here | apply Sel.there)); first | done | fail) (fun _ _ => rfl) (fun Γ x w _ hB => hB.takeDrop (by (repeat (first | exact Take.nil | apply Take.cons | exact Sel.here | apply Sel.there)); first | done | fail)) (fun x hx => ⟨x.x, rfl, hx⟩) hap,
            fun cap' hS' => ⟨fun z => HP.sub H z.H ∧ DsAt z.H z.ds ∧ ∃ x : Df, z.ds = dins ds pos x ∧ dfD x = (nm, l, 0), does_map (fun x : MX => ⟨x.q, x.c, x.ds, x.H⟩) (by (repeat (first | exact Take.nil | apply Take.cons | exact Sel.here | apply Sel.there)); first | done | fail) (fun x hx => ?_) (fun Γ x w _ hB => hB.takeDrop (by (repeat (first | exact Take.nil | apply Take.cons | exact Sel.here | apply Sel.there)); first | done | fail)) (fun x hx => ?_) (hmap cap' hS'), fun y z hy hz => ?_⟩⟩
          · obtain ⟨_, _, ⟨_, he, _⟩ | ⟨hc, _⟩⟩ := hx
            · rw [he]
            · exact absurd hfit hc
          · obtain ⟨g1, g2, ⟨_, he, ⟨hc, _⟩ | ⟨_, hz⟩⟩ | ⟨hc, _⟩⟩ := hx
            · cases hc
            · exact ⟨g1, g2, hz⟩
            · exact absurd hfit hc
          · obtain ⟨x, ey, e1, e2, e3⟩ := hy
            obtain ⟨g1, g2, x2, ez, e4⟩ := hz
            obtain ⟨yq, yc, yfs⟩ := y
            obtain ⟨zq, zc, zds, zH⟩ := z
            dsimp only at ey ez g1 g2
            subst ey ez
            have hui := used_ins fs pos x
            rw [e2, e3] at hui
            simp only [List.length_nil] at hui
            exact ⟨g1, hI.next (sort_ins hsort (by rw [e1]; exact hP) (by rw [e1]; exact hfd)) (hrel.ins pos (by rw [e4]; unfold fiD; rw [e1, e2, e3]; rfl)) (by first | (rw [ins_len fs pos x hP.le]; omega) | (dsimp only; rw [ins_len fs pos x hP.le]; omega)) (by first | omega | (dsimp only; omega)) g2⟩
        | true =>
          rw [hfd] at hmap
          have hlt := found_lt hfd
          have hap := append_to d room q c ops ct hcn h1 fs nm pos hn0 hn1 (by omega) hP hr0 (by omega) cap hS (by omega) hfd hlt hfit
          refine ⟨0, fun y => y.q = q ∧ y.c = c ∧ ∃ x : Fi, y.fs = upd fs pos x ∧ x.nm = fs[pos].nm ∧ x.safe = fs[pos].safe ∧ x.loose = fs[pos].loose ++ l, does_map (fun x : Fi => ⟨q, c, upd fs pos x⟩) (by (repeat (first | exact Take.nil | apply Take.cons | exact Sel.here | apply Sel.there)); first | done | fail) (fun _ _ => rfl) (fun Γ x w _ hB => hB.takeDrop (by (repeat (first | exact Take.nil | apply Take.cons | exact Sel.here | apply Sel.there)); first | done | fail)) (fun x hx => ⟨rfl, rfl, x, rfl, hx⟩) hap,
            fun cap' hS' => ⟨fun z => HP.sub H z.H ∧ DsAt z.H z.ds ∧ ∃ (x : Df) (hk : pos < ds.length), z.ds = dupd ds pos x ∧ dfD x = (ds[pos].nm, ds[pos].bs ++ l, ds[pos].sy), does_map (fun x : MX => ⟨x.q, x.c, x.ds, x.H⟩) (by (repeat (first | exact Take.nil | apply Take.cons | exact Sel.here | apply Sel.there)); first | done | fail) (fun x hx => ?_) (fun Γ x w _ hB => hB.takeDrop (by (repeat (first | exact Take.nil | apply Take.cons | exact Sel.here | apply Sel.there)); first | done | fail)) (fun x hx => ?_) (hmap cap' hS'), fun y z hy hz => ?_⟩⟩
          · obtain ⟨_, _, ⟨_, he, _⟩ | ⟨hc, _⟩⟩ := hx
            · rw [he]
            · exact absurd hfit hc
          · obtain ⟨g1, g2, ⟨_, he, ⟨_, hz⟩ | ⟨hc, _⟩⟩ | ⟨hc, _⟩⟩ := hx
            · exact ⟨g1, g2, hz⟩
            · cases hc
            · exact absurd hfit hc
          · obtain ⟨_, _, x, ey, e1, e2, e3⟩ := hy
            obtain ⟨g1, g2, x2, hk, ez, e4⟩ := hz
            obtain ⟨yq, yc, yfs⟩ := y
            obtain ⟨zq, zc, zds, zH⟩ := z
            dsimp only at ey ez g1 g2
            subst ey ez
            have hui := used_upd fs pos x hlt
            rw [e2, e3, List.length_append] at hui
            obtain ⟨r1, r2, r3⟩ := hrel.at_ hk hlt
            exact ⟨g1, hI.next (sort_upd hsort hlt e1) (hrel.upd pos (by rw [e4, r1, r2, r3]; unfold fiD; rw [e1, e2, e3, List.append_assoc])) (by first | (rw [upd_len fs pos x hlt]; omega) | (dsimp only; rw [upd_len fs pos x hlt]; omega)) (by first | omega | (dsimp only; omega)) g2⟩
      · have hap := append_full d room q c ops ct hcn h1 fs nm pos hn0 hn1 (by omega) hP hr0 (by omega) p l.length cap hfit
        refine ⟨3, fun y => y = ⟨q, c, fs⟩, does_map (fun _ => ⟨q, c, fs⟩) (by (repeat (first | exact Take.nil | apply Take.cons | exact Sel.here | apply Sel.there)); first | done | fail) (fun _ _ => rfl) (fun Γ x w _ hB => hB.takeDrop (by (repeat (first | exact Take.nil | apply Take.cons | exact Sel.here | apply Sel.there)); first | done | fail)) (fun _ _ => rfl) (Does.frame hap [C]),
          fun cap' hS' => ⟨fun z => HP.sub H z.H ∧ DsAt z.H z.ds ∧ z.ds = ds, does_map (fun x : MX => ⟨x.q, x.c, x.ds, x.H⟩) (by (repeat (first | exact Take.nil | apply Take.cons | exact Sel.here | apply Sel.there)); first | done | fail) (fun x hx => ?_) (fun Γ x w _ hB => hB.takeDrop (by (repeat (first | exact Take.nil | apply Take.cons | exact Sel.here | apply Sel.there)); first | done | fail)) (fun x hx => ?_) (hmap cap' hS'), fun y z hy hz => ?_⟩⟩
        · obtain ⟨_, _, ⟨hc, _⟩ | ⟨_, he, _⟩⟩ := hx
          · exact absurd hc hfit
          · rw [he]
        · obtain ⟨g1, g2, ⟨hc, _⟩ | ⟨_, _, he⟩⟩ := hx
          · exact absurd hc hfit
          · exact ⟨g1, g2, he⟩
        · obtain ⟨g1, g2, ez⟩ := hz
          obtain ⟨zq, zc, zds, zH⟩ := z
          dsimp only at ez g1 g2
          subst hy ez
          exact ⟨g1, hI.next hsort hrel (by first | omega | (dsimp only; omega)) (by first | omega | (dsimp only; omega)) g2⟩
end
end Go.Proofs.Ytfjkfcfmbipfhaa

namespace Go.Proofs.Ytfjkfcfmbipfhaa
open Go.Sl facts
section
variable {room : Int} {i : Nat} {s : Stt}
set_option maxHeartbeats 1000000 in
theorem k_sync (hi : i < 100) (hI : Inv i s) (nm : ByteArray) : Both room i s 13 41 [.string nm] := by
  obtain ⟨d, q, c, fs, ops, ct, m, mq, mc, ds, last, H⟩ := s
  have hlen := hI.len
  have hus := hI.used
  have hop := hI.ops
  have hop0 := hI.cut.2.1
  have hcn := hI.cut.cnt (by omega)
  have hoff := hI.cut.off
  have hrl := hI.rel.len
  have hrel := hI.rel
  have hsort := hI.sort
  have hds := hI.ds
  unfold Both
  dsimp only at hlen hus hop hop0 hcn hoff hrl hrel hsort hds ⊢
  by_cases h1 : ct = 1
  · have ho := hoff.2 h1
    refine ⟨9, fun y => y = ⟨q, c, fs⟩, fun z => z = ⟨mq, mc, ds, H⟩, does_map (fun _ => ⟨q, c, fs⟩) (by (repeat (first | exact Take.nil | apply Take.cons | exact Sel.here | apply Sel.there)); first | done | fail) (fun _ _ => rfl) (fun Γ x w _ hB => ?_) (fun _ _ => rfl) (Does.frame (sync_off d room (.slice q fs.length c) ops ct hcn h1 nm) [.own q fs.length c 1 (ptrs fs) 67, Bag fs]), does_map (fun _ => ⟨mq, mc, ds, H⟩) (by (repeat (first | exact Take.nil | apply Take.cons | exact Sel.here | apply Sel.there)); first | done | fail) (fun _ _ => rfl) (fun Γ x w _ hB => hB.takeDrop (by (repeat (first | exact Take.nil | apply Take.cons | exact Sel.here | apply Sel.there)); first | done | fail)) (fun _ _ => rfl) (Does.frame (msync_off m room mq ds.length mc ops last ⟨by omega, by omega⟩ ho nm) [Pile H, mown mq mc ds]), fun y z hy hz => ?_⟩
    · dsimp only [aftP, bagL]
      rw [show cutN ct = ct from by rw [h1]; rfl]
      exact hB.takeDrop (by (repeat (first | exact Take.nil | apply Take.cons | exact Sel.here | apply Sel.there)); first | done | fail)
    · subst hy hz
      exact ⟨HP.sub.refl _, hI.next hsort hrel (by first | omega | (dsimp only; omega)) (by first | omega | (dsimp only; omega)) hds⟩
  · have ho := fun h => h1 (hoff.1 h)
    obtain ⟨pos, hP⟩ := hsort.pos nm
    cases hfd : foundB fs nm pos with
    | false =>
      refine ⟨4, fun y => y = ⟨q, c, fs⟩, fun z => z = ⟨mq, mc, ds, H⟩, does_map (fun _ => ⟨q, c, fs⟩) (by (repeat (first | exact Take.nil | apply Take.cons | exact Sel.here | apply Sel.there)); first | done | fail) (fun _ _ => rfl) (fun Γ x w _ hB => hB.takeDrop (by (repeat (first | exact Take.nil | apply Take.cons | exact Sel.here | apply Sel.there)); first | done | fail)) (fun _ _ => rfl) (sync_no d room q c ops ct hcn h1 fs nm pos (by omega) hP hfd), does_map (fun _ => ⟨mq, mc, ds, H⟩) (by (repeat (first | exact Take.nil | apply Take.cons | exact Sel.here | apply Sel.there)); first | done | fail) (fun _ _ => rfl) (fun Γ x w _ hB => hB.takeDrop (by (repeat (first | exact Take.nil | apply Take.cons | exact Sel.here | apply Sel.there)); first | done | fail)) (fun _ _ => rfl) (Does.frame (msync_no m room mq mc ops last ds ⟨by omega, by omega⟩ ho nm (hrel.no hsort hP hfd) (by omega)) [Pile H]), fun y z hy hz => ?_⟩
      subst hy hz
      exact ⟨HP.sub.refl _, hI.next hsort hrel (by first | omega | (dsimp only; omega)) (by first | omega | (dsimp only; omega)) hds⟩
    | true =>
      have hlt := found_lt hfd
      have hlt2 : pos < ds.length := by omega
      have hol := one_le fs pos hlt
      obtain ⟨r1, r2, r3⟩ := hrel.at_ hlt2 hlt
      have hbl : ds[pos].bs.length ≤ 1000000 := by rw [r2, List.length_append]; omega
      refine ⟨0, fun y => ∃ x : Fi, y = ⟨q, c, upd fs pos x⟩ ∧ x.nm = fs[pos].nm ∧ x.safe = fs[pos].safe ++ fs[pos].loose ∧ x.loose = [], fun z => z = ⟨mq, mc, dupd ds pos ds[pos].sync, H⟩, does_map (fun x : Fi => ⟨q, c, upd fs pos x⟩) (by (repeat (first | exact Take.nil | apply Take.cons | exact Sel.here | apply Sel.there)); first | done | fail) (fun _ _ => rfl) (fun Γ x w _ hB => hB.takeDrop (by (repeat (first | exact Take.nil | apply Take.cons | exact Sel.here | apply Sel.there)); first | done | fail)) (fun x hx => ⟨x, rfl, hx⟩) (sync_g d room q c ops ct hcn h1 fs nm pos (by omega) hP (by omega) hfd hlt), does_map (fun _ => ⟨mq, mc, dupd ds pos ds[pos].sync, H⟩) (by (repeat (first | exact Take.nil | apply Take.cons | exact Sel.here | apply Sel.there)); first | done | fail) (fun _ _ => rfl) (fun Γ x w _ hB => hB.takeDrop (by (repeat (first | exact Take.nil | apply Take.cons | exact Sel.here | apply Sel.there)); first | done | fail)) (fun _ _ => rfl) (Does.frame (msync m room mq mc ops last ds ⟨by omega, by omega⟩ ho nm pos (hrel.fnd hP hfd) hlt2 (by omega) hbl) [Pile H]), fun y z hy hz => ?_⟩
      obtain ⟨x, ey, e1, e2, e3⟩ := hy
      subst ey hz
      have hui := used_upd fs pos x hlt
      rw [e2, e3, List.length_append] at hui
      simp only [List.length_nil] at hui
      refine ⟨HP.sub.refl _, hI.next (sort_upd hsort hlt e1) (hrel.upd pos (by unfold fiD dfD; rw [e1, e2, e3, List.append_nil]; dsimp only; rw [r1, r2])) (by first | (rw [upd_len fs pos x hlt]; omega) | (dsimp only; rw [upd_len fs pos x hlt]; omega)) (by first | omega | (dsimp only; omega)) (hds.upd pos (hds ds[pos] (List.getElem_mem _)))⟩
set_option maxHeartbeats 1000000 in
theorem k_remove (hi : i < 100) (hI : Inv i s) (nm : ByteArray) : Both room i s 23 43 [.string nm] := by
  obtain ⟨d, q, c, fs, ops, ct, m, mq, mc, ds, last, H⟩ := s
  have hlen := hI.len
  have hus := hI.used
  have hop := hI.ops
  have hop0 := hI.cut.2.1
  have hcn := hI.cut.cnt (by omega)
  have hoff := hI.cut.off
  have hrl := hI.rel.len
  have hrel := hI.rel
  have hsort := hI.sort
  have hds := hI.ds
  unfold Both
  dsimp only at hlen hus hop hop0 hcn hoff hrl hrel hsort hds ⊢
  by_cases h1 : ct = 1
  · have ho := hoff.2 h1
    refine ⟨9, fun y => y = ⟨q, c, fs⟩, fun z => z = ⟨mq, mc, ds, H⟩, does_map (fun _ => ⟨q, c, fs⟩) (by (repeat (first | exact Take.nil | apply Take.cons | exact Sel.here | apply Sel.there)); first | done | fail) (fun _ _ => rfl) (fun Γ x w _ hB => ?_) (fun _ _ => rfl) (Does.frame (remove_off d room (.slice q fs.length c) ops ct hcn h1 nm) [.own q fs.length c 1 (ptrs fs) 67, Bag fs]), does_map (fun _ => ⟨mq, mc, ds, H⟩) (by (repeat (first | exact Take.nil | apply Take.cons | exact Sel.here | apply Sel.there)); first | done | fail) (fun _ _ => rfl) (fun Γ x w _ hB => hB.takeDrop (by (repeat (first | exact Take.nil | apply Take.cons | exact Sel.here | apply Sel.there)); first | done | fail)) (fun _ _ => rfl) (Does.frame (mrem_off m room mq ds.length mc ops last ⟨by omega, by omega⟩ ho nm) [Pile H, mown mq mc ds]), fun y z hy hz => ?_⟩
    · dsimp only [aftP, bagL]
      rw [show cutN ct = ct from by rw [h1]; rfl]
      exact hB.takeDrop (by (repeat (first | exact Take.nil | apply Take.cons | exact Sel.here | apply Sel.there)); first | done | fail)
    · subst hy hz
      exact ⟨HP.sub.refl _, hI.next hsort hrel (by first | omega | (dsimp only; omega)) (by first | omega | (dsimp only; omega)) hds⟩
  · have ho := fun h => h1 (hoff.1 h)
    obtain ⟨pos, hP⟩ := hsort.pos nm
    cases hfd : foundB fs nm pos with
    | false =>
      refine ⟨4, fun y => y = ⟨q, c, fs⟩, fun z => z = ⟨mq, mc, ds, H⟩, does_map (fun _ => ⟨q, c, fs⟩) (by (repeat (first | exact Take.nil | apply Take.cons | exact Sel.here | apply Sel.there)); first | done | fail) (fun _ _ => rfl) (fun Γ x w _ hB => hB.takeDrop (by (repeat (first | exact Take.nil | apply Take.cons | exact Sel.here | apply Sel.there)); first | done | fail)) (fun _ _ => rfl) (remove_no d room q c ops ct hcn h1 fs nm pos (by omega) hP hfd), does_map (fun _ => ⟨mq, mc, ds, H⟩) (by (repeat (first | exact Take.nil | apply Take.cons | exact Sel.here | apply Sel.there)); first | done | fail) (fun _ _ => rfl) (fun Γ x w _ hB => hB.takeDrop (by (repeat (first | exact Take.nil | apply Take.cons | exact Sel.here | apply Sel.there)); first | done | fail)) (fun _ _ => rfl) (Does.frame (mrem_no m room mq mc ops last ds ⟨by omega, by omega⟩ ho nm (hrel.no hsort hP hfd) (by omega)) [Pile H]), fun y z hy hz => ?_⟩
      subst hy hz
      exact ⟨HP.sub.refl _, hI.next hsort hrel (by first | omega | (dsimp only; omega)) (by first | omega | (dsimp only; omega)) hds⟩
    | true =>
      have hlt := found_lt hfd
      have hud := used_del fs pos
      refine ⟨0, fun y => y = ⟨q, c, del fs pos⟩, fun z => z.ds = ddel ds pos ∧ z.H = H, does_map (fun _ => ⟨q, c, del fs pos⟩) (by (repeat (first | exact Take.nil | apply Take.cons | exact Sel.here | apply Sel.there)); first | done | fail) (fun _ _ => rfl) (fun Γ x w _ hB => hB.takeDrop (by (repeat (first | exact Take.nil | apply Take.cons | exact Sel.here | apply Sel.there)); first | done | fail)) (fun _ _ => rfl) (remove_g d room q c ops ct hcn h1 fs nm pos (by omega) hP hfd hlt), does_map (fun x : OA => ⟨x.1, x.2, ddel ds pos, H⟩) (by (repeat (first | exact Take.nil | apply Take.cons | exact Sel.here | apply Sel.there)); first | done | fail) (fun _ _ => rfl) (fun Γ x w _ hB => hB.takeDrop (by (repeat (first | exact Take.nil | apply Take.cons | exact Sel.here | apply Sel.there)); first | done | fail)) (fun _ _ => ⟨rfl, rfl⟩) (Does.frame (mrem m room mq mc ops last ds ⟨by omega, by omega⟩ ho nm pos (hrel.fnd hP hfd) (by omega)) [Pile H]), fun y z hy hz => ?_⟩
      obtain ⟨zq, zc, zds, zH⟩ := z
      obtain ⟨e1, e2⟩ := hz
      dsimp only at e1 e2
      subst hy e1 e2
      exact ⟨HP.sub.refl _, hI.next (sort_del hsort pos) (hrel.del pos) (by first | (rw [del_len fs pos hlt]; omega) | (dsimp only; rw [del_len fs pos hlt]; omega)) (by first | omega | (dsimp only; omega)) (hds.del pos)⟩
set_option maxHeartbeats 2000000 in
theorem k_rename (hi : i < 100) (hI : Inv i s) (nm to : ByteArray) (hzn : nm.size ≤ 60000) (hz : to.size ≤ 60000) : Both room i s 22 42 [.string nm, .string to] := by
  obtain ⟨d, q, c, fs, ops, ct, m, mq, mc, ds, last, H⟩ := s
  have hlen := hI.len
  have hus := hI.used
  have hop := hI.ops
  have hop0 := hI.cut.2.1
  have hcn := hI.cut.cnt (by omega)
  have hoff := hI.cut.off
  have hrl := hI.rel.len
  have hrel := hI.rel
  have hsort := hI.sort
  have hds := hI.ds
  unfold Both
  dsimp only at hlen hus hop hop0 hcn hoff hrl hrel hsort hds ⊢
  by_cases h1 : ct = 1
  · have ho := hoff.2 h1
    refine ⟨9, fun y => y = ⟨q, c, fs⟩, fun z => z = ⟨mq, mc, ds, H⟩, does_map (fun _ => ⟨q, c, fs⟩) (by (repeat (first | exact Take.nil | apply Take.cons | exact Sel.here | apply Sel.there)); first | done | fail) (fun _ _ => rfl) (fun Γ x w _ hB => ?_) (fun _ _ => rfl) (Does.frame (rename_off d room (.slice q fs.length c) ops ct hcn h1 nm to) [.own q fs.length c 1 (ptrs fs) 67, Bag fs]), does_map (fun _ => ⟨mq, mc, ds, H⟩) (by (repeat (first | exact Take.nil | apply Take.cons | exact Sel.here | apply Sel.there)); first | done | fail) (fun _ _ => rfl) (fun Γ x w _ hB => hB.takeDrop (by (repeat (first | exact Take.nil | apply Take.cons | exact Sel.here | apply Sel.there)); first | done | fail)) (fun _ _ => rfl) (Does.frame (mren_off m room mq ds.length mc ops last ⟨by omega, by omega⟩ ho nm to) [Pile H, mown mq mc ds]), fun y z hy hz => ?_⟩
    · dsimp only [aftP, bagL]
      rw [show cutN ct = ct from by rw [h1]; rfl]
      exact hB.takeDrop (by (repeat (first | exact Take.nil | apply Take.cons | exact Sel.here | apply Sel.there)); first | done | fail)
    · subst hy hz
      exact ⟨HP.sub.refl _, hI.next hsort hrel (by first | omega | (dsimp only; omega)) (by first | omega | (dsimp only; omega)) hds⟩
  · have ho := fun h => h1 (hoff.1 h)
    obtain ⟨pos, hP⟩ := hsort.pos nm
    cases hfd : foundB fs nm pos with
    | false =>
      refine ⟨4, fun y => y = ⟨q, c, fs⟩, fun z => z = ⟨mq, mc, ds, H⟩, does_map (fun _ => ⟨q, c, fs⟩) (by (repeat (first | exact Take.nil | apply Take.cons | exact Sel.here | apply Sel.there)); first | done | fail) (fun _ _ => rfl) (fun Γ x w _ hB => hB.takeDrop (by (repeat (first | exact Take.nil | apply Take.cons | exact Sel.here | apply Sel.there)); first | done | fail)) (fun _ _ => rfl) (rename_no d room q c ops ct hcn h1 fs nm to pos (by omega) hP hfd), does_map (fun _ => ⟨mq, mc, ds, H⟩) (by (repeat (first | exact Take.nil | apply Take.cons | exact Sel.here | apply Sel.there)); first | done | fail) (fun _ _ => rfl) (fun Γ x w _ hB => hB.takeDrop (by (repeat (first | exact Take.nil | apply Take.cons | exact Sel.here | apply Sel.there)); first | done | fail)) (fun _ _ => rfl) (Does.frame (mren_no m room mq mc ops last ds ⟨by omega, by omega⟩ ho nm to (hrel.no hsort hP hfd) (by omega)) [Pile H]), fun y z hy hz => ?_⟩
      subst hy hz
      exact ⟨HP.sub.refl _, hI.next hsort hrel (by first | omega | (dsimp only; omega)) (by first | omega | (dsimp only; omega)) hds⟩
    | true =>
      have hlt := found_lt hfd
      have hlt2 : pos < ds.length := by omega
      have hF := hrel.fnd hP hfd
      have hdel := del_len fs pos hlt
      have hue := used_delE fs pos hlt
      obtain ⟨r1, r2, r3⟩ := hrel.at_ hlt2 hlt
      have hfn := found_nm hfd hlt
      have hrd := hrel.del pos
      have hsd := sort_del hsort pos
      have has : dfD (ds[pos].as to) = fiD (fs[pos].as to) := by
        unfold fiD dfD
        rw [r2, r3]
      have hdz := hds ds[pos] (List.getElem_mem _)
      cases hok : nmOk to with
      | false =>
        refine ⟨1, fun y => y = ⟨q, c, fs⟩, fun z => z = ⟨mq, mc, ds, H⟩, does_map (fun _ => ⟨q, c, fs⟩) (by (repeat (first | exact Take.nil | apply Take.cons | exact Sel.here | apply Sel.there)); first | done | fail) (fun _ _ => rfl) (fun Γ x w _ hB => hB.takeDrop (by (repeat (first | exact Take.nil | apply Take.cons | exact Sel.here | apply Sel.there)); first | done | fail)) (fun _ _ => rfl) (rename_bad d room q c ops ct hcn h1 fs nm to pos (by omega) hP hfd (by omega) hok), does_map (fun _ => ⟨mq, mc, ds, H⟩) (by (repeat (first | exact Take.nil | apply Take.cons | exact Sel.here | apply Sel.there)); first | done | fail) (fun _ _ => rfl) (fun Γ x w _ hB => hB.takeDrop (by (repeat (first | exact Take.nil | apply Take.cons | exact Sel.here | apply Sel.there)); first | done | fail)) (fun _ _ => rfl) (Does.frame (mren_bad m room mq mc ops last ds ⟨by omega, by omega⟩ ho nm to pos hF (by omega) (by omega) hok) [Pile H]), fun y z hy hz => ?_⟩
        subst hy hz
        exact ⟨HP.sub.refl _, hI.next hsort hrel (by first | omega | (dsimp only; omega)) (by first | omega | (dsimp only; omega)) hds⟩
      | true =>
        obtain ⟨k, hP2⟩ := hsd.pos to
        by_cases hsm : nm = to
        · obtain ⟨p1, p2⟩ := pos_del hsort hlt
          rw [hfn, hsm] at p1 p2
          have hui := used_ins (del fs pos) pos (fs[pos].as to)
          have hrs := ins_same hrel hlt
          rw [hfn, hsm] at hrs
          have hsi := sort_ins (x := fs[pos].as to) hsd p1 p2
          subst hsm
          refine ⟨0, fun y => y.fs = ins (del fs pos) pos (fs[pos].as nm), fun z => z = ⟨mq, mc, ds, H⟩, does_map (fun x : RnX => ⟨x.q, x.c, ins (del fs pos) pos (fs[pos].as nm)⟩) (by (repeat (first | exact Take.nil | apply Take.cons | exact Sel.here | apply Sel.there)); first | done | fail) (fun _ _ => rfl) (fun Γ x w _ hB => hB.takeDrop (by (repeat (first | exact Take.nil | apply Take.cons | exact Sel.here | apply Sel.there)); first | done | fail)) (fun _ _ => rfl) (rename_ins d room q c ops ct hcn h1 fs nm nm pos (by omega) hP hfd hlt (by omega) hok pos p1 p2), does_map (fun _ => ⟨mq, mc, ds, H⟩) (by (repeat (first | exact Take.nil | apply Take.cons | exact Sel.here | apply Sel.there)); first | done | fail) (fun _ _ => rfl) (fun Γ x w _ hB => hB.takeDrop (by (repeat (first | exact Take.nil | apply Take.cons | exact Sel.here | apply Sel.there)); first | done | fail)) (fun _ _ => rfl) (Does.frame (mren_same m room mq mc ops last ds ⟨by omega, by omega⟩ ho nm pos hF (by omega) (by omega) hok) [Pile H]), fun y z hy hz => ?_⟩
          obtain ⟨yq, yc, yfs⟩ := y
          dsimp only at hy hui
          have hil := ins_len (del fs pos) pos (fs[pos].as nm) p1.le
          subst hy hz
          exact ⟨HP.sub.refl _, hI.next hsi hrs (by first | omega | (dsimp only; omega)) (by first | omega | (dsimp only; omega)) hds⟩
        · cases hf2 : foundB (del fs pos) to k with
          | false =>
            have hui := used_ins (del fs pos) k (fs[pos].as to)
            have hil := ins_len (del fs pos) k (fs[pos].as to) hP2.le
            refine ⟨0, fun y => y.fs = ins (del fs pos) k (fs[pos].as to), fun z => z.ds = dins (ddel ds pos) k (ds[pos].as to) ∧ z.H = H, does_map (fun x : RnX => ⟨x.q, x.c, ins (del fs pos) k (fs[pos].as to)⟩) (by (repeat (first | exact Take.nil | apply Take.cons | exact Sel.here | apply Sel.there)); first | done | fail) (fun _ _ => rfl) (fun Γ x w _ hB => hB.takeDrop (by (repeat (first | exact Take.nil | apply Take.cons | exact Sel.here | apply Sel.there)); first | done | fail)) (fun _ _ => rfl) (rename_ins d room q c ops ct hcn h1 fs nm to pos (by omega) hP hfd hlt (by omega) hok k hP2 hf2), does_map (fun x : OA => ⟨x.1, x.2, dins (ddel ds pos) k (ds[pos].as to), H⟩) (by (repeat (first | exact Take.nil | apply Take.cons | exact Sel.here | apply Sel.there)); first | done | fail) (fun _ _ => rfl) (fun Γ x w _ hB => hB.takeDrop (by (repeat (first | exact Take.nil | apply Take.cons | exact Sel.here | apply Sel.there)); first | done | fail)) (fun _ _ => ⟨rfl, rfl⟩) (Does.frame (mren m room mq mc ops last ds ⟨by omega, by omega⟩ ho nm to hsm pos hF hlt2 (by omega) (by omega) hok (hrd.no hsd hP2 hf2) k (hrd.put hsd hP2 hf2)) [Pile H]), fun y z hy hz => ?_⟩
            obtain ⟨yq, yc, yfs⟩ := y
            obtain ⟨zq, zc, zds, zH⟩ := z
            obtain ⟨e1, e2⟩ := hz
            dsimp only at hy hui e1 e2
            subst hy e1 e2
            exact ⟨HP.sub.refl _, hI.next (sort_ins hsd hP2 hf2) (hrd.ins k has) (by first | omega | (dsimp only; omega)) (by first | omega | (dsimp only; omega)) ((hds.del pos).ins k hdz)⟩
          | true =>
            have hkl := found_lt hf2
            have hui := used_upd (del fs pos) k (fs[pos].as to) hkl
            have hil := upd_len (del fs pos) k (fs[pos].as to) hkl
            have hY := hrd.fnd hP2 hf2
            have hPD := PutAt.del hrd hsd hP2 hf2
            have hid := ins_del (ddel ds pos) k (ds[pos].as to) hY.lt
            refine ⟨0, fun y => y = ⟨q, c, upd (del fs pos) k (fs[pos].as to)⟩, fun z => z.ds = dins (ddel (ddel ds pos) k) k (ds[pos].as to) ∧ z.H = H, does_map (fun _ => ⟨q, c, upd (del fs pos) k (fs[pos].as to)⟩) (by (repeat (first | exact Take.nil | apply Take.cons | exact Sel.here | apply Sel.there)); first | done | fail) (fun _ _ => rfl) (fun Γ x w _ hB => hB.takeDrop (by (repeat (first | exact Take.nil | apply Take.cons | exact Sel.here | apply Sel.there)); first | done | fail)) (fun _ _ => rfl) (rename_to d room q c ops ct hcn h1 fs nm to pos (by omega) hP hfd hlt (by omega) hok k hP2 hf2 hkl), does_map (fun x : OA => ⟨x.1, x.2, dins (ddel (ddel ds pos) k) k (ds[pos].as to), H⟩) (by (repeat (first | exact Take.nil | apply Take.cons | exact Sel.here | apply Sel.there)); first | done | fail) (fun _ _ => rfl) (fun Γ x w _ hB => hB.takeDrop (by (repeat (first | exact Take.nil | apply Take.cons | exact Sel.here | apply Sel.there)); first | done | fail)) (fun _ _ => ⟨rfl, rfl⟩) (Does.frame (mren_to m room mq mc ops last ds ⟨by omega, by omega⟩ ho nm to hsm pos hF hlt2 (by omega) (by omega) hok k hY k hPD) [Pile H]), fun y z hy hz => ?_⟩
            obtain ⟨zq, zc, zds, zH⟩ := z
            obtain ⟨e1, e2⟩ := hz
            dsimp only at hui e1 e2
            rw [show dins (ddel (ddel ds pos) k) k (ds[pos].as to) = dupd (ddel ds pos) k (ds[pos].as to) from hid] at e1
            subst hy e1 e2
            exact ⟨HP.sub.refl _, hI.next (sort_at hsd hf2) (hrd.upd k has) (by first | omega | (dsimp only; omega)) (by first | omega | (dsimp only; omega)) ((hds.del pos).upd k hdz)⟩
theorem Inv.cuts (h : Inv i s) (n : Int) (hn : n ≤ 3000) (hi : i < 100) : Inv (i + 1) { s with ct := max n 0 + 1, last := s.ops + max n 0 } := by
  obtain ⟨d, q, c, fs, ops, ct, m, mq, mc, ds, last, H⟩ := s
  have hc := h.cut
  have ho := h.ops
  have hl := h.len
  have hu := h.used
  dsimp only at ho hl hu
  obtain ⟨_, h0, _⟩ := hc
  dsimp only at h0
  exact ⟨h.sort, h.rel, by simp only; omega, by simp only; omega, h.ds, ⟨rfl, h0, .inr ⟨by simp only; omega, by simp only; omega, by simp only; omega, by simp only; omega, by simp only; omega⟩⟩, by simp only; omega⟩
theorem Inv.syncs (h : Inv i s) (hi : i ≤ 100) : ∀ x ∈ s.ds, x.sy ≤ x.bs.length ∧ x.bs.length ≤ 1000000 := fun x hx => by
  obtain ⟨j, hj, rfl⟩ := List.mem_iff_getElem.1 hx
  have hl := h.rel.len
  have hu := h.used
  have hj2 : j < s.fs.length := by omega
  obtain ⟨_, e2, e3⟩ := h.rel.at_ hj hj2
  have := one_le s.fs j hj2
  rw [e2, e3, List.length_append]
  omega
end
end Go.Proofs.Ytfjkfcfmbipfhaa
