/- An executor of the model's code over abstract values, and that it is right: what it tells of a run is what the run does. No condition. -/
import Derived.Test.YtkknbhapkdgcjaaGreatDoorAbsQ3
import Derived.Deep.Upon
import Derived.Lib.AppendZerosOnto
section
set_option linter.unusedVariables false
set_option linter.unusedSimpArgs false
namespace Go.Abs
open Go
section
variable {R : Type} {C : Ctx}
def SrcTy (P : Program) (tx : TypeId) : Prop := (∃ e', P.underlying tx = some (.slice e')) ∨ P.underlying tx = some .string
theorem srcTy_of {P : Program} {tx : TypeId} (h : srcTyB P tx = true) : SrcTy P tx := by
 unfold SrcTy
 unfold srcTyB at h
 split at h
 ·rename_i e hu; exact .inl ⟨e, hu⟩
 ·rename_i hu; exact .inr hu
 ·cases h
theorem src_ints {P : Program} {E : Env} {tx : TypeId} {k : IntKind} {l : List Int} {v : Value} (ht : SrcTy P tx) (h : IntsAt E k l v) : Src P 1 tx v l.length (l.map (Value.int k)) E.w := by
 refine ⟨ht, fun w' => h.len P w', ?_, ?_, by simp, fun u hu => ?_⟩
 ·have := h.cells P E.w (fun _ => rfl) l.length (Nat.le_refl _); rwa [List.take_length] at this
 ·have := h.cells P E.w.drew (fun _ => rfl) l.length (Nat.le_refl _); rwa [List.take_length] at this
 ·obtain ⟨n, _, rfl⟩ := List.mem_map.1 hu; rfl
theorem ObjsAt.one {E : Env} {w : Nat} {l : List AV} {v : Value} {cs : List Value} (h : ObjsAt E w l v cs) : ∀ u ∈ cs, u.oneCell' = true := fun u hu => by
 obtain ⟨j, hj⟩ := List.mem_iff_getElem?.1 hu
 have hjl := (List.getElem?_eq_some_iff.1 hj).1
 have hfl := objs_flat_length h.fit
 have hx := List.getElem?_eq_getElem (l := flats l) (i := j) (by rw [hfl, ← h.size]; exact hjl)
 obtain ⟨y, h1, h2⟩ := objs_flat_get h.fit hx
 obtain ⟨g1, g2⟩ := solid_flat (h.fit y (List.mem_of_getElem? h1)).2.2 _ (List.mem_of_getElem? h2)
 exact (h.vr j _ u hx hj).oneCell g1 g2
theorem src_objs {P : Program} {E : Env} {tx : TypeId} {w : Nat} {l : List AV} {v : Value} {cs : List Value} (ht : SrcTy P tx) (h : ObjsAt E w l v cs) : Src P w tx v l.length cs E.w :=
 ⟨ht, fun w' => h.len P w', h.cells P E.w fun _ => rfl, h.cells P E.w.drew fun _ => rfl, h.size, h.one⟩
structure AppSrc (P : Program) (t tx ty e w : Nat) (v : Value) (n : Nat) (news : List Value) (W : World) : Prop where
 newsLen : news.length = n * w
 nothing : n = 0 → ∀ (i : TypeInfo), P.underlying t = some (.slice e) → P.info? e = some i → i.size = w → ∀ (a : Option Addr) (len cap : Nat), len ≤ cap →
  (Builtin.append_ #[t, tx] ty #[.slice a len cap, v]).run P W = .ok (.slice a len cap) W
 room : ∀ (i : TypeInfo), P.underlying t = some (.slice e) → P.info? e = some i → i.size = w → ∀ (b off sLen sCap : Nat), sLen + n ≤ sCap → n * i.bytes ≤ 281474976710656 →
  (∀ j, j < news.length → (W.cell? ⟨b, off + sLen * w + j, none⟩).isSome = true) → (∀ j, j < news.length → W.frozen? ⟨b, off + sLen * w + j, none⟩ = false) →
  (Builtin.append_ #[t, tx] ty #[.slice (some ⟨b, off, none⟩) sLen sCap, v]).run P W = .ok (.slice (some ⟨b, off, none⟩) (sLen + n) sCap) (W.setCells b (off + sLen * w) news)
 grow : ∀ (i : TypeInfo) (z : Value), P.underlying t = some (.slice e) → P.info? e = some i → i.zero = some z → i.size = w → ∀ (base : Option Addr) (sLen sCap : Nat) (olds : List Value),
  (Builtin.firstCells i.size sLen (.slice base sLen sCap)).run P W.drew = .ok olds.toArray W.drew → sCap < sLen + n → ((sLen + n : Nat) : Int) ≤ 9223372036854775807 → n * i.bytes ≤ 281474976710656 → Builtin.nextslicecap (sLen + n) sCap * i.bytes ≤ 281474976710656 →
  (Builtin.append_ #[t, tx] ty #[.slice base sLen sCap, v]).run P W =
   .ok (.slice (some ⟨W.heap.size, 0, none⟩) (sLen + n) (grownCap W (sLen + n) sCap e))
    (W.drew.alloc (.cells ((olds ++ news).toArray ++ Builtin.zeroCells z.cells (grownCap W (sLen + n) sCap e - (sLen + n))) e))
theorem AppSrc.ofSrc {P : Program} {t tx ty e w : Nat} {v : Value} {n : Nat} {news : List Value} {W : World} (h : Src P w tx v n news W) : AppSrc P t tx ty e w v n news W where
 newsLen := h.newsLen
 nothing := fun h0 i hu hi hw a len cap hle => by
  subst h0; subst hw
  have hnil : news = [] := List.length_eq_zero_iff.1 (by rw [h.newsLen]; simp)
  subst hnil
  exact run_append_nothing W t tx ty e i hu hi a len cap hle v h
 room := fun i hu hi hw b off sLen sCap hr hb hc hf => by
  subst hw
  exact run_append_room_src W t tx ty e i hu hi b off sLen sCap v n news h hr hc hf
 grow := fun i z hu hi hz hw base sLen sCap olds hold hg h63 hb hfit => by
  subst hw
  exact run_append_grow_src W t tx ty e i z hu hi hz base sLen sCap olds hold v n news h hg h63 hfit
theorem zeroCells_one (u : Value) (n : Nat) : Builtin.zeroCells #[u] n = (List.replicate n u).toArray := by
 apply Array.ext
 ·simp [Builtin.zeroCells]
 ·intro i h1 h2
  simp [Builtin.zeroCells, Nat.mod_one]
theorem AppSrc.ofZeros {P : Program} {t tx ty e : Nat} {k kn kq : IntKind} {z : Int} {n : Nat} {W : World} (hx : P.underlying tx = some (.int kn)) (hz : ∃ i, P.info? e = some i ∧ i.zero = some (.int k z) ∧ i.size = 1) (h63 : n ≤ 9223372036854775807) :
  AppSrc P t tx ty e 1 (.int kq n) n ((List.replicate n z).map (Value.int k)) W := by
 obtain ⟨i0, hi0, hz0, hs0⟩ := hz
 have hw : IntKind.i64.wrap (n : Int) = n := by rw [IntKind.wrap_i64]; omega
 have hneg : ¬ ((n : Int) < 0) := by omega
 have hcs : (Value.int k z).cells = #[.int k z] := rfl
 refine ⟨by simp, fun h0 i hu hi hw1 a len cap hle => ?_, fun i hu hi hw1 b off sLen sCap hr hb hc hf => ?_, fun i z' hu hi hz hw1 base sLen sCap olds hold hg h63' hb hfit => ?_⟩
 ·subst h0
  have h00 : IntKind.i64.wrap 0 = 0 := by decide
  cases a <;> simp [Builtin.append_, run_underlying hu, run_underlying hx, sizeOf, typeInfo, hi, asInt, asIntOf, h00, hle, storeCells]
 ·have hi' : i = i0 := Option.some.inj (hi.symm.trans hi0)
  subst hi'
  have hst := run_storeCells_cells (P := P) b (off + sLen * 1) ((List.replicate n z).map (Value.int k)) 0 W (by simpa using hc) (by simpa using hf) (fun u hu => by
   obtain ⟨m, _, rfl⟩ := List.mem_map.1 hu; rfl)
  simp only [Nat.add_zero] at hst
  have h48i : ¬ (281474976710656 < (n : Int) * (i.bytes : Int)) := by
   rw [← Int.natCast_mul]; omega
  have hmr : (List.replicate n z).map (Value.int k) = List.replicate n (Value.int k z) := by simp
  by_cases h0 : n = 0
  ·subst h0
   have h00 : IntKind.i64.wrap 0 = 0 := by decide
   simp [Builtin.append_, run_underlying hu, run_underlying hx, sizeOf, typeInfo, hi, asInt, asIntOf, h00, hs0] at *
   simp [hr, storeCells, World.setCells]
  ·have hns : ¬ (n * 1 = 0) := by omega
   simp [Builtin.append_, run_underlying hu, run_underlying hx, sizeOf, typeInfo, zeroValue, hi, hz0, hs0, asInt, asIntOf, hw, hneg, h48i, h0, hr, Addr.add_lit, hcs, zeroCells_one] at *
   rw [hst]
   rfl
 ·have hi' : i = i0 := Option.some.inj (hi.symm.trans hi0)
  subst hi'
  have hzz : z' = .int k z := Option.some.inj (hz.symm.trans hz0)
  subst hzz
  rcases Nat.eq_zero_or_pos n with h0 | h0
  ·subst h0
   have h00 : IntKind.i64.wrap 0 = 0 := by decide
   have hn : ¬ (sLen ≤ sCap) := by omega
   have h63'' : ¬ (9223372036854775807 < (sLen : Int)) := by omega
   have h48' : ¬ (281474976710656 < Builtin.nextslicecap sLen sCap * i.bytes) := by simp at hfit; omega
   rw [hs0] at hold
   simp [Builtin.append_, run_underlying hu, run_underlying hx, sizeOf, typeInfo, zeroValue, hi, hz0, hs0, asInt, asIntOf, h00, hn, h63'', h48', Question.forced, hold, newRow, grownCap, hcs, zeroCells_one]
  ·rw [Go.Lib.run_append_grow_zeros W t tx ty e i _ kq kn hu hx hi hz0 base sLen sCap olds hold n h0 (by omega) hg h63' hb hfit]
   congr 2
   congr 1
   simp only [hcs, zeroCells_one]
   apply Array.ext'
   simp [List.append_assoc, List.replicate_append_replicate]
def Env.empty (E : Env) (blk : Blk) : Env := { E with loc := fun i => if i = E.bl.length then (0, 0, 0) else E.loc i, bl := E.bl ++ [some blk] }
theorem Go.empty {E : Env} (m : Mem E) (blk : Blk) (hf : FitB blk) (hl : flatB blk = []) (hmp : isMp blk = false := by rfl) : Go E (E.empty blk) := by
 have hloc : ∀ i, i < E.bl.length → (E.empty blk).loc i = E.loc i := fun i hi => by simp [Env.empty, Nat.ne_of_lt hi]
 have hlocn : (E.empty blk).loc E.bl.length = (0, 0, 0) := by simp [Env.empty]
 have hget : ∀ i bi, bget (E.empty blk).bl i = some bi → (i < E.bl.length ∧ bget E.bl i = some bi) ∨ (i = E.bl.length ∧ bi = blk) := fun i bi h => by
  rcases bget_append_lt h with h | ⟨h1, h2⟩
  ·exact .inl h
  ·cases h2; exact .inr ⟨h1, rfl⟩
 have hext : ∀ i bi, bget (E.empty blk).bl i = some bi → ∀ b o, InExt (E.empty blk) i b o → bget E.bl i = some bi ∧ InExt E i b o := fun i bi h b o hx => by
  rcases hget i bi h with ⟨h1, h2⟩ | ⟨h1, _⟩
  ·unfold InExt at hx ⊢; rw [hloc i h1] at hx; exact ⟨h2, hx⟩
  ·subst h1; unfold InExt at hx; rw [hlocn] at hx; simp at hx
 have hown : ∀ b o, Own (E.empty blk) b o → Own E b o := fun b o ⟨i, bi, h, hx⟩ => ⟨i, bi, hext i bi h b o hx⟩
 have fr : Fr E (E.empty blk) := ⟨rfl, rfl, rfl, Nat.le_refl _, fun _ _ _ _ => rfl, fun _ _ _ => rfl, fun _ _ _ _ => rfl, fun b o h => .inl (hown b o h), fun _ _ h => .inl h, fun _ _ h => h⟩
 have st : Step E (E.empty blk) := .of_fr m fr (by simp [Env.empty]) fun i hi bi h => by
  rcases hget i bi h with ⟨h1, h2⟩ | ⟨h1, _⟩
  ·exact ⟨bi, h2, hloc i h1, fun _ _ h => h, fun _ _ h => h⟩
  ·omega
 refine ⟨st, fr, ⟨fun i bi h => ?_, fun i j bi bj hij hi hj b o hx hy => ?_, m.roe, fun b o ho => m.rod b o (hown b o ho)⟩⟩
 ·rcases hget i bi h with ⟨h1, h2⟩ | ⟨h1, h2⟩
  ·have k := m.ok i bi h2
   refine ⟨k.fit, by rw [hloc i h1]; exact k.len, fun j x hx => ?_, fun hm j hj => ?_, fun l hl => by rw [hloc i h1]; exact ⟨(k.mp l hl).1, (k.mp l hl).2.mono st rfl⟩⟩
   ·rw [hloc i h1]
    obtain ⟨v, g1, g2⟩ := k.cells j x hx
    exact ⟨v, g1, g2.mono st⟩
   ·rw [hloc i h1] at hj ⊢; exact k.room hm j hj
  ·subst h1; subst h2
   refine ⟨hf, by rw [hl, hlocn]; simp, fun j x hx => by rw [hl] at hx; simp at hx, fun _ j hj => by rw [hlocn] at hj; simp at hj, fun l hl => by rw [hl] at hmp; cases hmp⟩
 ·obtain ⟨h1, h2⟩ := hext i bi hi b o hx
  obtain ⟨k1, k2⟩ := hext j bj hj b o hy
  exact m.dis i j bi bj hij h1 k1 b o h2 k2
theorem cap_bound {need old bytes : Nat} (h : old < need) (hb : need * bytes ≤ 70368744177664) : Builtin.nextslicecap need old * bytes ≤ 281474976710656 := by
 have h1 := Nat.mul_le_mul_right bytes (nextslicecap_le need old h)
 rw [Nat.mul_assoc] at h1
 omega
theorem app_nil {E : Env} {t tx ty e w n : Nat} {v : Value} {news : List Value} {blk : Blk} (m : Mem E) (hu : C.P.underlying t = some (.slice e)) (hs : szOK C.P e w = true)
  (src : AppSrc C.P t tx ty e w v n news E.w) (hb : n * bytesQ C.P e ≤ 70368744177664) (h63 : n ≤ 9223372036854775807) (hf : FitB blk) (hr : rowB blk [] = some (0, w, n)) (hl : (flatB blk).length = n * w)
  (h : ∀ (j : Nat) x c, (flatB blk)[j]? = some x → news[j]? = some c → VR E true x c) :
  Out E C.P .write (.own E.bl.length w) (E.bl ++ [some blk]) (Builtin.append_ #[t, tx] ty #[.slice none 0 0, v]) := by
 obtain ⟨i, z, hi, hz, hiz, hby, hzc⟩ := szOK_zero hs
 subst hiz
 rcases Nat.eq_zero_or_pos n with h0 | h0
 ·subst h0
  have hnil : news = [] := List.length_eq_zero_iff.1 (by rw [src.newsLen]; simp)
  subst hnil
  have run := src.nothing rfl i hu hi rfl none 0 0 (Nat.le_refl _)
  have hfl : flatB blk = [] := List.length_eq_zero_iff.1 (by rw [hl]; simp)
  refine ⟨_, E.empty blk, run, rfl, Go.empty m blk hf hfl (rowB_nomp hr), ?_⟩
  have hbn : bget (E.empty blk).bl E.bl.length = some blk := bget_new
  refine .own _ _ _ _ _ (bget_lt hbn) (Nat.le_refl _) fun b hb => ?_
  rw [hbn] at hb; cases hb
  exact ⟨hr, by simp, .inl rfl⟩
 ·have hold : (Builtin.firstCells i.size 0 (.slice none 0 0)).run C.P E.w.drew = .ok ([] : List Value).toArray E.w.drew := rfl
  have run := src.grow i z hu hi hz rfl none 0 0 [] hold (by omega) (by omega) (by rw [← hby]; omega) (by rw [← hby]; exact cap_bound (by omega) (by simpa using hb))
  simp only [Nat.zero_add, List.nil_append] at run
  generalize hg : grownCap E.w n 0 e = g at run
  have hgle : n ≤ g := by rw [← hg]; exact grownCap_ge _ _ _ _
  have go1 := Go.drew m
  have hle : n * i.size ≤ g * i.size := Nat.mul_le_mul_right _ hgle
  have hsz : (news.toArray ++ Builtin.zeroCells z.cells (g - n)).size = g * i.size := by
   simp only [Array.size_append, List.size_toArray, size_zeroCells, src.newsLen, hzc]
   rw [← Nat.add_mul]; congr 1; omega
  have go2 := Go.new go1.mem (news.toArray ++ Builtin.zeroCells z.cells (g - n)) e (g * i.size) blk (0, 0) (fun j _ => by simp) hf (by rw [hl]; exact hle) (by rw [hsz]; exact Nat.le_refl _) (fun j x c hx hc => by
   have hj := (List.getElem?_eq_some_iff.1 hx).1
   rw [hl] at hj
   rw [Array.getElem?_append_left (by simp [src.newsLen]; exact hj)] at hc
   exact (h j x c hx (by simpa using hc)).mono go1.step) (rowB_nomp hr)
  exact ⟨_, _, run, rfl, go1.trans go2, vr_own_new hr hgle (Nat.le_refl _)⟩
theorem put_cell_in {E : Env} {id q : Nat} {vs : List Value} {blk : Blk} (h : ∀ j, j < vs.length → (E.cell (E.loc id).1 ((E.loc id).2.1 + q + j)).isSome = true) (j : Nat) (c : Value) (hc : vs[j]? = some c) :
  (E.put id q vs blk).cell (E.loc id).1 ((E.loc id).2.1 + q + j) = some c := by
 obtain ⟨hj, rfl⟩ := List.getElem?_eq_some_iff.1 hc
 exact World.cell?_setCells_in _ vs _ E.w h j hj
theorem VR.own_slice {E : Env} {id w len cap : Nat} {a : Option Addr} (h : VR E true (.own id w) (.slice a len cap)) : id < E.bl.length ∧ len ≤ cap ∧
  ∀ blk, bget E.bl id = some blk → rowB blk [] = some (0, w, len) ∧ cap * w ≤ (E.loc id).2.2 ∧ (cap = 0 ∨ a = some ⟨(E.loc id).1, (E.loc id).2.1, none⟩) := by
 cases h with
 | own _ _ _ _ _ hid hc hh => exact ⟨hid, hc, hh⟩
theorem app_own {E : Env} {t tx ty e w n id len cap : Nat} {a : Option Addr} {v : Value} {news olds : List Value} {blk blk' : Blk} (m : Mem E) (hu : C.P.underlying t = some (.slice e)) (hs : szOK C.P e w = true)
  (hown : VR E true (.own id w) (.slice a len cap)) (hbk : bget E.bl id = some blk) (hr0 : rowB blk [] = some (0, w, len)) (hl0 : (flatB blk).length = len * w)
  (hold : ∀ W : World, (∀ x, W.cell? x = E.w.cell? x) → (Builtin.firstCells w len (.slice a len cap)).run C.P W = .ok olds.toArray W) (holdl : olds.length = len * w)
  (holdr : ∀ (j : Nat) x c, (flatB blk)[j]? = some x → olds[j]? = some c → VR E true x c)
  (src : AppSrc C.P t tx ty e w v n news E.w) (hb : (len + n) * bytesQ C.P e ≤ 70368744177664) (h63 : len + n ≤ 9223372036854775807) (hf : FitB blk') (hr : rowB blk' [] = some (0, w, len + n)) (hl : (flatB blk').length = (len + n) * w)
  (h1 : ∀ (j : Nat) x, (flatB blk')[j]? = some x → j < len * w → (flatB blk)[j]? = some x)
  (h2 : ∀ (j : Nat) x c, (flatB blk')[j]? = some x → len * w ≤ j → news[j - len * w]? = some c → VR E true x c) :
  Out E C.P .write (.own E.bl.length w) (E.bl.set id none ++ [some blk']) (Builtin.append_ #[t, tx] ty #[.slice a len cap, v]) := by
 obtain ⟨i, z, hi, hz, hiz, hby, hzc⟩ := szOK_zero hs
 subst hiz
 have hid := bget_lt hbk
 cases hown.own_slice with
 | intro _ hch =>
  obtain ⟨hc, hh⟩ := hch
  obtain ⟨_, hext, hadr⟩ := hh blk hbk
  have hnl := src.newsLen
  rcases Nat.lt_or_ge cap (len + n) with hg | hg
  · -- a new row
   have hbn : n * i.bytes ≤ 281474976710656 := by
    rw [← hby]; rw [Nat.add_mul] at hb; omega
   have run := src.grow i z hu hi hz rfl a len cap olds (hold _ fun _ => rfl) hg (by omega) hbn (by rw [← hby]; exact cap_bound hg hb)
   generalize hgc : grownCap E.w (len + n) cap e = g at run
   have hgle : len + n ≤ g := by rw [← hgc]; exact grownCap_ge _ _ _ _
   have go1 := Go.drew m
   have hle : (len + n) * i.size ≤ g * i.size := Nat.mul_le_mul_right _ hgle
   have hsz : ((olds ++ news).toArray ++ Builtin.zeroCells z.cells (g - (len + n))).size = g * i.size := by
    simp only [Array.size_append, List.size_toArray, size_zeroCells, List.length_append, hnl, hzc, holdl]
    rw [← Nat.add_mul, ← Nat.add_mul]; congr 1; omega
   have go2 := Go.new go1.mem ((olds ++ news).toArray ++ Builtin.zeroCells z.cells (g - (len + n))) e (g * i.size) blk' (0, 0) (fun j _ => by simp) hf (by rw [hl]; exact hle) (by rw [hsz]; exact Nat.le_refl _) (fun j x c hx hc => by
    have hj := (List.getElem?_eq_some_iff.1 hx).1
    rw [hl, Nat.add_mul] at hj
    rw [Array.getElem?_append_left (by simp [hnl, holdl]; exact hj)] at hc
    have hc' : (olds ++ news)[j]? = some c := by simpa using hc
    rcases Nat.lt_or_ge j (len * i.size) with hlt | hge
    ·rw [List.getElem?_append_left (by omega)] at hc'
     exact (holdr j x c (h1 j x hx hlt) hc').mono go1.step
    ·rw [List.getElem?_append_right (by omega), holdl] at hc'
     exact (h2 j x c hx hge hc').mono go1.step) (rowB_nomp hr)
   have go3 := Go.kill go2.mem id
   refine ⟨_, _, run, ?_, (go1.trans go2).trans go3, (vr_own_new hr hgle (Nat.le_refl _)).mono go3.step⟩
   show (E.bl ++ [some blk']).set id none = _
   rw [List.set_append_left _ _ hid]
   rfl
  ·rcases Nat.eq_zero_or_pos cap with h0 | h0
   · -- nothing at all
    have hn0 : n = 0 := by omega
    have hl00 : len = 0 := by omega
    subst hn0; subst hl00; subst h0
    have hnil : news = [] := List.length_eq_zero_iff.1 (by rw [hnl]; simp)
    subst hnil
    have run := src.nothing rfl i hu hi rfl a 0 0 (Nat.le_refl _)
    have hfl : flatB blk' = [] := List.length_eq_zero_iff.1 (by rw [hl]; simp)
    have go := Go.move m id blk blk' hbk hf (by rw [hfl]; simp) (fun j x hx => by rw [hfl] at hx; simp at hx) (rowB_nomp hr0) (rowB_nomp hr)
    refine ⟨_, E.move id blk', run, rfl, go, ?_⟩
    have hbn : bget (E.move id blk').bl E.bl.length = some blk' := by
     show bget (E.bl.set id none ++ [some blk']) E.bl.length = _
     have : E.bl.length = (E.bl.set id none).length := by simp
     rw [this]; exact bget_new
    refine .own _ _ _ _ _ (bget_lt hbn) (Nat.le_refl _) fun b hb => ?_
    rw [hbn] at hb; cases hb
    exact ⟨hr, by simp, .inl rfl⟩
   ·rcases hadr with h | rfl
    ·omega
    have ok := m.ok id blk hbk
    have hle : (len + n) * i.size ≤ cap * i.size := Nat.mul_le_mul_right _ hg
    have hroomc : ∀ j, j < news.length → (E.cell (E.loc id).1 ((E.loc id).2.1 + len * i.size + j)).isSome = true ∧ E.w.frozen? ⟨(E.loc id).1, (E.loc id).2.1 + len * i.size + j, none⟩ = false := fun j hj => by
     have := ok.room (rowB_nomp hr0) (len * i.size + j) (by rw [Nat.add_mul] at hle; omega)
     rw [← Nat.add_assoc] at this
     exact this
    have hbn : n * i.bytes ≤ 281474976710656 := by
     rw [← hby]; rw [Nat.add_mul] at hb; omega
    have run := src.room i hu hi rfl (E.loc id).1 (E.loc id).2.1 len cap hg hbn (fun j hj => (hroomc j hj).1) (fun j hj => (hroomc j hj).2)
    have go1 := Go.put m id (len * i.size) news blk blk hbk (by rw [hnl]; rw [Nat.add_mul] at hle; omega) ok.fit ok.len (fun j x hx hj1 hj2 => by
     have := (List.getElem?_eq_some_iff.1 hx).1; omega) (fun j x hx _ => hx) (fun _ _ h => h) (fun _ _ h => h) (rowB_nomp hr0)
    have hbl1 : bget (E.put id (len * i.size) news blk).bl id = some blk := bget_set_self hid
    have ok1 := go1.mem.ok id blk hbl1
    have go2 := Go.move go1.mem id blk blk' hbl1 hf (by rw [hl]; show _ ≤ (E.loc id).2.2; omega) (fun j x hx => by
     have hj := (List.getElem?_eq_some_iff.1 hx).1
     rw [hl, Nat.add_mul] at hj
     rcases Nat.lt_or_ge j (len * i.size) with hlt | hge
     ·exact ok1.cells j x (h1 j x hx hlt)
     ·have hjn : j - len * i.size < news.length := by omega
      refine ⟨news[j - len * i.size], ?_, (h2 j x _ hx hge (List.getElem?_eq_getElem hjn)).mono go1.step⟩
      have := put_cell_in (blk := blk) (fun j hj => (hroomc j hj).1) (j - len * i.size) _ (List.getElem?_eq_getElem hjn)
      rw [show (E.loc id).2.1 + len * i.size + (j - len * i.size) = (E.loc id).2.1 + j from by omega] at this
      exact this) (rowB_nomp hr0) (rowB_nomp hr)
    refine ⟨_, (E.put id (len * i.size) news blk).move id blk', run, ?_, go1.trans go2, ?_⟩
    ·show (E.bl.set id (some blk)).set id none ++ _ = _
     rw [List.set_set]
     rfl
    ·have hlen' : (E.put id (len * i.size) news blk).bl.length = E.bl.length := by simp [Env.put]
     have hbn : bget ((E.put id (len * i.size) news blk).move id blk').bl E.bl.length = some blk' := by
      show bget ((E.bl.set id (some blk)).set id none ++ [some blk']) E.bl.length = _
      have : E.bl.length = ((E.bl.set id (some blk)).set id none).length := by simp
      rw [this]; exact bget_new
     refine .own _ _ _ _ _ (bget_lt hbn) hg fun b hb => ?_
     rw [hbn] at hb; cases hb
     have hl2 : ((E.put id (len * i.size) news blk).move id blk').loc E.bl.length = E.loc id := by
      show (if E.bl.length = (E.put id (len * i.size) news blk).bl.length then _ else _) = _
      rw [hlen', if_pos rfl]
      rfl
     rw [hl2]
     exact ⟨hr, hext, .inr rfl⟩
end
end Go.Abs
end
section
set_option linter.unusedVariables false
set_option linter.unusedSimpArgs false
namespace Go.Abs
open Go
section
variable {R : Type} {C : Ctx}
theorem appendNilK_sound {e : TypeId} {x : AV} {bl : Blks} {K : Kont R} {r : R} (h : appendNilK C e x bl K = some r) :
  ∃ v bl', KS (R := R) (appendNilK C e x) bl .write v bl' ∧ ∀ t tx, C.P.underlying t = some (.slice e) → SrcTy C.P tx → ∀ E, E.bl = bl → Mem E → ∀ x' ty, VR E true x x' → Out E C.P .write v bl' (Builtin.append_ #[t, tx] ty #[.slice none 0 0, x']) := by
 unfold appendNilK at h
 split at h <;> (try (cases h; done))
 ·rename_i k l hel
  split at h <;> (try (cases h; done))
  rename_i hc
  split at h <;> (try (cases h; done))
  rename_i hb
  refine ⟨.own bl.length 1, bl ++ [some (.ints k l)], .ofWrite fun K => by simp only [appendNilK, hel, if_pos hc, if_pos hb], fun t tx hu ht E hE m x' ty hx => ?_⟩
  subst hE
  simp only [Bool.and_eq_true, decide_eq_true_eq] at hc
  have src := AppSrc.ofSrc (t := t) (ty := ty) (e := e) (src_ints ht (elsOf_ints hel (.inl rfl) m hx))
  exact app_nil m hu hc.2 src hb.1 hb.2 trivial (by simp [rowB]) (by simp [flatB]) fun j x c hx hc => by
   simp only [flatB, List.getElem?_map] at hx hc
   cases hl : l[j]? with
   | none => simp [hl] at hx
   | some n => simp [hl] at hx hc; subst hx; subst hc; exact .int _ _ _
 ·rename_i e' w l hel
  split at h <;> (try (cases h; done))
  rename_i hc
  split at h <;> (try (cases h; done))
  rename_i hb
  refine ⟨.own bl.length w, bl ++ [some (.objs e w l)], .ofWrite fun K => by simp only [appendNilK, hel, if_pos hc, if_pos hb], fun t tx hu ht E hE m x' ty hx => ?_⟩
  subst hE
  simp only [Bool.and_eq_true, beq_iff_eq] at hc
  obtain ⟨cs, oa⟩ := elsOf_objs hel (.inl rfl) m hx
  have src := AppSrc.ofSrc (t := t) (ty := ty) (e := e) (src_objs ht oa)
  exact app_nil m hu hc.2 src hb.1 hb.2 oa.fit (by simp [rowB]) (by simp only [flatB]; exact objs_flat_length oa.fit) fun j x c hx hc => (oa.vr j x c hx hc).lift
theorem appendOwnK_sound {e id w : Nat} {x : AV} {bl : Blks} {K : Kont R} {r : R} (h : appendOwnK C e id w x bl K = some r) :
  ∃ v bl', KS (R := R) (appendOwnK C e id w x) bl .write v bl' ∧ ∀ t tx, C.P.underlying t = some (.slice e) → SrcTy C.P tx → ∀ E, E.bl = bl → Mem E → ∀ s' x' ty, VR E true (.own id w) s' → VR E true x x' → Out E C.P .write v bl' (Builtin.append_ #[t, tx] ty #[s', x']) := by
 unfold appendOwnK at h
 split at h <;> (try (cases h; done))
 ·rename_i k r0 k' l hel hbk
  split at h <;> (try (cases h; done))
  rename_i hc
  split at h <;> (try (cases h; done))
  rename_i hb
  refine ⟨.own bl.length 1, bl.set id none ++ [some (.ints k (l ++ r0))], .ofWrite fun K => by simp only [appendOwnK, hel, hbk, if_pos hc, if_pos hb], fun t tx hu ht E hE m s' x' ty hs hx => ?_⟩
  subst hE
  simp only [Bool.and_eq_true, decide_eq_true_eq, beq_iff_eq] at hc
  obtain ⟨⟨⟨hk, rfl⟩, hsz⟩, rfl⟩ := hc
  have src := AppSrc.ofSrc (t := t) (ty := ty) (e := e) (src_ints ht (elsOf_ints hel (.inl rfl) m hx))
  have hself : IntsAt E k l s' := elsOf_ints (bl := E.bl) (x := .own id 1) (by simp [elsOf, hbk]) (.inl rfl) m hs
  cases hs with
  | own _ _ len a cap hid hcap hh =>
   obtain ⟨g1, g2, g3⟩ := hh _ hbk
   have g1' := g1
   simp [rowB] at g1
   subst g1
   exact app_own (blk := .ints k l) (olds := l.map (Value.int k)) m hu hsz (.own _ _ _ _ _ hid hcap hh) hbk (by simp [rowB]) (by simp [flatB]) (fun W hW => by
     have := hself.cells C.P W hW l.length (Nat.le_refl _); rwa [List.take_length] at this) (by simp)
    (fun j x c hx hc => by
     simp only [flatB, List.getElem?_map] at hx hc
     cases hl : l[j]? with
     | none => simp [hl] at hx
     | some n => simp [hl] at hx hc; subst hx; subst hc; exact .int _ _ _)
    src hb.1 hb.2 trivial (by simp [rowB]) (by simp [flatB])
    (fun j x hx hj => by
     simp only [flatB, List.map_append] at hx ⊢
     rwa [List.getElem?_append_left (by simp; omega)] at hx)
    (fun j x c hx hj hc => by
     simp only [flatB, List.map_append] at hx
     rw [List.getElem?_append_right (by simp; omega), List.length_map, List.getElem?_map] at hx
     rw [Nat.mul_one, List.getElem?_map] at hc
     cases hl : r0[j - l.length]? with
     | none => simp [hl] at hx
     | some n => simp [hl] at hx hc; subst hx; subst hc; exact .int _ _ _)
 ·rename_i e1 w1 r0 e2 w2 l hel hbk
  split at h <;> (try (cases h; done))
  rename_i hc
  split at h <;> (try (cases h; done))
  rename_i hb
  refine ⟨.own bl.length w, bl.set id none ++ [some (.objs e w (l ++ r0))], .ofWrite fun K => by simp only [appendOwnK, hel, hbk, if_pos hc, if_pos hb], fun t tx hu ht E hE m s' x' ty hs hx => ?_⟩
  subst hE
  simp only [Bool.and_eq_true, beq_iff_eq] at hc
  obtain ⟨⟨⟨⟨rfl, rfl⟩, rfl⟩, rfl⟩, hsz⟩ := hc
  obtain ⟨cs, oa⟩ := elsOf_objs hel (.inl rfl) m hx
  have src := AppSrc.ofSrc (t := t) (ty := ty) (e := e2) (src_objs ht oa)
  obtain ⟨os, ob⟩ := elsOf_objs (bl := E.bl) (x := .own id w2) (e := e2) (w := w2) (l := l) (by simp [elsOf, hbk]) (.inl rfl) m hs
  cases hs with
  | mown _ r hid hh => have g := (hh _ hbk).1; simp [rowB] at g
  | own _ _ len a cap hid hcap hh =>
   obtain ⟨g1, g2, g3⟩ := hh _ hbk
   simp [rowB] at g1
   subst g1
   have hfl := objs_flat_length ob.fit
   have hfr := objs_flat_length oa.fit
   have hall : ∀ x ∈ l ++ r0, (Fit x ∧ width x = w2) ∧ noOwn x = true ∧ solid x = true := fun x hx => by
    rcases List.mem_append.1 hx with hx | hx
    ·exact ob.fit x hx
    ·exact oa.fit x hx
   exact app_own (blk := .objs e2 w2 l) (olds := os) m hu hsz (.own _ _ _ _ _ hid hcap hh) hbk (by simp [rowB]) (by simp only [flatB]; exact hfl) (fun W hW => ob.cells C.P W hW) ob.size
    (fun j x c hx hc => (ob.vr j x c hx hc).lift)
    src hb.1 hb.2 hall (by simp [rowB]) (by simp only [flatB]; rw [objs_flat_length hall, List.length_append])
    (fun j x hx hj => by
     simp only [flatB, flats_append] at hx ⊢
     rwa [List.getElem?_append_left (by omega)] at hx)
    (fun j x c hx hj hc => by
     simp only [flatB, flats_append] at hx
     rw [List.getElem?_append_right (by omega), hfl] at hx
     exact (oa.vr _ x c hx hc).lift)
theorem appendNilK_src {e : TypeId} {k : IntKind} {l : List Int} {bl : Blks} {K : Kont R} {r : R} (h : appendNilK C e (.rints k l) bl K = some r) :
  ∃ v bl', KS (R := R) (appendNilK C e (.rints k l)) bl .write v bl' ∧ szOK C.P e 1 = true ∧ l.length ≤ 9223372036854775807 ∧ ∀ t tx ty, C.P.underlying t = some (.slice e) → ∀ E, E.bl = bl → Mem E → ∀ x',
   AppSrc C.P t tx ty e 1 x' l.length (l.map (Value.int k)) E.w → Out E C.P .write v bl' (Builtin.append_ #[t, tx] ty #[.slice none 0 0, x']) := by
 have hel : elsOf bl (.rints k l) = some (.ints k l) := rfl
 unfold appendNilK at h
 simp only [hel] at h
 split at h <;> (try (cases h; done))
 rename_i hc
 split at h <;> (try (cases h; done))
 rename_i hb
 have hc' := hc
 simp only [Bool.and_eq_true, decide_eq_true_eq] at hc
 refine ⟨.own bl.length 1, bl ++ [some (.ints k l)], .ofWrite fun K => by simp only [appendNilK, hel, if_pos hc', if_pos hb], hc.2, hb.2, fun t tx ty hu E hE m x' src => ?_⟩
 subst hE
 exact app_nil m hu hc.2 src hb.1 hb.2 trivial (by simp [rowB]) (by simp [flatB]) fun j x c hx hc => by
  simp only [flatB, List.getElem?_map] at hx hc
  cases hl : l[j]? with
  | none => simp [hl] at hx
  | some n => simp [hl] at hx hc; subst hx; subst hc; exact .int _ _ _
theorem appendOwnK_src {e id w : Nat} {k : IntKind} {r0 : List Int} {bl : Blks} {K : Kont R} {r : R} (h : appendOwnK C e id w (.rints k r0) bl K = some r) :
  ∃ v bl', KS (R := R) (appendOwnK C e id w (.rints k r0)) bl .write v bl' ∧ szOK C.P e 1 = true ∧ r0.length ≤ 9223372036854775807 ∧ ∀ t tx ty, C.P.underlying t = some (.slice e) → ∀ E, E.bl = bl → Mem E → ∀ s' x', VR E true (.own id w) s' →
   AppSrc C.P t tx ty e 1 x' r0.length (r0.map (Value.int k)) E.w → Out E C.P .write v bl' (Builtin.append_ #[t, tx] ty #[s', x']) := by
 have hel : elsOf bl (.rints k r0) = some (.ints k r0) := rfl
 unfold appendOwnK at h
 rw [hel] at h
 split at h <;> (try (cases h; done))
 ·rename_i k0 r1 k' l hel2 hbk
  cases hel2
  split at h <;> (try (cases h; done))
  rename_i hc
  split at h <;> (try (cases h; done))
  rename_i hb
  have hc' := hc
  simp only [Bool.and_eq_true, decide_eq_true_eq, beq_iff_eq] at hc
  obtain ⟨⟨⟨hk, rfl⟩, hsz⟩, rfl⟩ := hc
  refine ⟨.own bl.length 1, bl.set id none ++ [some (.ints k (l ++ r0))], .ofWrite fun K => by simp only [appendOwnK, hel, hbk]; rw [if_pos (by simp [hk, hsz]), if_pos hb], hsz, by omega, fun t tx ty hu E hE m s' x' hs src => ?_⟩
  subst hE
  have hself : IntsAt E k l s' := elsOf_ints (bl := E.bl) (x := .own id 1) (by simp [elsOf, hbk]) (.inl rfl) m hs
  cases hs with
  | own _ _ len a cap hid hcap hh =>
   obtain ⟨g1, g2, g3⟩ := hh _ hbk
   have g1' := g1
   simp [rowB] at g1
   subst g1
   exact app_own (blk := .ints k l) (olds := l.map (Value.int k)) m hu hsz (.own _ _ _ _ _ hid hcap hh) hbk (by simp [rowB]) (by simp [flatB]) (fun W hW => by
     have := hself.cells C.P W hW l.length (Nat.le_refl _); rwa [List.take_length] at this) (by simp)
    (fun j x c hx hc => by
     simp only [flatB, List.getElem?_map] at hx hc
     cases hl : l[j]? with
     | none => simp [hl] at hx
     | some n => simp [hl] at hx hc; subst hx; subst hc; exact .int _ _ _)
    src hb.1 hb.2 trivial (by simp [rowB]) (by simp [flatB])
    (fun j x hx hj => by
     simp only [flatB, List.map_append] at hx ⊢
     rwa [List.getElem?_append_left (by simp; omega)] at hx)
    (fun j x c hx hj hc => by
     simp only [flatB, List.map_append] at hx
     rw [List.getElem?_append_right (by simp; omega), List.length_map, List.getElem?_map] at hx
     rw [Nat.mul_one, List.getElem?_map] at hc
     cases hl : r0[j - l.length]? with
     | none => simp [hl] at hx
     | some n => simp [hl] at hx hc; subst hx; subst hc; exact .int _ _ _)
 ·rename_i hel2 _
  cases hel2
theorem appendZK_sound {e : TypeId} {s : AV} {n : Int} {bl : Blks} {K : Kont R} {r : R} (h : appendZK C e s n bl K = some r) :
  ∃ v bl', KS (R := R) (appendZK C e s n) bl .write v bl' ∧ ∀ t tx kn, C.P.underlying t = some (.slice e) → C.P.underlying tx = some (.int kn) → ∀ E, E.bl = bl → Mem E → ∀ s' ty, VR E true s s' →
   Out E C.P .write v bl' (Builtin.append_ #[t, tx] ty #[s', .int .i64 n]) := by
 unfold appendZK at h
 split at h <;> (try (cases h; done))
 rename_i h0
 split at h <;> (try (cases h; done))
 rename_i k z hz
 have zero : szOK C.P e 1 = true → ∃ i, C.P.info? e = some i ∧ i.zero = some (.int k z) ∧ i.size = 1 := fun hs => by
  obtain ⟨i, v, h1, h2, _, h4, _⟩ := zeroOf_sound hz
  obtain ⟨i2, z2, g1, g2, g3, _⟩ := szOK_zero hs
  obtain rfl : i = i2 := Option.some.inj (h1.symm.trans g1)
  have hv : v = .int k z := by
   have := h4 ⟨default, fun _ _ => True, fun _ => (0, 0, 0), []⟩ false
   cases this; rfl
  exact ⟨i, h1, by rw [h2, hv], g3⟩
 have hn : n = ((n.toNat : Nat) : Int) := by omega
 split at h <;> (try (cases h; done))
 ·obtain ⟨v, bl', h1, hsz, h63, h2⟩ := appendNilK_src h
  rw [List.length_replicate] at h63
  refine ⟨v, bl', ⟨fun K => by have := h1.det K; simp only [appendZK, if_pos h0, hz]; exact this, fun h => (by cases h), fun h => (by cases h)⟩, fun t tx kn hu hx E hE m s' ty hs => ?_⟩
  cases hs
  rw [hn]
  exact h2 t tx ty hu E hE m _ (by rw [List.length_replicate]; exact AppSrc.ofZeros hx (zero hsz) h63)
 ·rename_i id w
  obtain ⟨v, bl', h1, hsz, h63, h2⟩ := appendOwnK_src h
  rw [List.length_replicate] at h63
  refine ⟨v, bl', ⟨fun K => by have := h1.det K; simp only [appendZK, if_pos h0, hz]; exact this, fun h => (by cases h), fun h => (by cases h)⟩, fun t tx kn hu hx E hE m s' ty hs => ?_⟩
  rw [hn]
  exact h2 t tx ty hu E hE m _ _ hs (by rw [List.length_replicate]; exact AppSrc.ofZeros hx (zero hsz) h63)
theorem appendK_sound {t tx : TypeId} {s x : AV} {bl : Blks} {K : Kont R} {r : R} (h : appendK C t tx s x bl K = some r) :
  ∃ cat v bl', KS (R := R) (appendK C t tx s x) bl cat v bl' ∧ ∀ E, (E.bl = bl ∨ cat = .pure) → Mem E → ∀ s' x' ty, VR E true s s' → VR E true x x' → Out E C.P cat v bl' (Builtin.append_ #[t, tx] ty #[s', x']) := by
 unfold appendK at h
 split at h <;> (try (cases h; done))
 rename_i e hu
 split at h
 case isFalse htx =>
  split at h <;> (try (cases h; done))
  rename_i kn n hx
  obtain ⟨v, bl', h1, h2⟩ := appendZK_sound h
  refine ⟨.write, v, bl', ⟨fun K => ?_, fun h => (by cases h), fun h => (by cases h)⟩, fun E hE m s' x' ty hsv hxv => ?_⟩
  ·have := h1.det K
   unfold appendK
   simp only [hu, if_neg htx, hx]
   exact this
  ·rcases hE with rfl | hE
   ·cases hxv
    exact h2 t tx kn hu hx E rfl m s' ty hsv
   ·cases hE
 rename_i htx
 have ht := srcTy_of htx
 have nothing : ∀ {E : Env} {w : Nat}, szOK C.P e w = true → ∀ a len cap ty, len ≤ cap → (Builtin.append_ #[t, tx] ty #[.slice a len cap, .slice none 0 0]).run C.P E.w = .ok (.slice a len cap) E.w := fun {E w} hs a len cap ty hle => by
  obtain ⟨i, z, hi, _⟩ := szOK_zero hs
  exact run_append_nothing E.w t tx ty e i hu hi a len cap hle _ ⟨ht, fun _ => rfl, rfl, rfl, by simp, fun u hu => by cases hu⟩
 split at h <;> (try (cases h; done))
 ·split at h
  ·split at h <;> (try (cases h; done))
   rename_i hs
   refine ⟨.pure, .snil, bl, .ofPure fun bl K => by simp only [appendK, hu, if_pos htx, if_pos hs], fun E hE m s' x' ty hsv hxv => .same m hE ?_⟩
   cases hsv; cases hxv
   exact ⟨_, nothing hs none 0 0 ty (Nat.le_refl _), .snil _⟩
  ·rename_i x hnx
   obtain ⟨v, bl', h1, h2⟩ := appendNilK_sound h
   refine ⟨.write, v, bl', ⟨fun K => ?_, fun h => (by cases h), fun h => (by cases h)⟩, fun E hE m s' x' ty hsv hxv => ?_⟩
   ·have := h1.det K
    unfold appendK
    simp only [hu, if_pos htx]
    exact this
   ·rcases hE with rfl | hE
    ·cases hsv
     exact h2 t tx hu ht E rfl m x' ty hxv
    ·cases hE
 ·rename_i id w
  split at h
  ·split at h <;> (try (cases h; done))
   rename_i hs
   refine ⟨.pure, .own id w, bl, .ofPure fun bl K => by simp only [appendK, hu, if_pos htx, if_pos hs], fun E hE m s' x' ty hsv hxv => .same m hE ?_⟩
   cases hxv
   cases hsv with
   | mown _ r hid hh => simp [szOK] at hs
   | own _ _ len a cap hid hcap hh => exact ⟨_, nothing hs a len cap ty hcap, .own _ _ _ _ _ hid hcap hh⟩
  ·rename_i x hnx
   obtain ⟨v, bl', h1, h2⟩ := appendOwnK_sound h
   refine ⟨.write, v, bl', ⟨fun K => ?_, fun h => (by cases h), fun h => (by cases h)⟩, fun E hE m s' x' ty hsv hxv => ?_⟩
   ·have := h1.det K
    unfold appendK
    simp only [hu, if_pos htx]
    exact this
   ·rcases hE with rfl | hE
    ·exact h2 t tx hu ht E rfl m s' x' ty hsv hxv
    ·cases hE
end
end Go.Abs
end
section
set_option linter.unusedVariables false
set_option linter.unusedSimpArgs false
namespace Go.Abs
open Go
section
variable {R : Type} {C : Ctx}
theorem fold_put (off : Nat) : ∀ (l : List Value) (k : Nat) (cells : Array Value), off + k + l.length ≤ cells.size →
  ((l.zipIdx k).foldl (fun cs (p : Value × Nat) => cs.setIfInBounds (off + p.2) p.1) cells).size = cells.size ∧
  ∀ m, ((l.zipIdx k).foldl (fun cs (p : Value × Nat) => cs.setIfInBounds (off + p.2) p.1) cells)[m]? = if off + k ≤ m ∧ m < off + k + l.length then l[m - (off + k)]? else cells[m]?
 | [], k, cells, h => ⟨rfl, fun m => by rw [if_neg (by simp)]; rfl⟩
 | c :: l, k, cells, h => by
  simp only [List.zipIdx_cons, List.foldl_cons]
  have hs : (cells.setIfInBounds (off + k) c).size = cells.size := by simp
  obtain ⟨h1, h2⟩ := fold_put off l (k + 1) (cells.setIfInBounds (off + k) c) (by rw [hs]; simp at h; omega)
  refine ⟨by rw [h1, hs], fun m => ?_⟩
  rw [h2 m]
  simp only [List.length_cons] at h ⊢
  by_cases hm : m = off + k
  ·subst hm
   have hlt : off + k < cells.size := by omega
   rw [if_neg (by omega), if_pos (by omega)]
   simp [hlt]
  ·by_cases hr : off + (k + 1) ≤ m ∧ m < off + (k + 1) + l.length
   ·rw [if_pos hr, if_pos (by omega), show m - (off + k) = (m - (off + (k + 1))) + 1 from by omega]
    simp
   ·rw [if_neg hr, if_neg (by omega)]
    rw [Array.getElem?_setIfInBounds_ne (by omega)]
theorem fill_one {cells : Array Value} {v : Value} {off size : Nat} (hs : v.cells.size = size) (h : off + size ≤ cells.size) :
  (v.cells.zipIdx.foldl (fun cs (p : Value × Nat) => cs.setIfInBounds (off + p.2) p.1) cells).size = cells.size ∧
  ∀ m, (v.cells.zipIdx.foldl (fun cs (p : Value × Nat) => cs.setIfInBounds (off + p.2) p.1) cells)[m]? = if off ≤ m ∧ m < off + size then v.cells[m - off]? else cells[m]? := by
 have := fold_put off v.cells.toList 0 cells (by simp; omega)
 rw [← Array.foldl_toList]
 simp only [Array.toList_zipIdx]
 refine ⟨this.1, fun m => ?_⟩
 rw [this.2 m]
 simp [hs]
def CellsOf (E : Env) (l : List AV) (cs : Array Value) : Prop := cs.size = l.length ∧ ∀ (j : Nat) x c, l[j]? = some x → cs[j]? = some c → VR E true x c
theorem cellsOf_set {E : Env} {kids : List AV} {cs : Array Value} {i : Nat} {z y : AV} {v : Value} (hc : CellsOf E (flats kids) cs) (hf : ∀ x ∈ kids, Fit x) (hz : kids[i]? = some z) (hsh : shapeEq z y = true)
  (hv : VR E true y v) (hy : y ≠ .any ∧ ∀ vs, y ≠ .tup vs) :
  v.cells.size = width z ∧ widths (kids.take i) + v.cells.size ≤ cs.size ∧
  CellsOf E (flats (kids.set i y)) (v.cells.zipIdx.foldl (fun cs (p : Value × Nat) => cs.setIfInBounds (widths (kids.take i) + p.2) p.1) cs) ∧ (∀ x ∈ kids.set i y, Fit x) := by
 obtain ⟨hfy, hs, hcv⟩ := hv.cells hy
 have hwz := shapeEq_width hsh
 have hfz := hf z (List.mem_of_getElem? hz)
 have hl1 := hfy.length
 have hl2 := hfz.length
 have hpre : (flats (kids.take i)).length = widths (kids.take i) := fits_length fun x hx => hf x (List.mem_of_mem_take hx)
 have hsplit := flats_split hz
 have hsplit' : flats (kids.set i y) = flats (kids.take i) ++ (flat y ++ flats (kids.drop (i + 1))) := flats_set hz
 have hsz : cs.size = widths (kids.take i) + ((flat z).length + (flats (kids.drop (i + 1))).length) := by rw [hc.1, hsplit]; simp [hpre]
 have hle : widths (kids.take i) + v.cells.size ≤ cs.size := by omega
 obtain ⟨f1, f2⟩ := fill_one (cells := cs) (v := v) (off := widths (kids.take i)) rfl hle
 refine ⟨by omega, hle, ⟨by rw [f1, hsz, hsplit']; simp [hpre]; omega, fun j x c hx hcj => ?_⟩, fits_set hf hfy⟩
 rw [f2 j] at hcj
 rw [hsplit'] at hx
 rcases Nat.lt_or_ge j (widths (kids.take i)) with h1 | h1
 ·rw [List.getElem?_append_left (by omega)] at hx
  rw [if_neg (by omega)] at hcj
  exact hc.2 j x c (by rw [hsplit, List.getElem?_append_left (by omega)]; exact hx) hcj
 ·rw [List.getElem?_append_right (by omega), hpre] at hx
  rcases Nat.lt_or_ge j (widths (kids.take i) + v.cells.size) with h2 | h2
  ·rw [List.getElem?_append_left (by omega)] at hx
   rw [if_pos ⟨h1, h2⟩] at hcj
   exact hcv _ x c hx hcj
  ·rw [List.getElem?_append_right (by omega)] at hx
   rw [if_neg (by omega)] at hcj
   refine hc.2 j x c ?_ hcj
   rw [hsplit, List.getElem?_append_right (by omega), hpre, List.getElem?_append_right (by omega)]
   rw [show j - widths (List.take i kids) - (flat z).length = j - widths (List.take i kids) - (flat y).length from by omega]
   exact hx
inductive PartsR (E : Env) : List (Nat × AV) → List (Nat × Value) → Prop where
 | nil : PartsR E [] []
 | cons (i x v r s) (h : VR E true x v) (t : PartsR E r s) : PartsR E ((i, x) :: r) ((i, v) :: s)
theorem solidParts_cons {p : Nat × AV} {r : List (Nat × AV)} (h : solidParts (p :: r) = true) : (p.2 ≠ .any ∧ ∀ vs, p.2 ≠ .tup vs) ∧ solidParts r = true := by
 simp only [solidParts, List.all_cons, Bool.and_eq_true] at h
 refine ⟨⟨fun e => ?_, fun vs e => ?_⟩, by simpa [solidParts] using h.2⟩
 ·have := h.1; rw [e] at this; simp at this
 ·have := h.1; rw [e] at this; simp at this
theorem fill_agg {E : Env} (place : Nat → Option (Nat × Nat)) : ∀ {ps : List (Nat × AV)} {vs : List (Nat × Value)} {kids : List AV} {cs : Array Value} {x : AV}, PartsR E ps vs → fillK (.agg kids) ps = some x → solidParts ps = true →
  (∀ x ∈ kids, Fit x) → CellsOf E (flats kids) cs → (∀ i z, kids[i]? = some z → place i = some (widths (kids.take i), width z)) →
  ∃ cs', Instr.fill place cs vs = some cs' ∧ VR E true x (.agg cs')
 | [], vs, kids, cs, x, hp, hf, _, hfit, hc, _ => by
  cases hp
  simp [fillK] at hf
  subst hf
  exact ⟨cs, rfl, .agg _ _ _ (.agg _ hfit) hc.1 hc.2⟩
 | (i, y) :: r, vs, kids, cs, x, hp, hf, hs, hfit, hc, hpl => by
  cases hp with
  | cons _ _ v _ s hv ht =>
   simp only [fillK] at hf
   split at hf
   ·rename_i z hz
    split at hf
    ·rename_i hsh
     obtain ⟨hs1, hs2⟩ := solidParts_cons hs
     obtain ⟨g1, g2, g3, g4⟩ := cellsOf_set hc hfit hz hsh hv hs1
     have hshape := shapesEq_set hz hsh
     obtain ⟨cs', h1, h2⟩ := fill_agg place ht hf hs2 g4 g3 fun i' z' hz' => by
      have hlt : i' < kids.length := by have := (List.getElem?_eq_some_iff.1 hz').1; simpa using this
      obtain ⟨u, hu, hu2⟩ := shapesEq_get hshape i' _ (List.getElem?_eq_getElem hlt)
      rw [hz'] at hu; cases hu
      rw [hpl i' _ (List.getElem?_eq_getElem hlt), shapesEq_widths (shapesEq_take hshape i'), shapeEq_width hu2]
     refine ⟨cs', ?_, h2⟩
     simp only [Instr.fill, hpl i z hz]
     rw [if_neg (by simp; omega)]
     exact h1
    ·cases hf
   ·cases hf
theorem fill_ints {E : Env} (place : Nat → Option (Nat × Nat)) (k : IntKind) (n : Nat) (hpl : ∀ i, place i = some (i, 1)) : ∀ {ps : List (Nat × AV)} {vs : List (Nat × Value)} {l : List Int} {x : AV}, PartsR E ps vs → fillK (.ints k n l) ps = some x → l.length = n →
  ∃ cs', Instr.fill place (l.map (Value.int k)).toArray vs = some cs' ∧ VR E true x (.agg cs')
 | [], vs, l, x, hp, hf, hl => by
  cases hp
  simp [fillK] at hf
  subst hf
  exact ⟨_, rfl, .ints _ _ _ _ hl⟩
 | (i, y) :: r, vs, l, x, hp, hf, hl => by
  cases hp with
  | cons _ _ v _ s hv ht =>
   cases y <;> simp only [fillK] at hf <;> first | (cases hf; done) | skip
   rename_i k' m
   split at hf
   ·rename_i hk
    subst hk
    split at hf
    ·rename_i hi
     cases hv
     have hil : i < l.length := by omega
     obtain ⟨cs', h1, h2⟩ := fill_ints place k n hpl ht hf (by simpa using hl)
     refine ⟨cs', ?_, h2⟩
     have hset : ((Value.int k m).cells.zipIdx.foldl (fun cs (p : Value × Nat) => cs.setIfInBounds (i + p.2) p.1) (l.map (Value.int k)).toArray) = ((l.set i m).map (Value.int k)).toArray := by
      simp [Value.cells, List.map_set]
     simp only [Instr.fill, hpl i]
     rw [if_neg (by simp [Value.cells]; omega), hset]
     exact h1
    ·cases hf
   ·cases hf
theorem partsR_of {E : Env} {ev : Operand → AV} {a : Act} (h : ∀ x, VR E true (ev x) (a.eval x)) : ∀ (l : List (Nat × Operand)), PartsR E (l.map fun p => (p.1, ev p.2)) (l.map fun p => (p.1, a.eval p.2))
 | [] => .nil
 | p :: l => .cons _ _ _ _ _ (h p.2) (partsR_of h l)
theorem buildK_sound {t : TypeId} {ps : List (Nat × AV)} {K : AV → Option R} {r : R} (h : buildK C t ps K = some r) :
  ∃ v, (∀ K2 : AV → Option R, buildK C t ps K2 = K2 v) ∧ ∀ E (vs : Array (Nat × Value)), PartsR E ps vs.toList → ∃ v', ∀ w, (Instr.build t vs).run C.P w = .ok v' w ∧ VR E true v v' := by
 unfold buildK at h
 split at h <;> (try (cases h; done))
 rename_i z hz
 split at h <;> (try (cases h; done))
 rename_i hc
 split at h <;> (try (cases h; done))
 rename_i x hx
 refine ⟨x, fun K2 => by simp only [buildK, hz, if_pos hc, hx], fun E vs hp => ?_⟩
 simp only [Bool.and_eq_true, decide_eq_true_eq] at hc
 obtain ⟨⟨⟨hc1, hc2⟩, hc3⟩, hc4⟩ := hc
 obtain ⟨i, v, hi, hv, hrun, hvr, hf, hz1, hz2⟩ := zeroOf_sound hz
 obtain ⟨d, hu, hs, hr⟩ := conf_gives hc2
 rcases hr with ⟨hl, hd⟩ | ⟨hd, hr⟩
 ·exact absurd hc3 (by obtain ⟨l1, l2⟩ := hl; cases z <;> simp_all [isComp])
 ·rcases hr with ⟨kids, rfl⟩ | ⟨k, n, l, rfl⟩
  ·obtain ⟨cs, rfl, hfit, hcs, hcv⟩ := (hvr E true).agg_inv
   cases d <;> simp at hd
   ·rename_i n e
    rcases conf_array hc2 hu with ⟨_, _, e1, _⟩ | ⟨kids', n', _, e1, e2, e3⟩
    ·cases e1
    ·cases e1
     obtain ⟨cs', h1, h2⟩ := fill_agg (E := E) (fun i => some (i * sizeQ C.P e, sizeQ C.P e)) hp hx hc1 (fun x hx => hfit.kid hx) ⟨hcs, hcv⟩ fun i z hz => by
      have hil := (List.getElem?_eq_some_iff.1 hz).1
      rw [widths_take_eq (fun y hy => (e3 y hy).2) _ (Nat.le_of_lt hil), (e3 z (List.mem_of_getElem? hz)).2]
     have hne : kids ≠ [] := fun e => by subst e; simp [width, widths] at hc4
     obtain ⟨y, hy⟩ := List.exists_mem_of_ne_nil _ hne
     obtain ⟨_, hue, _⟩ := conf_gives (e3 y hy).1
     refine ⟨.agg cs', fun w => ⟨?_, h2⟩⟩
     simp only [Instr.build, Sem.run_bind, hrun, Result.andThen_ok, run_underlying hu, Value.cells, run_sizeOf hue, h1, Sem.run_pure]
   ·rename_i fs
    obtain ⟨m', kids', _, ek, hget⟩ := conf_struct hc2 hu
    cases ek
    have hlen : kids.length = fs.size := by
     unfold conf at hc2
     rw [hu] at hc2
     simp only [Bool.and_eq_true] at hc2
     have : ∀ (l : List Field) (k : List AV) (off : Nat), confGo C.P (conf C.P 7) l k off = true → k.length = l.length := by
      intro l
      induction l with
      | nil => intro k off h; cases k <;> simp [confGo] at h; rfl
      | cons a l ih => intro k off h; cases k <;> simp [confGo] at h; simp [ih _ _ h.2]
     simpa using this _ _ _ hc2.1
    obtain ⟨cs', h1, h2⟩ := fill_agg (E := E) (fun i => (fs.map fun f => (f.offset, sizeQ C.P f.type))[i]?) hp hx hc1 (fun x hx => hfit.kid hx) ⟨hcs, hcv⟩ fun i z hz => by
     have hil := (List.getElem?_eq_some_iff.1 hz).1
     have hfi : fs[i]? = some (fs[i]'(by omega)) := Array.getElem?_eq_getElem (by omega)
     obtain ⟨y, g1, g2, g3, g4⟩ := hget i _ hfi
     rw [hz] at g1; cases g1
     simp [hfi, g2, g3]
    refine ⟨.agg cs', fun w => ⟨?_, h2⟩⟩
    have hmap : (fs.mapM fun f => (do pure (f.offset, ← sizeOf f.type) : Sem (Nat × Nat))).run C.P w = .ok (fs.map fun f => (f.offset, sizeQ C.P f.type)) w := by
     have key : ∀ (l : List Field), (∀ f ∈ l, (sizeOf f.type).run C.P w = .ok (sizeQ C.P f.type) w) → (l.mapM fun f => (do pure (f.offset, ← sizeOf f.type) : Sem (Nat × Nat))).run C.P w = .ok (l.map fun f => (f.offset, sizeQ C.P f.type)) w := by
      intro l
      induction l with
      | nil => intro _; rfl
      | cons f l ih =>
       intro h
       have h1 := h f (by simp)
       have h2 := ih fun g hg => h g (by simp [hg])
       simp only [List.mapM_cons, Sem.run_bind, Sem.run_pure, h1, Result.andThen_ok, h2, List.map_cons]
     rw [Array.mapM_eq_mapM_toList]
     have := key fs.toList fun f hf => by
      obtain ⟨i, hi⟩ := List.mem_iff_getElem?.1 hf
      obtain ⟨y, _, _, _, g4⟩ := hget i f (by simpa using hi)
      obtain ⟨_, hue, _⟩ := conf_gives g4
      exact run_sizeOf hue w
     simp only [Sem.run_map, this, Result.andThen_ok]
     congr 1
     apply Array.ext'
     simp
    simp only [Instr.build, Sem.run_bind, hrun, Result.andThen_ok, run_underlying hu, Value.cells, hmap, h1, Sem.run_pure]
  ·have hve := hvr E true
   cases hve with
   | ints _ _ _ _ hln =>
    cases d <;> simp at hd
    ·rename_i n' e
     rcases conf_array hc2 hu with ⟨k', l', e1, e2, e3⟩ | ⟨_, _, _, e1, _⟩
     ·cases e1
      have hue := kindOf_inv e2
      obtain ⟨cs', h1, h2⟩ := fill_ints (E := E) (fun i => some (i * 1, 1)) k n (fun i => by simp) hp hx hln
      refine ⟨.agg cs', fun w => ⟨?_, h2⟩⟩
      simp [Instr.build, hrun, Value.cells, run_underlying hu, run_sizeOf hue, e3]
      simp at h1
      rw [h1]
      rfl
     ·cases e1
    ·obtain ⟨_, _, _, e1, _⟩ := conf_struct hc2 hu
     cases e1
end
end Go.Abs
end
section
set_option linter.unusedVariables false
set_option linter.unusedSimpArgs false
namespace Go.Abs
open Go
section
variable {R : Type} {C : Ctx}
theorem fillInts_sound {E : Env} (k : IntKind) : ∀ {ps : List (Nat × AV)} {vs : List (Nat × Value)} {l l' : List Int}, PartsR E ps vs → fillInts k l ps = some l' →
  l'.length = l.length ∧ Instr.fill (fun i => some (i * 1, 1)) (l.map (Value.int k)).toArray vs = some (l'.map (Value.int k)).toArray
 | [], vs, l, l', hp, hf => by
  cases hp
  simp [fillInts] at hf
  subst hf
  exact ⟨rfl, rfl⟩
 | (i, y) :: r, vs, l, l', hp, hf => by
  cases hp with
  | cons _ _ v _ s hv ht =>
   cases y <;> simp only [fillInts] at hf <;> first | (cases hf; done) | skip
   rename_i k' m
   split at hf
   ·rename_i hk
    subst hk
    split at hf
    ·rename_i hi
     cases hv
     obtain ⟨h1, h2⟩ := fillInts_sound k ht hf
     refine ⟨by simpa using h1, ?_⟩
     have hset : ((Value.int k m).cells.zipIdx.foldl (fun cs (p : Value × Nat) => cs.setIfInBounds (i * 1 + p.2) p.1) (l.map (Value.int k)).toArray) = ((l.set i m).map (Value.int k)).toArray := by
      simp [Value.cells, List.map_set]
     simp only [Instr.fill]
     rw [if_neg (by simp [Value.cells]; omega), hset]
     exact h2
    ·cases hf
   ·cases hf
theorem fillObjs_agg : ∀ {ps : List (Nat × AV)} {l l' : List AV}, fillObjs l ps = some l' → fillK (.agg l) ps = some (.agg l') ∧ (l'.length = l.length) ∧
  ∀ w, (∀ x ∈ l, width x = w ∧ noOwn x = true ∧ solid x = true) → ∀ x ∈ l', width x = w ∧ noOwn x = true ∧ solid x = true
 | [], l, l', h => by simp [fillObjs] at h; subst h; exact ⟨rfl, rfl, fun w h => h⟩
 | (i, y) :: r, l, l', h => by
  simp only [fillObjs] at h
  split at h
  ·rename_i z hz
   split at h
   ·rename_i hc
    simp only [Bool.and_eq_true] at hc
    obtain ⟨h1, h2, h3⟩ := fillObjs_agg h
    refine ⟨by simp only [fillK, hz, if_pos hc.1.1]; exact h1, by simpa using h2, fun w hw => h3 w fun x hx => ?_⟩
    rcases List.mem_or_eq_of_mem_set hx with hx | hx
    ·exact hw x hx
    ·subst hx
     exact ⟨by rw [← shapeEq_width hc.1.1]; exact (hw z (List.mem_of_getElem? hz)).1, hc.1.2, hc.2⟩
   ·cases h
  ·cases h
theorem madeCells_ints (k : IntKind) (z : Int) (n : Nat) : madeCells (Value.int k z).cells n = ((List.replicate n z).map (Value.int k)).toArray := by
 apply Array.ext_getElem?
 intro j
 rcases Nat.lt_or_ge j n with hj | hj
 ·rw [madeCells_get _ _ _ hj (by simp [Value.cells])]
  simp [Value.cells, Nat.mod_one, hj]
 ·rw [Array.getElem?_eq_none (by rw [size_madeCells]; exact hj)]
  simp [hj]
theorem run_buildSlice_of {P : Program} {t e n w : Nat} {vs : Array (Nat × Value)} {z : Value} {cs : Array Value} (hu : P.underlying t = some (.slice e)) (hs : ∀ W, (sizeOf e).run P W = .ok w W) (hn : n * w ≤ 16777216) (hz : ∀ W, (zeroValue e).run P W = .ok z W)
  (hf : Instr.fill (fun i => some (i * w, w)) (madeCells z.cells (n * w)) vs.toList = some cs) (W : World) :
  (Instr.buildSlice t n vs).run P W = .ok (.slice (some ⟨W.heap.size, 0, none⟩) n n) (W.alloc (.cells cs e)) := by
 have h1 : ¬ (16777216 < n * w) := by omega
 by_cases h0 : n * w = 0
 ·have hm : madeCells z.cells (n * w) = (Array.range 0).map (fun x => (#[] : Array Value)[x % (#[] : Array Value).size]!) := by rw [h0]; simp [madeCells]
  rw [hm] at hf
  simp only [Instr.buildSlice, Sem.run_bind, run_underlying hu, Result.andThen_ok, hs]
  rw [if_neg (by simpa using h1)]
  simp only [h0, if_true, Sem.run_bind, Sem.run_pure, Result.andThen_ok, hf]
  simp [newRow]
 ·simp only [Instr.buildSlice, Sem.run_bind, run_underlying hu, Result.andThen_ok, hs]
  rw [if_neg (by simpa using h1)]
  have hf' : Instr.fill (fun i => some (i * w, w)) ((Array.range (n * w)).map (fun x => z.cells[x % z.cells.size]!)) vs.toList = some cs := hf
  simp only [h0, if_false, Sem.run_bind, Sem.run_pure, Result.andThen_ok, hz, hf']
  simp [newRow]
theorem buildSliceK_sound {t n : Nat} {ps : List (Nat × AV)} {bl : Blks} {K : Kont R} {r : R} (h : buildSliceK C t n ps bl K = some r) :
  ∃ v bl', KS (R := R) (buildSliceK C t n ps) bl .write v bl' ∧ ∀ E, E.bl = bl → Mem E → ∀ vs : Array (Nat × Value), PartsR E ps vs.toList → Out E C.P .write v bl' (Instr.buildSlice t n vs) := by
 unfold buildSliceK at h
 split at h <;> (try (cases h; done))
 rename_i e hu
 split at h <;> (try (cases h; done))
 rename_i hc
 have hc' := hc
 simp only [Bool.and_eq_true, decide_eq_true_eq] at hc'
 split at h <;> (try (cases h; done))
 ·rename_i k z hz
  split at h <;> (try (cases h; done))
  rename_i hs
  split at h <;> (try (cases h; done))
  rename_i l hl
  refine ⟨.own bl.length 1, bl ++ [some (.ints k l)], .ofWrite fun K => by simp only [buildSliceK, hu, if_pos hc, hz, if_pos hs, hl], fun E hE m vs hp => ?_⟩
  subst hE
  obtain ⟨i, v, hi, hv, hrun, hvr, _⟩ := zeroOf_sound hz
  have hve := (hvr E true).int_inv
  subst hve
  obtain ⟨hlen, hfill⟩ := fillInts_sound k hp hl
  simp at hlen
  have hsz := (szOK_inv hs).1
  have run := run_buildSlice_of (n := n) (w := 1) (vs := vs) (cs := (l.map (Value.int k)).toArray) hu (run_sizeOf' hs) (by rw [hsz] at hc'; omega) hrun (by rw [Nat.mul_one, madeCells_ints]; exact hfill) E.w
  have go := Go.new m (l.map (Value.int k)).toArray e n (.ints k l) (0, 0) (fun j _ => by simp) trivial (by simp [flatB, hlen]) (by simp [hlen]) (fun j x c hx hc => by
   simp only [flatB, List.getElem?_map] at hx
   simp only [List.getElem?_toArray, List.getElem?_map] at hc
   cases hj : l[j]? with
   | none => simp [hj] at hx
   | some a => simp [hj] at hx hc; subst hx; subst hc; exact .int _ _ _)
  exact ⟨_, _, run, rfl, go, vr_own_new (by simp [rowB, hlen]) (Nat.le_refl _) (by omega)⟩
 ·rename_i z hnz hz
  split at h <;> (try (cases h; done))
  rename_i hs
  split at h <;> (try (cases h; done))
  rename_i l hl
  refine ⟨.own bl.length (sizeQ C.P e), bl ++ [some (.objs e (sizeQ C.P e) l)], .ofWrite fun K => ?_, fun E hE m vs hp => ?_⟩
  ·simp only [buildSliceK, hu, if_pos hc]
   split
   ·rename_i k' z' hz'
    rw [hz] at hz'; cases hz'
    exact absurd rfl (hnz _ _)
   ·rename_i z' _ hz'
    rw [hz] at hz'; cases hz'
    rw [if_pos hs, hl]
   ·rename_i hz'
    rw [hz] at hz'; cases hz'
  ·subst hE
   simp only [Bool.and_eq_true, decide_eq_true_eq] at hs
   obtain ⟨⟨⟨hs1, hs2⟩, hs3⟩, hs4⟩ := hs
   obtain ⟨i, v, hi, hv, hrun, hvr, hfz, hx1, hx2⟩ := zeroOf_sound hz
   obtain ⟨d, hue, hw, _⟩ := conf_gives hs3
   obtain ⟨_, hcz, hcr⟩ := (hvr E true).cells ⟨hx1, hx2⟩
   have hfl := hfz.length
   obtain ⟨f1, f2, f3⟩ := fillObjs_agg hl
   simp at f2
   have hrep : ∀ x ∈ List.replicate n z, x = z := fun x hx => List.eq_of_mem_replicate hx
   have hmade : CellsOf E (flats (List.replicate n z)) (madeCells v.cells (n * sizeQ C.P e)) := by
    refine ⟨by rw [size_madeCells, flats_replicate_length, hfl, hw], fun j x c hx hc => ?_⟩
    have hj := (List.getElem?_eq_some_iff.1 hx).1
    rw [flats_replicate_length, hfl, ← hw] at hj
    rw [madeCells_get _ _ _ hj (by omega), hcz] at hc
    exact hcr _ x c (flats_replicate n z j x hx (by omega)) hc
   obtain ⟨cs', h1, h2⟩ := fill_agg (E := E) (fun i => some (i * sizeQ C.P e, sizeQ C.P e)) hp f1 hc'.2 (fun x hx => by rw [hrep x hx]; exact hfz) hmade fun i y hy => by
    have hil := (List.getElem?_eq_some_iff.1 hy).1
    rw [widths_take_eq (w := sizeQ C.P e) (fun y hy => by rw [hrep y hy]; exact hw.symm) _ (Nat.le_of_lt hil), hrep y (List.mem_of_getElem? hy), hw]
   obtain ⟨cs'', e1, hfit, hcs, hcv⟩ := h2.agg_inv
   cases e1
   have hall := f3 (sizeQ C.P e) fun x hx => by rw [hrep x hx]; exact ⟨hw.symm, hs1, hs2⟩
   have hfb : ∀ x ∈ l, (Fit x ∧ width x = sizeQ C.P e) ∧ noOwn x = true ∧ solid x = true := fun x hx => ⟨⟨hfit.kid hx, (hall x hx).1⟩, (hall x hx).2⟩
   have run := run_buildSlice_of (n := n) (w := sizeQ C.P e) (vs := vs) (cs := cs') hu (run_sizeOf hue) hc'.1 hrun h1 E.w
   have hlf := objs_flat_length hfb
   have go := Go.new m cs' e (n * sizeQ C.P e) (.objs e (sizeQ C.P e) l) (0, 0) (fun j _ => by simp) hfb (by simp only [flatB]; rw [hlf, f2]; exact Nat.le_refl _) (by rw [hcs, hlf, f2]; exact Nat.le_refl _) (fun j x c hx hc => hcv j x c hx hc)
   exact ⟨_, _, run, rfl, go, vr_own_new (by simp [rowB, f2]) (Nat.le_refl _) (Nat.le_refl _)⟩
theorem min_nat (a b : Nat) : Nat.min a b = min a b := rfl
theorem run_copy_ints {P : Program} {E : Env} {t e : TypeId} {ts : Array TypeId} {ty : TypeId} {k : IntKind} {l : List Int} {v : Value} {a : Option Addr} {n cap b o : Nat} (hts : ts[0]? = some t) (hu : P.underlying t = some (.slice e)) (hs : szOK P e 1 = true)
  (h : IntsAt E k l v) (ha : min l.length n ≠ 0 → a = some ⟨b, o, none⟩) (hr : ∀ j, j < min l.length n → (E.cell b (o + j)).isSome = true ∧ E.w.frozen? ⟨b, o + j, none⟩ = false) :
  (Builtin.copy_ ts ty #[.slice a n cap, v]).run P E.w = .ok (.int .i64 (min l.length n : Nat)) (E.w.setCells b o ((l.take (min l.length n)).map (Value.int k))) := by
 have hc := h.cells P E.w (fun _ => rfl) (min l.length n) (Nat.min_le_left _ _)
 have hl := h.len P E.w
 have hst := run_storeCells_cells (P := P) b o ((l.take (min l.length n)).map (Value.int k)) 0 E.w (fun j hj => by
   have := (hr j (by simp at hj; omega)).1
   rw [Nat.add_zero]; exact this) (fun j hj => by
   have := (hr j (by simp at hj; omega)).2
   rw [Nat.add_zero]; exact this) (fun c hc => by obtain ⟨m, _, rfl⟩ := List.mem_map.1 hc; rfl)
 rw [Nat.add_zero] at hst
 cases a with
 | none =>
  have h0 : min l.length n = 0 := by
   by_cases h0 : min l.length n = 0
   ·exact h0
   ·exact absurd (ha h0) (by simp)
  rw [h0] at hc ⊢
  simp [Builtin.copy_, hts, run_underlying hu, hl, run_sizeOf' hs, h0, min_nat, hc, goInt]
  rfl
 | some ad =>
  by_cases h0 : min l.length n = 0
  ·rw [h0] at hc ⊢
   simp [Builtin.copy_, hts, run_underlying hu, hl, run_sizeOf' hs, h0, min_nat, hc, goInt, storeCells]
   rfl
  ·cases ha h0
   simp only [Builtin.copy_, hts, List.getElem?_toArray, List.getElem?_cons_zero, List.getElem?_cons_succ, Sem.run_bind, run_underlying hu, Result.andThen_ok, hl, run_sizeOf' hs, min_nat, hc, hst, Sem.run_pure, goInt]
theorem copyK_sound {t : TypeId} {d x : AV} {bl : Blks} {K : Kont R} {r : R} (h : copyK C t d x bl K = some r) :
  ∃ v bl', KS (R := R) (copyK C t d x) bl .write v bl' ∧ ∀ E, E.bl = bl → Mem E → ∀ d' x' (ts : Array TypeId) ty, ts[0]? = some t → VR E true d d' → VR E true x x' → Out E C.P .write v bl' (Builtin.copy_ ts ty #[d', x']) := by
 unfold copyK at h
 split at h <;> (try (cases h; done))
 rename_i e hu
 split at h <;> (try (cases h; done))
 rename_i hs
 split at h <;> (try (cases h; done))
 ·rename_i k r0 id w hel
  split at h <;> (try (cases h; done))
  rename_i k' l hbk
  split at h <;> (try (cases h; done))
  rename_i hk
  subst hk
  refine ⟨.int .i64 (min r0.length l.length : Nat), bl.set id (some (.ints k (r0.take l.length ++ l.drop r0.length))), .ofWrite fun K => by simp only [copyK, hu, if_pos hs, hel, hbk, if_true], fun E hE m d' x' ts ty hts hd hx => ?_⟩
  subst hE
  have src := elsOf_ints hel (.inl rfl) m hx
  cases hd with
  | mown _ r hid hh => have g := (hh _ hbk).1; simp [rowB] at g
  | own _ _ len a cap hid hcap hh =>
   obtain ⟨g1, g2, g3⟩ := hh _ hbk
   simp [rowB] at g1
   obtain ⟨rfl, rfl⟩ := g1
   have ok := m.ok id _ hbk
   have run := run_copy_ints (P := C.P) (b := (E.loc id).1) (o := (E.loc id).2.1) (cap := cap) (ty := ty) hts hu hs src (a := a) (n := l.length) (fun h0 => by
    rcases g3 with h | h
    ·omega
    ·exact h) (fun j hj => ok.room rfl j (by omega))
   have hlen : (r0.take l.length ++ l.drop r0.length).length = l.length := by simp; omega
   have hext := ok.len
   simp [flatB] at hext
   have go := Go.put m id 0 ((r0.take (min r0.length l.length)).map (Value.int k)) _ (.ints k (r0.take l.length ++ l.drop r0.length)) hbk (by simp; omega) trivial (by simp only [flatB, List.length_map, hlen]; exact hext) (fun j y hy _ hj => by
    simp at hj
    simp only [flatB, List.getElem?_map] at hy
    rw [List.getElem?_append_left (by simp; omega), List.getElem?_take, if_pos (by omega)] at hy
    have hjl : j < r0.length := by omega
    simp [List.getElem?_eq_getElem hjl] at hy
    subst hy
    exact ⟨.int k r0[j], by simp [List.getElem?_take, hj, List.getElem?_eq_getElem hjl], .int _ _ _⟩) (fun j y hy hj => by
    simp at hj
    simp only [flatB, List.getElem?_map] at hy ⊢
    have hjl : j < l.length := by have := (List.getElem?_eq_some_iff.1 (show ((r0.take l.length ++ l.drop r0.length).map (AV.int k))[j]? = some y by rw [List.getElem?_map]; exact hy)).1; simp at this; omega
    rw [List.getElem?_append_right (by simp; omega), List.getElem?_drop] at hy
    rw [show r0.length + (j - (List.take l.length r0).length) = j from by simp; omega] at hy
    exact hy) (fun p q hq => by
    cases p with
    | nil => simp [offB] at hq
    | cons i p => cases p with
     | nil => simpa [offB, hlen] using hq
     | cons => simp [offB] at hq) (fun p q hq => by
    cases p with
    | nil => simpa [rowB, hlen] using hq
    | cons => simp [rowB] at hq)
   exact ⟨_, _, run, rfl, go, .int _ _ _⟩
 ·rename_i k r0 id path st n w hel
  split at h <;> (try (cases h; done))
  rename_i k' mm l hbk
  split at h <;> (try (cases h; done))
  rename_i hk
  subst hk
  refine ⟨.int .i64 (min r0.length n : Nat), bl.set id (some (.var (.ints k mm (l.take st ++ (r0.take n ++ l.drop (st + min r0.length n)))))), .ofWrite fun K => by simp only [copyK, hu, if_pos hs, hel, hbk, if_true], fun E hE m d' x' ts ty hts hd hx => ?_⟩
  subst hE
  have src := elsOf_ints hel (.inl rfl) m hx
  cases hd with
  | slice _ _ _ _ _ a cap hid hcap hsm hh =>
   obtain ⟨q, c, g1, g2, g3, g4⟩ := hh _ hbk
   simp [rowB, getPath, offPath] at g1
   obtain ⟨rfl, rfl, rfl⟩ := g1
   have ok := m.ok id _ hbk
   have hl : l.length = mm := Fit.len ok.fit
   have hext := ok.len
   simp [flatB, flat] at hext
   have run := run_copy_ints (P := C.P) (b := (E.loc id).1) (o := (E.loc id).2.1 + st) (cap := cap) (ty := ty) hts hu hs src (a := a) (n := n) (fun h0 => by
    rcases g4 with h | h
    ·omega
    ·simpa using h) (fun j hj => by rw [Nat.add_assoc]; exact ok.room rfl (st + j) (by omega))
   have hlen : (l.take st ++ (r0.take n ++ l.drop (st + min r0.length n))).length = mm := by simp; omega
   have hget : ∀ (j : Nat), j < st ∨ st + min r0.length n ≤ j → (l.take st ++ (r0.take n ++ l.drop (st + min r0.length n)))[j]? = l[j]? := fun j hj => by
    rcases Nat.lt_or_ge j st with h1 | h1
    ·rw [List.getElem?_append_left (by simp; omega), List.getElem?_take, if_pos h1]
    ·rw [List.getElem?_append_right (by simp; omega), List.getElem?_append_right (by simp; omega), List.getElem?_drop]
     congr 1
     simp
     omega
   have go := Go.put m id st ((r0.take (min r0.length n)).map (Value.int k)) _ (.var (.ints k mm (l.take st ++ (r0.take n ++ l.drop (st + min r0.length n))))) hbk (by simp; omega) (.ints _ _ _ hlen) (by simp only [flatB, flat, List.length_map, hlen]; omega) (fun j y hy h1 hj => by
    simp at hj
    simp only [flatB, flat, List.getElem?_map] at hy
    have hjr : j - st < r0.length := by omega
    rw [List.getElem?_append_right (by simp; omega), List.getElem?_append_left (by simp; omega), List.getElem?_take, if_pos (by simp; omega)] at hy
    rw [show j - (List.take st l).length = j - st from by simp; omega] at hy
    simp [List.getElem?_eq_getElem hjr] at hy
    subst hy
    refine ⟨.int k r0[j - st], ?_, .int _ _ _⟩
    rw [List.getElem?_map, List.getElem?_take, if_pos (by omega), List.getElem?_eq_getElem hjr]
    rfl) (fun j y hy hj => by
    simp at hj
    simp only [flatB, flat, List.getElem?_map] at hy ⊢
    rwa [hget j (by omega)] at hy) (fun p q hq => by
    cases p with
    | nil => simpa [offB, offPath] using hq
    | cons i p => cases p with
     | nil => simpa [offB, offPath] using hq
     | cons => simp [offB, offPath] at hq) (fun p q hq => by
    cases p with
    | nil => simpa [rowB, getPath, offPath] using hq
    | cons i p => cases p with
     | nil => simp [rowB, getPath] at hq
     | cons => simp [rowB, getPath] at hq)
   exact ⟨_, _, run, rfl, go, .int _ _ _⟩
end
end Go.Abs
end
section
set_option linter.unusedVariables false
set_option linter.unusedSimpArgs false
namespace Go.Abs
open Go
section
theorem rens_eq_map (ρ : Nat → Option Nat) : ∀ l : List AV, rens ρ l = l.map (ren ρ)
 | [] => rfl
 | x :: r => by simp [rens, rens_eq_map ρ r]
theorem ren_leaf {ρ : Nat → Option Nat} {x : AV} (h : Leaf x) : Leaf (ren ρ x) := by
 obtain ⟨h1, h2⟩ := h
 constructor
 ·intro kids e
  cases x <;> simp only [ren] at e <;> first
   | (split at e <;> cases e; done)
   | (cases e; done)
   | exact h1 _ rfl
 ·intro k n l e
  cases x <;> simp only [ren] at e <;> first
   | (split at e <;> cases e; done)
   | (cases e; done)
   | (cases e; exact h2 _ _ _ rfl)
mutual
theorem flat_ren (ρ : Nat → Option Nat) : ∀ x : AV, flat (ren ρ x) = (flat x).map (ren ρ)
 | .agg kids => by simp only [ren, flat]; exact flats_ren ρ kids
 | .ints k n l => by simp [ren, flat]
 | .any | .tup _ | .bool _ | .int _ _ | .str _ | .nilp | .ptr _ _ | .aptr _ _ _ _ | .rptr _ | .snil | .slice _ _ _ _ _ | .own _ _
 | .rints _ _ | .robjs _ _ _ | .fn _ _ _ | .nilf | .iface _ _ | .nili | .raw _ | .errv _ _ _ | .rmap _ => by
  rw [(ren_leaf (ρ := ρ) ⟨by simp, by simp⟩ : Leaf _).one.1]
  simp [flat]
theorem flats_ren (ρ : Nat → Option Nat) : ∀ l : List AV, flats (rens ρ l) = (flats l).map (ren ρ)
 | [] => rfl
 | x :: r => by simp [rens, flats, flat_ren ρ x, flats_ren ρ r]
end
mutual
theorem width_ren (ρ : Nat → Option Nat) : ∀ x : AV, width (ren ρ x) = width x
 | .agg kids => by simp only [ren, width]; exact widths_ren ρ kids
 | .ints k n l => by simp [ren]
 | .any | .tup _ | .bool _ | .int _ _ | .str _ | .nilp | .ptr _ _ | .aptr _ _ _ _ | .rptr _ | .snil | .slice _ _ _ _ _ | .own _ _
 | .rints _ _ | .robjs _ _ _ | .fn _ _ _ | .nilf | .iface _ _ | .nili | .raw _ | .errv _ _ _ | .rmap _ => by
  rw [(ren_leaf (ρ := ρ) ⟨by simp, by simp⟩ : Leaf _).one.2]
  simp [width]
theorem widths_ren (ρ : Nat → Option Nat) : ∀ l : List AV, widths (rens ρ l) = widths l
 | [] => rfl
 | x :: r => by simp [rens, widths, width_ren ρ x, widths_ren ρ r]
end
theorem fit_ren (ρ : Nat → Option Nat) {x : AV} (h : Fit x) : Fit (ren ρ x) := by
 induction h with
 | ints k n l h => simp only [ren]; exact .ints _ _ _ h
 | agg kids h ih =>
  simp only [ren, rens_eq_map]
  refine .agg _ fun y hy => ?_
  obtain ⟨z, hz, rfl⟩ := List.mem_map.1 hy
  exact ih z hz
 | leaf x h => exact .leaf _ (ren_leaf h)
theorem offPath_ren (ρ : Nat → Option Nat) : ∀ (p : List Nat) (x : AV), offPath (ren ρ x) p = offPath x p
 | [], x => by simp [offPath]
 | i :: p, .agg kids => by
  simp only [ren, offPath, rens_eq_map]
  rw [List.getElem?_map]
  cases h : kids[i]? with
  | none => rfl
  | some y =>
   simp only [Option.map_some]
   rw [offPath_ren ρ p y, ← List.map_take, ← rens_eq_map, widths_ren]
 | i :: p, .ints k n l => by simp [ren]
 | i :: p, .any | i :: p, .tup _ | i :: p, .bool _ | i :: p, .int _ _ | i :: p, .str _ | i :: p, .nilp | i :: p, .ptr _ _ | i :: p, .aptr _ _ _ _ | i :: p, .rptr _ | i :: p, .snil | i :: p, .slice _ _ _ _ _ | i :: p, .own _ _
 | i :: p, .rints _ _ | i :: p, .robjs _ _ _ | i :: p, .fn _ _ _ | i :: p, .nilf | i :: p, .iface _ _ | i :: p, .nili | i :: p, .raw _ | i :: p, .errv _ _ _ | i :: p, .rmap _ => by
  first | (simp only [ren]; done) | (simp only [ren]; split <;> simp [offPath]; done) | (simp [ren, offPath]; done)
theorem getPath_ren (ρ : Nat → Option Nat) : ∀ (p : List Nat) (x : AV), getPath (ren ρ x) p = (getPath x p).map (ren ρ)
 | [], x => by simp [getPath]
 | i :: p, .agg kids => by
  simp only [ren, getPath, rens_eq_map]
  rw [List.getElem?_map]
  cases h : kids[i]? with
  | none => rfl
  | some y => exact getPath_ren ρ p y
 | [i], .ints k n l => by simp [ren, getPath]
 | i :: j :: p, .ints k n l => by simp [ren, getPath]
 | i :: p, .any | i :: p, .tup _ | i :: p, .bool _ | i :: p, .int _ _ | i :: p, .str _ | i :: p, .nilp | i :: p, .ptr _ _ | i :: p, .aptr _ _ _ _ | i :: p, .rptr _ | i :: p, .snil | i :: p, .slice _ _ _ _ _ | i :: p, .own _ _
 | i :: p, .rints _ _ | i :: p, .robjs _ _ _ | i :: p, .fn _ _ _ | i :: p, .nilf | i :: p, .iface _ _ | i :: p, .nili | i :: p, .raw _ | i :: p, .errv _ _ _ | i :: p, .rmap _ => by
  first | (simp only [ren, getPath]; rfl) | (simp only [ren]; split <;> simp [getPath]; done) | (simp [ren, getPath]; done)
theorem offB_ren (ρ : Nat → Option Nat) (b : Blk) (p : List Nat) : offB (renB ρ b) p = offB b p := by
 cases b with
 | free => first | rfl | trivial
 | mp l => first | rfl | exact hf
 | var v => simp only [renB, offB]; exact offPath_ren ρ p v
 | ints k l => rfl
 | objs e w l => rfl
theorem rowB_ren (ρ : Nat → Option Nat) (b : Blk) (p : List Nat) : rowB (renB ρ b) p = rowB b p := by
 cases b with
 | free => first | rfl | trivial
 | mp l => first | rfl | exact hf
 | var v =>
  simp only [renB, rowB, getPath_ren, offPath_ren]
  cases h : getPath v p with
  | none => rfl
  | some y =>
   cases hy : y with
   | ints k n l => simp [ren]
   | ptr i a => simp only [Option.map_some, ren]; cases ρ i <;> rfl
   | aptr i a b c => simp only [Option.map_some, ren]; cases ρ i <;> rfl
   | slice i a b c d => simp only [Option.map_some, ren]; cases ρ i <;> rfl
   | own i a => simp only [Option.map_some, ren]; cases ρ i <;> rfl
   | _ => simp only [Option.map_some, ren]
 | ints k l => rfl
 | objs e w l => rfl
mutual
theorem ren_noOwn {ρ : Nat → Option Nat} : ∀ {x : AV}, noOwn x = true → ren ρ x = x
 | .agg kids, h => by simp only [ren]; rw [rens_noOwn (by simpa [noOwn] using h)]
 | .tup kids, h => by simp only [ren]; rw [rens_noOwn (by simpa [noOwn] using h)]
 | .fn f a b, h => by
  simp only [noOwn, Bool.and_eq_true] at h
  simp only [ren]; rw [rens_noOwn h.1, rens_noOwn h.2]
 | .iface t v, h => by simp only [ren]; rw [ren_noOwn (by simpa [noOwn] using h)]
 | .any, _ | .bool _, _ | .int _ _, _ | .str _, _ | .nilp, _ | .rptr _, _ | .snil, _ | .rints _ _, _ | .robjs _ _ _, _ | .ints _ _ _, _ | .nilf, _ | .nili, _ | .raw _, _ | .errv _ _ _, _ | .rmap _, _ => by simp [ren]
 | .ptr _ _, h | .aptr _ _ _ _, h | .slice _ _ _ _ _, h | .own _ _, h => by simp [noOwn] at h
theorem rens_noOwn {ρ : Nat → Option Nat} : ∀ {l : List AV}, noOwns l = true → rens ρ l = l
 | [], _ => rfl
 | x :: r, h => by
  simp only [noOwns, Bool.and_eq_true] at h
  simp only [rens]; rw [ren_noOwn h.1, rens_noOwn h.2]
end
theorem flatB_ren {ρ : Nat → Option Nat} {b : Blk} (hf : FitB b) : flatB (renB ρ b) = (flatB b).map (ren ρ) := by
 cases b with
 | free => first | rfl | trivial
 | mp l => first | rfl | exact hf
 | var v => exact flat_ren ρ v
 | ints k l => simp [renB, flatB, ren]
 | objs e w l =>
  simp only [renB, flatB]
  have : ∀ x ∈ flats l, ren ρ x = x := fun x hx => by
   obtain ⟨y, hy, hm⟩ := flats_mem hx
   exact ren_noOwn (flat_noOwn (hf y hy).2.1 x hm)
  rw [List.map_congr_left this, List.map_id']
theorem fitB_ren {ρ : Nat → Option Nat} {b : Blk} (hf : FitB b) : FitB (renB ρ b) := by
 cases b with
 | free => first | rfl | trivial
 | mp l => first | rfl | exact hf
 | var v => exact fit_ren ρ hf
 | ints k l => trivial
 | objs e w l => exact hf
structure Turn (E E' : Env) (ρ : Nat → Option Nat) : Prop where
 blk : ∀ id j, ρ id = some j → id < E.bl.length → j < E'.bl.length ∧ ∀ b', bget E'.bl j = some b' → ∃ b, bget E.bl id = some b ∧ E'.loc j = E.loc id ∧
  (∀ p q, offB b p = some q → offB b' p = some q) ∧ (∀ p r, rowB b p = some r → rowB b' p = some r)
theorem VR.roMono {E E' : Env} (hro : ∀ b o, E.ro b o → E'.ro b o ∧ E'.cell b o = E.cell b o) (hmp : MapsStay E E') {o : Bool} {x : AV} {v : Value} (h : VR E o x v) : o = false → VR E' o x v := by
 induction h with
 | any => exact fun _ => .any _ _
 | bool => exact fun _ => .bool _ _
 | int => exact fun _ => .int _ _ _
 | str => exact fun _ => .str _ _
 | nilp => exact fun _ => .nilp _
 | ptr => intro h; cases h
 | aptr => intro h; cases h
 | rptr o x a hf hs vv h hv ih => exact fun _ => .rptr o x a hf hs vv (fun j y hy => ⟨(hro _ _ (h j y hy).1).1, (hro _ _ (h j y hy).1).2.trans (h j y hy).2⟩) fun j y hy => ih j y hy rfl
 | snil => exact fun _ => .snil _
 | slice => intro h; cases h
 | own => intro h; cases h
 | rints o k l a cap hc h =>
  exact fun _ => .rints o k l a cap hc fun i hi => let ⟨ad, h1, h2, h3, h4⟩ := h i hi; ⟨ad, h1, h2, (hro _ _ h3).1, (hro _ _ h3).2.trans h4⟩
 | robjs o e w l a cap hc hw vv ha h hv ih =>
  exact fun _ => .robjs o e w l a cap hc hw vv ha (fun ad i x j y h1 h2 h3 => ⟨(hro _ _ (h ad i x j y h1 h2 h3).1).1, (hro _ _ (h ad i x j y h1 h2 h3).1).2.trans (h ad i x j y h1 h2 h3).2⟩) fun i x j y h1 h2 => ih i x j y h1 h2 rfl
 | agg o kids cs hf hs h ih => exact fun ho => .agg o kids cs hf hs fun j x c h1 h2 => ih j x c h1 h2 ho
 | ints o k n l h => exact fun _ => .ints o k n l h
 | tup o vs cs hs h ih => exact fun ho => .tup o vs cs hs fun j x c h1 h2 => ih j x c h1 h2 ho
 | fn o f xs ys as bs h1 h2 g1 g2 i1 i2 => exact fun ho => .fn o f xs ys as bs h1 h2 (fun j x c h1 h2 => i1 j x c h1 h2 ho) (fun j x c h1 h2 => i2 j x c h1 h2 ho)
 | nilf => exact fun _ => .nilf _
 | iface o t x v h ih => exact fun ho => .iface o t x v (ih ho)
 | nili => exact fun _ => .nili _
 | raw o v h1 h2 => exact fun _ => .raw _ _ h1 h2
 | errv o tF ts k v h => exact fun _ => .errv _ _ _ _ _ (h.ro hro)
 | rmap o l r es c hr hh hs hst hl hk hv ihk ihv => exact fun _ => .rmap o l r es c (hro _ _ hr).1 (hmp _ _ _ hr hh) hs hst hl (fun j e k v h1 h2 => ihk j e k v h1 h2 rfl) fun j e k v h1 h2 => ihv j e k v h1 h2 rfl
 | mown => intro h; cases h
theorem MapAt.to {E E' : Env} (hro : ∀ b o, E.ro b o → E'.ro b o ∧ E'.cell b o = E.cell b o) (hmp : MapsStay E E') {r : Nat} {l : List AV} (h : E'.w.heap[r]? = E.w.heap[r]?) (k : MapAt E r l) : MapAt E' r l := by
 obtain ⟨es, c, h1, h2, h3, h4⟩ := k
 exact ⟨es, c, h.trans h1, h2, h3, fun j e k v he hl => ⟨VR.roMono hro hmp (h4 j e k v he hl).1 rfl, VR.roMono hro hmp (h4 j e k v he hl).2 rfl⟩⟩
theorem isMp_ren (ρ : Nat → Option Nat) (b : Blk) : isMp (renB ρ b) = isMp b := by cases b <;> rfl
theorem mp_ren {ρ : Nat → Option Nat} {b : Blk} {l : List AV} (h : renB ρ b = .mp l) : b = .mp l := by cases b <;> first | exact h | cases h
theorem noRefs_mem : ∀ {l : List AV}, noRefs l = true → ∀ y ∈ l, noRef y = true
 | x :: r, h, y, hy => by
  simp only [noRefs, Bool.and_eq_true] at h
  rcases List.mem_cons.1 hy with rfl | hy
  ·exact h.1
  ·exact noRefs_mem h.2 y hy
mutual
theorem flat_noRef : ∀ {x : AV}, noRef x = true → ∀ y ∈ flat x, noRef y = true
 | .agg kids, h, y, hy => flats_noRef (by simpa [noRef] using h) y (by simpa [flat] using hy)
 | .ints k n l, _, y, hy => by
  simp only [flat, List.mem_map] at hy
  obtain ⟨z, _, rfl⟩ := hy
  rfl
 | .any, h, y, hy | .tup _, h, y, hy | .bool _, h, y, hy | .int _ _, h, y, hy | .str _, h, y, hy | .nilp, h, y, hy | .ptr _ _, h, y, hy | .aptr _ _ _ _, h, y, hy | .rptr _, h, y, hy | .snil, h, y, hy | .slice _ _ _ _ _, h, y, hy | .own _ _, h, y, hy
 | .rints _ _, h, y, hy | .robjs _ _ _, h, y, hy | .fn _ _ _, h, y, hy | .nilf, h, y, hy | .iface _ _, h, y, hy | .nili, h, y, hy | .raw _, h, y, hy | .errv _ _ _, h, y, hy | .rmap _, h, y, hy => by
  simp only [flat, List.mem_singleton] at hy
  subst hy
  exact h
theorem flats_noRef : ∀ {l : List AV}, noRefs l = true → ∀ y ∈ flats l, noRef y = true
 | x :: r, h, y, hy => by
  simp only [noRefs, Bool.and_eq_true] at h
  simp only [flats, List.mem_append] at hy
  rcases hy with hy | hy
  ·exact flat_noRef h.1 y hy
  ·exact flats_noRef h.2 y hy
end
theorem VR.turn {E E' : Env} {ρ : Nat → Option Nat} (s : Turn E E' ρ) {R0 : Prop} (hro : R0 → ∀ b o, E.ro b o → E'.ro b o ∧ E'.cell b o = E.cell b o) (hmp : MapsStay E E') {o : Bool} {x : AV} {v : Value} (h : VR E o x v) : R0 ∨ noRef x = true → VR E' o (ren ρ x) v := by
 induction h with
 | any => exact fun _ => .any _ _
 | bool => exact fun _ => .bool _ _
 | int => exact fun _ => .int _ _ _
 | str => exact fun _ => .str _ _
 | nilp => exact fun _ => .nilp _
 | ptr id path a hid h =>
  intro _
  simp only [ren]
  split
  ·rename_i j hj
   obtain ⟨h1, h2⟩ := s.blk id j hj hid
   refine .ptr j path a h1 fun b' hb => ?_
   obtain ⟨b, hb0, hl, ho, _⟩ := h2 b' hb
   obtain ⟨k1, q, k2, k3, k4⟩ := h b hb0
   exact ⟨k1, q, ho _ _ k2, by rw [hl]; exact k3, by rw [hl]; exact k4⟩
  ·exact .any _ _
 | aptr id path st n a hid h =>
  intro _
  simp only [ren]
  split
  ·rename_i j hj
   obtain ⟨h1, h2⟩ := s.blk id j hj hid
   refine .aptr j path st n a h1 fun b' hb => ?_
   obtain ⟨b, hb0, hl, _, hr⟩ := h2 b' hb
   obtain ⟨k1, q, w, c, k2, k3⟩ := h b hb0
   exact ⟨k1, q, w, c, hr _ _ k2, by rw [hl]; exact k3⟩
  ·exact .any _ _
 | rptr o x a hf hs vv h hv ih =>
  intro hr
  rcases hr with hr | hr
  ·simp only [ren]
   have hno : ∀ (j : Nat) y, (flat x)[j]? = some y → VR E' false y (vv j) := fun j y hy => VR.roMono (hro hr) hmp (hv j y hy) rfl
   exact .rptr o x a hf hs vv (fun j y hy => ⟨(hro hr _ _ (h j y hy).1).1, (hro hr _ _ (h j y hy).1).2.trans (h j y hy).2⟩) hno
  ·simp [noRef] at hr
 | snil => exact fun _ => .snil _
 | slice id path st len w a cap hid hc hs h =>
  intro _
  simp only [ren]
  split
  ·rename_i j hj
   obtain ⟨h1, h2⟩ := s.blk id j hj hid
   refine .slice j path st len w a cap h1 hc hs fun b' hb => ?_
   obtain ⟨b, hb0, hl, _, hr⟩ := h2 b' hb
   obtain ⟨q, c, k2, k3⟩ := h b hb0
   exact ⟨q, c, hr _ _ k2, by rw [hl]; exact k3⟩
  ·exact .any _ _
 | own id w len a cap hid hc h =>
  intro _
  simp only [ren]
  split
  ·rename_i j hj
   obtain ⟨h1, h2⟩ := s.blk id j hj hid
   refine .own j w len a cap h1 hc fun b' hb => ?_
   obtain ⟨b, hb0, hl, _, hr⟩ := h2 b' hb
   obtain ⟨k2, k3⟩ := h b hb0
   exact ⟨hr _ _ k2, by rw [hl]; exact k3⟩
  ·exact .any _ _
 | rints o k l a cap hc h =>
  intro hr
  rcases hr with hr | hr
  ·refine .rints o k l a cap hc fun i hi => ?_
   obtain ⟨ad, h1, h2, h3, h4⟩ := h i hi
   exact ⟨ad, h1, h2, (hro hr _ _ h3).1, (hro hr _ _ h3).2.trans h4⟩
  ·simp [noRef] at hr
 | robjs o e w l a cap hc hw vv ha h hv ih =>
  intro hr
  rcases hr with hr | hr
  ·simp only [ren]
   exact .robjs o e w l a cap hc hw vv ha (fun ad i x j y h1 h2 h3 => ⟨(hro hr _ _ (h ad i x j y h1 h2 h3).1).1, (hro hr _ _ (h ad i x j y h1 h2 h3).1).2.trans (h ad i x j y h1 h2 h3).2⟩) fun i x j y h1 h2 => VR.roMono (hro hr) hmp (hv i x j y h1 h2) rfl
  ·simp [noRef] at hr
 | agg o kids cs hf hs h ih =>
  intro hr
  have e : flats (rens ρ kids) = (flats kids).map (ren ρ) := flats_ren ρ kids
  have hf' := fit_ren ρ hf
  simp only [ren] at hf' ⊢
  refine .agg o _ cs hf' (by rw [e, List.length_map]; exact hs) fun j x c h1 h2 => ?_
  rw [e, List.getElem?_map] at h1
  cases h3 : (flats kids)[j]? with
  | none => rw [h3] at h1; cases h1
  | some y =>
   rw [h3] at h1
   cases h1
   exact ih j y c h3 h2 (hr.imp_right fun hr => flats_noRef (by simpa [noRef] using hr) y (List.mem_of_getElem? h3))
 | ints o k n l h => exact fun _ => .ints o k n l h
 | tup o vs cs hs h ih =>
  intro hr
  simp only [ren, rens_eq_map]
  refine .tup o _ cs (by rw [List.length_map]; exact hs) fun j x c h1 h2 => ?_
  rw [List.getElem?_map] at h1
  cases h3 : vs[j]? with
  | none => rw [h3] at h1; cases h1
  | some y =>
   rw [h3] at h1
   cases h1
   exact ih j y c h3 h2 (hr.imp_right fun hr => noRefs_mem (by simpa [noRef] using hr) y (List.mem_of_getElem? h3))
 | fn o f xs ys as bs h1 h2 g1 g2 i1 i2 =>
  intro hr
  have hr' : R0 ∨ (noRefs xs = true ∧ noRefs ys = true) := hr.imp_right fun hr => by simpa [noRef] using hr
  simp only [ren, rens_eq_map]
  refine .fn o f _ _ as bs (by rw [List.length_map]; exact h1) (by rw [List.length_map]; exact h2) (fun j x c k1 k2 => ?_) (fun j x c k1 k2 => ?_)
  ·rw [List.getElem?_map] at k1
   cases k3 : xs[j]? with
   | none => rw [k3] at k1; cases k1
   | some y =>
    rw [k3] at k1
    cases k1
    exact i1 j y c k3 k2 (hr'.imp_right fun hr => noRefs_mem hr.1 y (List.mem_of_getElem? k3))
  ·rw [List.getElem?_map] at k1
   cases k3 : ys[j]? with
   | none => rw [k3] at k1; cases k1
   | some y =>
    rw [k3] at k1
    cases k1
    exact i2 j y c k3 k2 (hr'.imp_right fun hr => noRefs_mem hr.2 y (List.mem_of_getElem? k3))
 | nilf => exact fun _ => .nilf _
 | iface o t x v h ih => intro hr; simp only [ren]; exact .iface o t _ v (ih (by simpa [noRef] using hr))
 | nili => exact fun _ => .nili _
 | raw o v h1 h2 => exact fun _ => .raw _ _ h1 h2
 | errv o tF ts k v h => 
  intro hr
  rcases hr with hr | hr
  ·exact .errv _ _ _ _ _ (h.ro (hro hr))
  ·simp [noRef] at hr
 | rmap o l r es c hr0 hh hs hst hl hk hv ihk ihv =>
  intro hr
  rcases hr with hr | hr
  ·exact .rmap o l r es c (hro hr _ _ hr0).1 (hmp _ _ _ hr0 hh) hs hst hl (fun j e k v h1 h2 => VR.roMono (hro hr) hmp (hk j e k v h1 h2) rfl) fun j e k v h1 h2 => VR.roMono (hro hr) hmp (hv j e k v h1 h2) rfl
  ·simp [noRef] at hr
 | mown id r hid h =>
  intro _
  simp only [ren]
  split
  ·rename_i j hj
   obtain ⟨h1, h2⟩ := s.blk id j hj hid
   refine .mown j r h1 fun b' hb => ?_
   obtain ⟨b, hb0, hl, _, hr⟩ := h2 b' hb
   obtain ⟨k2, k3⟩ := h b hb0
   exact ⟨hr _ _ k2, by rw [hl]; exact k3⟩
  ·exact .any _ _
end
end Go.Abs
end
section
set_option linter.unusedVariables false
set_option linter.unusedSimpArgs false
namespace Go.Abs
open Go
theorem reach_spec (bl : Blks) : ∀ (f : Nat) (todo acc : List Nat), acc.Nodup → (∀ i ∈ acc, i < bl.length) → (reach bl f todo acc).Nodup ∧ ∀ i ∈ reach bl f todo acc, i < bl.length
 | 0, _, acc, h, k => ⟨h, k⟩
 | f + 1, [], acc, h, k => ⟨h, k⟩
 | f + 1, i :: r, acc, h, k => by
  unfold reach
  split
  ·exact reach_spec bl f r acc h k
  ·rename_i hc
   simp at hc
   refine reach_spec bl f _ _ ?_ ?_
   ·rw [List.nodup_append]
    exact ⟨h, by simp, fun a ha b hb => by simp at hb; subst hb; intro e; subst e; exact hc.1 ha⟩
   ·intro j hj
    rcases List.mem_append.1 hj with hj | hj
    ·exact k j hj
    ·simp at hj; subst hj; exact hc.2
theorem pos_go : ∀ (l : List Nat) (n i j : Nat), pos.go i l n = some j → n ≤ j ∧ l[j - n]? = some i
 | [], n, i, j, h => by cases h
 | x :: r, n, i, j, h => by
  unfold pos.go at h
  split at h
  ·rename_i e
   cases h
   simp [e]
  ·have := pos_go r (n + 1) i j h
   refine ⟨by omega, ?_⟩
   rw [show j - n = (j - (n + 1)) + 1 by omega, List.getElem?_cons_succ]
   exact this.2
theorem pos_spec {l : List Nat} {i j : Nat} (h : pos l i = some j) : l[j]? = some i := by
 have := (pos_go l 0 i j h).2
 simpa using this
def Env.lend (E : Env) (lent : List Nat) (looks : Bool) : Env :=
 {w := E.w
  ro := fun b o => E.ro b o ∨ (looks = true ∧ ∃ id blk, id ∉ lent ∧ bget E.bl id = some blk ∧ InExt E id b o)
  loc := fun j => E.loc (lent.getD j 0)
  bl := lent.map fun i => (bget E.bl i).map (renB (pos lent)) }
theorem lend_get {E : Env} {lent : List Nat} {looks : Bool} {j : Nat} {b' : Blk} (h : bget (E.lend lent looks).bl j = some b') :
  ∃ id b, lent[j]? = some id ∧ bget E.bl id = some b ∧ b' = renB (pos lent) b ∧ (E.lend lent looks).loc j = E.loc id := by
 have hl := bget_lt h
 simp only [Env.lend, List.length_map] at hl
 simp only [Env.lend, bget, List.getD_eq_getElem?_getD, List.getElem?_map] at h
 rw [List.getElem?_eq_getElem hl] at h
 simp only [Option.map_some, Option.getD_some] at h
 cases hb : bget E.bl lent[j] with
 | none => rw [show (E.bl[lent[j]]?.getD none) = bget E.bl lent[j] by simp [bget], hb] at h; cases h
 | some b =>
  rw [show (E.bl[lent[j]]?.getD none) = bget E.bl lent[j] by simp [bget], hb] at h
  cases h
  exact ⟨lent[j], b, List.getElem?_eq_getElem hl, hb, rfl, by simp [Env.lend, hl]⟩
theorem Turn.lend {E : Env} {lent : List Nat} {looks : Bool} (hl : ∀ i ∈ lent, i < E.bl.length) : Turn E (E.lend lent looks) (pos lent) := by
 refine ⟨fun id j hj hid => ⟨?_, fun b' hb => ?_⟩⟩
 ·have := pos_spec hj
  have := (List.getElem?_eq_some_iff.1 this).1
  simpa [Env.lend] using this
 ·obtain ⟨id', b, h1, h2, rfl, h3⟩ := lend_get hb
  rw [pos_spec hj] at h1
  cases h1
  exact ⟨b, h2, h3, fun p q h => by rw [offB_ren]; exact h, fun p r h => by rw [rowB_ren]; exact h⟩
theorem own_lend {E : Env} {lent : List Nat} {looks : Bool} {b o : Nat} (h : Own (E.lend lent looks) b o) : ∃ id blk, id ∈ lent ∧ bget E.bl id = some blk ∧ InExt E id b o := by
 obtain ⟨j, b', hb, hx⟩ := h
 obtain ⟨id, blk, h1, h2, h3, h4⟩ := lend_get hb
 unfold InExt at hx
 rw [h4] at hx
 exact ⟨id, blk, List.mem_of_getElem? h1, h2, hx⟩
theorem lend_ro {E : Env} {lent : List Nat} {looks : Bool} : True → ∀ b o, E.ro b o → (E.lend lent looks).ro b o ∧ (E.lend lent looks).cell b o = E.cell b o :=
 fun _ b o h => ⟨.inl h, rfl⟩
theorem Mem.lend {E : Env} {lent : List Nat} {looks : Bool} (m : Mem E) (hl : ∀ i ∈ lent, i < E.bl.length) (hn : lent.Nodup) : Mem (E.lend lent looks) := by
 refine ⟨fun j b' hb => ?_, fun i j bi bj hij hi hj b o hx hy => ?_, fun b o h => ?_, fun b o ho h => ?_⟩
 ·obtain ⟨id, blk, h1, h2, rfl, h4⟩ := lend_get hb
  have k := m.ok id blk h2
  refine ⟨fitB_ren k.fit, by rw [flatB_ren k.fit, List.length_map, h4]; exact k.len, fun i x hx => ?_, fun hm i hi => ?_, fun l hl => ?_⟩
  ·rw [flatB_ren k.fit, List.getElem?_map] at hx
   cases hy : (flatB blk)[i]? with
   | none => rw [hy] at hx; cases hx
   | some y =>
    rw [hy] at hx
    cases hx
    obtain ⟨v, h5, h6⟩ := k.cells i y hy
    exact ⟨v, by rw [h4]; exact h5, VR.turn (Turn.lend hl) lend_ro (fun _ _ _ _ h => h) h6 (.inl trivial)⟩
  ·rw [h4] at hi ⊢
   rw [isMp_ren] at hm
   exact k.room hm i hi
  ·rw [h4]
   have := k.mp l (mp_ren hl)
   exact ⟨this.1, this.2.to (lend_ro trivial) (fun _ _ _ _ h => h) rfl⟩
 ·obtain ⟨id, blk, h1, h2, _, h4⟩ := lend_get hi
  obtain ⟨id', blk', k1, k2, _, k4⟩ := lend_get hj
  unfold InExt at hx hy
  rw [h4] at hx
  rw [k4] at hy
  refine m.dis id id' blk blk' (fun e => ?_) h2 k2 b o hx hy
  subst e
  exact hij ((List.getElem?_inj (List.getElem?_eq_some_iff.1 h1).1 hn).1 (h1.trans k1.symm))
 ·rcases h with h | ⟨_, id, blk, _, h2, h3⟩
  ·exact m.roe b o h
  ·exact m.own_lt ⟨id, blk, h2, h3⟩
 ·obtain ⟨id, blk, h1, h2, h3⟩ := own_lend ho
  rcases h with h | ⟨_, id', blk', k1, k2, k3⟩
  ·exact m.rod b o ⟨id, blk, h2, h3⟩ h
  ·exact m.dis id id' blk blk' (fun e => k1 (e ▸ h1)) h2 k2 b o h3 k3
theorem putBack_get (ρ : Nat → Option Nat) : ∀ (lent : List Nat) (out bl : Blks), lent.Nodup → (∀ i ∈ lent, i < bl.length) → lent.length ≤ out.length →
  (putBack ρ lent out bl).length = bl.length + (out.length - lent.length) ∧
  (∀ i, i < bl.length → i ∉ lent → bget (putBack ρ lent out bl) i = bget bl i) ∧
  (∀ (j : Nat) i, lent[j]? = some i → bget (putBack ρ lent out bl) i = (bget out j).map (renB ρ)) ∧
  ∀ j, bget (putBack ρ lent out bl) (bl.length + j) = (bget out (lent.length + j)).map (renB ρ)
 | [], out, bl, _, _, _ => by
  unfold putBack
  refine ⟨by simp, fun i hi _ => bget_append hi, fun j i h => by simp at h, fun j => ?_⟩
  simp only [bget, List.getD_eq_getElem?_getD]
  rw [List.getElem?_append_right (by omega)]
  simp only [Nat.add_sub_cancel_left, List.getElem?_map, List.length_nil, Nat.zero_add]
  cases out[j]? <;> rfl
 | i :: is, [], bl, _, _, hl => by simp at hl
 | i :: is, b :: out, bl, hn, hb, hl => by
  unfold putBack
  rw [List.nodup_cons] at hn
  obtain ⟨h1, h2, h3, h4⟩ := putBack_get ρ is out (bl.set i (b.map (renB ρ))) hn.2 (fun j hj => by simpa using hb j (by simp [hj])) (by simpa using hl)
  have hi : i < bl.length := hb i (by simp)
  refine ⟨by simpa using h1, fun k hk hm => ?_, fun j k hj => ?_, fun j => ?_⟩
  ·simp only [List.mem_cons, not_or] at hm
   rw [h2 k (by simpa using hk) hm.2, bget_set_ne (fun e => hm.1 e.symm)]
  ·cases j with
   | zero =>
    simp at hj
    subst hj
    rw [h2 i (by simpa using hi) hn.1, bget_set_self hi]
    rfl
   | succ j =>
    rw [h3 j k (by simpa using hj)]
    simp [bget]
  ·have := h4 j
   simp only [List.length_set] at this
   rw [this]
   simp [bget, Nat.succ_add]
def Env.back (E E2 : Env) (lent : List Nat) (looks : Bool) (out : Blks) : Env :=
 {w := E2.w
  ro := fun b o => if looks = true then E.ro b o else E2.ro b o
  loc := fun i => if i < E.bl.length then E.loc i else E2.loc (lent.length + (i - E.bl.length))
  bl := putBack (backOf lent E.bl.length) lent out E.bl }
structure BackIn (E E2 : Env) (lent : List Nat) (looks : Bool) (out : Blks) : Prop where
 m : Mem E
 hl : ∀ i ∈ lent, i < E.bl.length
 hn : lent.Nodup
 go : Go (E.lend lent looks) E2
 bl : E2.bl = out
 rf : looks = true → refFree out = true
 nf : noFrees E.bl lent = true
theorem refFree_get : ∀ {out : Blks} {j : Nat} {b : Blk}, refFree out = true → bget out j = some b → (∃ v, b = .var v ∧ noRef v = true) ∨ (∃ k l, b = .ints k l) ∨ b = .free
 | [], j, b, _, h => by simp [bget] at h
 | x :: r, 0, b, hr, h => by
  simp [bget] at h
  subst h
  unfold refFree at hr
  split at hr
  ·rename_i heq; cases heq
  ·rename_i heq
   injection heq with h1 h2
   injection h1 with h1
   subst h1
   simp at hr
   exact .inl ⟨_, rfl, hr.1⟩
  ·cases hr
  ·cases hr
  ·rename_i h1 h2 h2' heq
   injection heq with h3 h4
   subst h3
   cases b with
   | mp l => exact absurd rfl (h2' l)
   | free => exact .inr (.inr rfl)
   | var v => exact absurd rfl (h1 v)
   | ints k l => exact .inr (.inl ⟨k, l, rfl⟩)
   | objs e w l => exact absurd rfl (h2 e w l)
 | x :: r, j + 1, b, hr, h => by
  have h' : bget r j = some b := by simpa [bget] using h
  refine refFree_get (out := r) (j := j) ?_ h'
  unfold refFree at hr
  split at hr
  ·rename_i heq; cases heq
  ·rename_i heq
   injection heq with h1 h2
   subst h2
   simp at hr
   exact hr.2
  ·cases hr
  ·cases hr
  ·rename_i heq
   injection heq with h3 h4
   subst h4
   exact hr
theorem refFree_flat {b : Blk} (h : (∃ v, b = .var v ∧ noRef v = true) ∨ (∃ k l, b = .ints k l) ∨ b = .free) : ∀ y ∈ flatB b, noRef y = true := by
 rcases h with ⟨v, rfl, h⟩ | ⟨k, l, rfl⟩ | rfl
 rotate_left 2
 ·intro y hy; simp [flatB] at hy
 ·exact flat_noRef h
 ·intro y hy
  simp [flatB] at hy
  obtain ⟨z, _, rfl⟩ := hy
  rfl
theorem BackIn.old {E E2 : Env} {lent : List Nat} {looks : Bool} {out : Blks} (B : BackIn E E2 lent looks out) {j : Nat} (hj : j < (E.lend lent looks).bl.length) {b2 : Blk} (hb : bget E2.bl j = some b2) :
  ∃ blk, bget (E.lend lent looks).bl j = some blk ∧ E2.loc j = (E.lend lent looks).loc j ∧ (∀ p q, offB blk p = some q → offB b2 p = some q) ∧ (∀ p r, rowB blk p = some r → rowB b2 p = some r) := by
 rcases B.go.step.blk j hj b2 hb with hf | h
 ·obtain ⟨id, b, h1, h2, h3, _⟩ := lend_get hf
  have : b = .free := by cases b <;> simp [renB] at h3 ⊢
  subst this
  have := List.all_eq_true.1 B.nf id (List.mem_of_getElem? h1)
  simp [h2] at this
 ·exact h
theorem back_get {E E2 : Env} {lent : List Nat} {looks : Bool} {out : Blks} (B : BackIn E E2 lent looks out) {i : Nat} {b : Blk} (h : bget (E.back E2 lent looks out).bl i = some b) :
  (i ∉ lent ∧ bget E.bl i = some b ∧ (E.back E2 lent looks out).loc i = E.loc i) ∨
  ∃ j b2, bget out j = some b2 ∧ b = renB (backOf lent E.bl.length) b2 ∧ (E.back E2 lent looks out).loc i = E2.loc j ∧
   ((lent[j]? = some i ∧ i < E.bl.length ∧ E2.loc j = E.loc i) ∨ (lent.length ≤ j ∧ i = E.bl.length + (j - lent.length))) := by
 have hlo : lent.length ≤ out.length := by
  have := B.go.step.len
  rw [B.bl] at this
  simpa [Env.lend] using this
 obtain ⟨h1, h2, h3, h4⟩ := putBack_get (backOf lent E.bl.length) lent out E.bl B.hn B.hl hlo
 rcases Nat.lt_or_ge i E.bl.length with hi | hi
 ·by_cases hm : i ∈ lent
  ·obtain ⟨j, hj⟩ := List.getElem?_of_mem hm
   have := h3 j i hj
   change bget (putBack _ _ _ _) i = some b at h
   rw [this] at h
   cases hb : bget out j with
   | none => rw [hb] at h; cases h
   | some b2 =>
    rw [hb] at h
    cases h
    have hjl : j < (E.lend lent looks).bl.length := by have := (List.getElem?_eq_some_iff.1 hj).1; simpa [Env.lend] using this
    obtain ⟨b1, k1, k2, _⟩ := B.old hjl (by rw [B.bl]; exact hb)
    obtain ⟨id, b0, g1, g2, g3, g4⟩ := lend_get k1
    rw [hj] at g1
    cases g1
    have e : E2.loc j = E.loc i := k2.trans g4
    exact .inr ⟨j, b2, hb, rfl, by simp [Env.back, hi, e], .inl ⟨hj, hi, e⟩⟩
  ·have := h2 i hi hm
   change bget (putBack _ _ _ _) i = some b at h
   rw [this] at h
   exact .inl ⟨hm, h, by simp [Env.back, hi]⟩
 ·have := h4 (i - E.bl.length)
  rw [show E.bl.length + (i - E.bl.length) = i by omega] at this
  change bget (putBack _ _ _ _) i = some b at h
  rw [this] at h
  cases hb : bget out (lent.length + (i - E.bl.length)) with
  | none => rw [hb] at h; cases h
  | some b2 =>
   rw [hb] at h
   cases h
   exact .inr ⟨_, b2, hb, rfl, by simp [Env.back, Nat.not_lt.2 hi], .inr ⟨by omega, by omega⟩⟩
theorem Turn.back {E E2 : Env} {lent : List Nat} {looks : Bool} {out : Blks} (B : BackIn E E2 lent looks out) : Turn E2 (E.back E2 lent looks out) (backOf lent E.bl.length) := by
 have hlo : lent.length ≤ out.length := by
  have := B.go.step.len
  rw [B.bl] at this
  simpa [Env.lend] using this
 obtain ⟨h1, h2, h3, h4⟩ := putBack_get (backOf lent E.bl.length) lent out E.bl B.hn B.hl hlo
 refine ⟨fun id j hj hid => ?_⟩
 rw [B.bl] at hid
 unfold backOf at hj
 split at hj
 ·rename_i hlt
  have hjE := B.hl j (List.mem_of_getElem? hj)
  refine ⟨by show j < (putBack _ _ _ _).length; rw [h1]; omega, fun b' hb => ?_⟩
  change bget (putBack _ _ _ _) j = some b' at hb
  rw [h3 id j hj] at hb
  cases ho : bget out id with
  | none => rw [ho] at hb; cases hb
  | some b2 =>
   rw [ho] at hb
   cases hb
   have hjl : id < (E.lend lent looks).bl.length := by simpa [Env.lend] using hlt
   obtain ⟨b1, k1, k2, _⟩ := B.old hjl (by rw [B.bl]; exact ho)
   obtain ⟨i, b0, g1, g2, g3, g4⟩ := lend_get k1
   rw [hj] at g1
   cases g1
   exact ⟨b2, by rw [B.bl]; exact ho, by simp only [Env.back, hjE, if_true]; exact (k2.trans g4).symm, fun p q h => by rw [offB_ren]; exact h, fun p r h => by rw [rowB_ren]; exact h⟩
 ·rename_i hlt
  cases hj
  refine ⟨by show _ < (putBack _ _ _ _).length; rw [h1]; omega, fun b' hb => ?_⟩
  change bget (putBack _ _ _ _) _ = some b' at hb
  rw [h4, show lent.length + (id - lent.length) = id by omega] at hb
  cases ho : bget out id with
  | none => rw [ho] at hb; cases hb
  | some b2 =>
   rw [ho] at hb
   cases hb
   exact ⟨b2, by rw [B.bl]; exact ho, by simp only [Env.back]; rw [if_neg (by omega), show lent.length + (E.bl.length + (id - lent.length) - E.bl.length) = id by omega], fun p q h => by rw [offB_ren]; exact h, fun p r h => by rw [rowB_ren]; exact h⟩
theorem Fr.back {E E2 : Env} {lent : List Nat} {looks : Bool} {out : Blks} (B : BackIn E E2 lent looks out) : Fr E (E.back E2 lent looks out) := by
 have f := B.go.fr
 have ol : ∀ b o, Own (E.lend lent looks) b o → Own E b o := fun b o h => let ⟨id, blk, _, h2, h3⟩ := own_lend h; ⟨id, blk, h2, h3⟩
 have o2 : ∀ b o, Own E2 b o → Own E b o ∨ E.w.heap.size ≤ b := fun b o h => (f.own b o h).imp (ol b o) id
 refine ⟨f.os, f.tape, f.output, f.size, fun b o hb hn => f.cell b o hb fun h => hn (ol b o h), fun b hb hn => f.blk b hb fun o h => hn o (ol b o h),
  fun b o hb hn => f.frz b o hb fun h => hn (ol b o h), fun b o h => ?_, fun b o h => ?_, fun b o h => ?_⟩
 ·obtain ⟨i, bk, hb, hx⟩ := h
  unfold InExt at hx
  rcases back_get B hb with ⟨_, h2, h3⟩ | ⟨j, b2, h2, _, h3, _⟩
  ·rw [h3] at hx
   exact .inl ⟨i, bk, h2, hx⟩
  ·rw [h3] at hx
   exact o2 b o ⟨j, b2, by rw [B.bl]; exact h2, hx⟩
 ·simp only [Env.back] at h
  split at h
  ·exact .inl h
  ·rename_i hk
   rcases f.roi b o h with h | h | h
   ·rcases h with h | ⟨h, _⟩
    ·exact .inl h
    ·exact absurd h hk
   ·exact .inr (.inl (ol b o h))
   ·exact .inr (.inr h)
 ·simp only [Env.back]
  split
  ·exact h
  ·exact f.rom b o (.inl h)
theorem Go.back {E E2 : Env} {lent : List Nat} {looks : Bool} {out : Blks} (B : BackIn E E2 lent looks out) : Go E (E.back E2 lent looks out) := by
 have f := B.go.fr
 have fr := Fr.back B
 have hlo : lent.length ≤ out.length := by
  have := B.go.step.len
  rw [B.bl] at this
  simpa [Env.lend] using this
 obtain ⟨h1, h2, h3, h4⟩ := putBack_get (backOf lent E.bl.length) lent out E.bl B.hn B.hl hlo
 have st : Step E (E.back E2 lent looks out) := .of_fr B.m fr (by show _ ≤ (putBack _ _ _ _).length; rw [h1]; omega) fun id hid blk' hb => by
  rcases back_get B hb with ⟨_, g2, g3⟩ | ⟨j, b2, g2, rfl, g3, g4⟩
  ·exact ⟨blk', g2, g3, fun _ _ h => h, fun _ _ h => h⟩
  ·rcases g4 with ⟨g4, _, g5⟩ | ⟨_, g4⟩
   ·have hjl : j < (E.lend lent looks).bl.length := by have := (List.getElem?_eq_some_iff.1 g4).1; simpa [Env.lend] using this
    obtain ⟨b1, k1, k2, k3, k4⟩ := B.old hjl (by rw [B.bl]; exact g2)
    obtain ⟨i, b0, e1, e2, rfl, e4⟩ := lend_get k1
    rw [g4] at e1
    cases e1
    refine ⟨b0, e2, g3.trans g5, fun p q h => ?_, fun p r h => ?_⟩
    ·rw [offB_ren]
     exact k3 p q (by rw [offB_ren]; exact h)
    ·rw [rowB_ren]
     exact k4 p r (by rw [rowB_ren]; exact h)
   ·omega
 have ro2 : ∀ b o, (E.back E2 lent looks out).ro b o → E2.ro b o := fun b o h => by
  simp only [Env.back] at h
  split at h
  ·exact f.rom b o (.inl h)
  ·exact h
 have nl : ∀ id blk, id ∉ lent → bget E.bl id = some blk → ∀ b o, InExt E id b o → ¬ Own (E.lend lent looks) b o := fun id blk hm hb b o hx ho => by
  obtain ⟨id', blk', k1, k2, k3⟩ := own_lend ho
  exact B.m.dis id id' blk blk' (fun e => hm (e ▸ k1)) hb k2 b o hx k3
 refine ⟨st, fr, ⟨fun i bk hb => ?_, fun i j bi bj hij hi hj b o hx hy => ?_, fun b o h => B.go.mem.roe b o (ro2 b o h), fun b o ho h => ?_⟩⟩
 ·rcases back_get B hb with ⟨g1, g2, g3⟩ | ⟨j, b2, g2, rfl, g3, g4⟩
  ·have k := B.m.ok i bk g2
   have same : ∀ j, j < (E.loc i).2.2 → ¬ Own (E.lend lent looks) (E.loc i).1 ((E.loc i).2.1 + j) := fun j hj => nl i bk g1 g2 _ _ ⟨rfl, by omega, by omega⟩
   refine ⟨k.fit, by rw [g3]; exact k.len, fun j x hx => ?_, fun hm j hj => ?_, fun l hl => ?_⟩
   ·obtain ⟨v, e1, e2⟩ := k.cells j x hx
    have hj : j < (E.loc i).2.2 := by have := (List.getElem?_eq_some_iff.1 hx).1; have := k.len; omega
    rw [g3]
    exact ⟨v, (f.cell _ _ (cell_lt (by show (E.cell _ _).isSome = true; rw [e1]; rfl)) (same j hj)).trans e1, e2.mono st⟩
   ·rw [g3] at hj ⊢
    have e := k.room hm j hj
    have hlt := cell_lt e.1
    exact ⟨by rw [show (E.back E2 lent looks out).cell _ _ = _ from f.cell _ _ hlt (same j hj)]; exact e.1, (f.frz _ _ hlt (same j hj)).trans e.2⟩
   ·rw [g3]
    subst hl
    have := k.mp l rfl
    refine ⟨this.1, this.2.mono st (f.blk _ this.2.lt fun o ho => ?_)⟩
    obtain ⟨id', blk', k1, k2, k3⟩ := own_lend ho
    exact g1 (B.m.mp_alone g2 k2 k3 ▸ k1)
  ·have k := B.go.mem.ok j b2 (by rw [B.bl]; exact g2)
   refine ⟨fitB_ren k.fit, by rw [flatB_ren k.fit, List.length_map, g3]; exact k.len, fun n x hx => ?_, fun hm n hn => by rw [g3] at hn ⊢; rw [isMp_ren] at hm; exact k.room hm n hn, fun l hl => ?_⟩
   rotate_left
   ·rw [g3]
    have hl2 := mp_ren hl
    have := k.mp l hl2
    have hk : looks ≠ true := fun hk => by
     rcases refFree_get (B.rf hk) g2 with ⟨v, e, _⟩ | ⟨k, l, e⟩ | e <;> rw [hl2] at e <;> cases e
    exact ⟨this.1, MapAt.to (E := E2) (E' := E.back E2 lent looks out) (fun b o (h : E2.ro b o) => ⟨by simp only [Env.back, if_neg hk]; exact h, rfl⟩) (fun _ _ _ _ h => h) rfl this.2⟩
   rw [flatB_ren k.fit, List.getElem?_map] at hx
   cases hy : (flatB b2)[n]? with
   | none => rw [hy] at hx; cases hx
   | some y =>
    rw [hy] at hx
    cases hx
    obtain ⟨v, e1, e2⟩ := k.cells n y hy
    rw [g3]
    refine ⟨v, e1, VR.turn (R0 := looks ≠ true) (Turn.back B) (fun hk b o h => ⟨by simp only [Env.back, hk, if_false]; exact h, rfl⟩) (fun _ _ _ _ h => h) e2 ?_⟩
    by_cases hk : looks = true
    ·exact .inr (refFree_flat (refFree_get (B.rf hk) g2) y (List.mem_of_getElem? hy))
    ·exact .inl hk
 ·unfold InExt at hx hy
  rcases back_get B hi with ⟨g1, g2, g3⟩ | ⟨n, b2, g2, _, g3, g4⟩ <;> rcases back_get B hj with ⟨e1, e2, e3⟩ | ⟨k, c2, e2, _, e3, e4⟩
  ·rw [g3] at hx
   rw [e3] at hy
   exact B.m.dis i j bi bj hij g2 e2 b o hx hy
  ·rw [g3] at hx
   rw [e3] at hy
   rcases f.own b o ⟨k, c2, by rw [B.bl]; exact e2, hy⟩ with h | h
   ·exact nl i bi g1 g2 b o hx h
   ·have := B.m.own_lt ⟨i, bi, g2, hx⟩
    change E.w.heap.size ≤ b at h
    omega
  ·rw [g3] at hx
   rw [e3] at hy
   rcases f.own b o ⟨n, b2, by rw [B.bl]; exact g2, hx⟩ with h | h
   ·exact nl j bj e1 e2 b o hy h
   ·have := B.m.own_lt ⟨j, bj, e2, hy⟩
    change E.w.heap.size ≤ b at h
    omega
  ·rw [g3] at hx
   rw [e3] at hy
   refine B.go.mem.dis n k b2 c2 (fun e => hij ?_) (by rw [B.bl]; exact g2) (by rw [B.bl]; exact e2) b o hx hy
   subst e
   rcases g4 with ⟨g4, _⟩ | ⟨g4, g5⟩ <;> rcases e4 with ⟨e4, _⟩ | ⟨e4, e5⟩
   ·exact Option.some.inj (g4.symm.trans e4)
   ·have := (List.getElem?_eq_some_iff.1 g4).1
    omega
   ·have := (List.getElem?_eq_some_iff.1 e4).1
    omega
   ·omega
 ·obtain ⟨i, bk, hb, hx⟩ := ho
  unfold InExt at hx
  rcases back_get B hb with ⟨g1, g2, g3⟩ | ⟨j, b2, g2, _, g3, _⟩
  ·rw [g3] at hx
   simp only [Env.back] at h
   split at h
   ·exact B.m.rod b o ⟨i, bk, g2, hx⟩ h
   ·rename_i hk
    rcases f.roi b o h with h | h | h
    ·rcases h with h | ⟨h, _⟩
     ·exact B.m.rod b o ⟨i, bk, g2, hx⟩ h
     ·exact absurd h hk
    ·exact nl i bk g1 g2 b o hx h
    ·have := B.m.own_lt ⟨i, bk, g2, hx⟩
     change E.w.heap.size ≤ b at h
     omega
  ·rw [g3] at hx
   exact B.go.mem.rod b o ⟨j, b2, by rw [B.bl]; exact g2, hx⟩ (ro2 b o h)
end Go.Abs
end
