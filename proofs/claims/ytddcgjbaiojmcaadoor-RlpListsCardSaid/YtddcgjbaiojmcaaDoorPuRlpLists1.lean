/- Plain laws about what the functions compute. Conditions: the arguments' bounds, as each theorem says. -/
import Derived.Test.YtddcgjbaiojmcaaDoorFnRlpLists1
import Derived.Test.YtddcgjbaiojmcaaDoorAbsL7
import Derived.Test.YtddcgjbaiojmcaaDoorProg
import Derived.Test.YtddcgjbaiojmcaaDoorBinL1
import Derived.Test.YtddcgjbaiojmcaaDoorRows
import Derived.LaidLaws
section
set_option linter.unusedVariables false
set_option linter.unusedSimpArgs false
set_option maxRecDepth 100000
namespace Go.Abs.Pure
open Go Go.Abs
theorem bO {α β : Type} {x : Option α} {a : α} {f : α → Option β} {r : Option β} (h : x = some a) (k : f a = r) : bindO x f = r := by
  rw [h]; exact k
def le : Nat → Nat → List Int
  | 0, _ => []
  | f + 1, n => if n = 0 then [] else ((n % 256 : Nat) : Int) :: le f (n / 256)
def be (n : Nat) : List Int := (le 8 n).reverse
theorem le_zero : ∀ f, le f 0 = [] | 0 => rfl | f + 1 => rfl
theorem le_len : ∀ f n, (le f n).length ≤ f
  | 0, _ => Nat.le_refl _
  | f + 1, n => by
    unfold le
    split
    · simp
    · have := le_len f (n / 256); simp; omega
theorem be_len (n : Nat) : (be n).length ≤ 8 := by unfold be; rw [List.length_reverse]; exact le_len 8 n
theorem le_more : ∀ f g n, n < 256 ^ f → f ≤ g → le g n = le f n
  | 0, g, n, h, _ => by
    have : n = 0 := by simpa using h
    subst this
    rw [le_zero]; rfl
  | f + 1, 0, n, h, k => by omega
  | f + 1, g + 1, n, h, k => by
    unfold le
    split
    · rfl
    · rw [le_more f g (n / 256) (by rw [Nat.pow_succ] at h; omega) (by omega)]
theorem be_step (n : Nat) (h : n < 256 ^ 8) : be n = if n = 0 then [] else be (n / 256) ++ [((n % 256 : Nat) : Int)] := by
  unfold be
  by_cases h0 : n = 0
  · subst h0; rfl
  · rw [if_neg h0]
    have e : le 8 n = ((n % 256 : Nat) : Int) :: le 7 (n / 256) := by
      conv => lhs; unfold le
      rw [if_neg h0]
    rw [e, List.reverse_cons, le_more 7 8 (n / 256) (by omega) (by omega)]
theorem rlp_big_loop (n : Nat) : ∀ (f v m : Nat) (acc : List Int), v < 256 ^ f → f + 1 ≤ m → acc.length + f ≤ 100 → Ft.l2_0.g (fun a0 => a0) n m (v : Int) acc = some (acc ++ le f v)
  | 0, v, m + 1, acc, h, hm, ha => by
    have : v = 0 := by simpa using h
    subst this
    show Ft.l2_0.r _ _ _ _ _ = _
    unfold Ft.l2_0.r
    rw [if_neg (by decide)]
    simp [le]
  | f + 1, v, 0, acc, h, hm, ha => by omega
  | 0, v, 0, acc, h, hm, ha => by omega
  | f + 1, v, m + 1, acc, h, hm, ha => by
    show Ft.l2_0.r _ _ _ _ _ = _
    unfold Ft.l2_0.r
    by_cases h0 : v = 0
    · subst h0
      rw [if_neg (by decide)]
      simp [le]
    · rw [if_pos (by simp; omega), if_pos (by constructor <;> omega)]
      have e1 : Go.Abs.ishr .u64 (v : Int) 8 = ((v / 256 : Nat) : Int) := by
        rw [show (8 : Int) = ((8 : Nat) : Int) from rfl, ishr_ofNat _ _ _ (by decide)]
        simp
      have e2 : Go.IntKind.wrap .u8 (v : Int) = ((v % 256 : Nat) : Int) := by rw [wu8]; omega
      rw [e1, e2]
      refine (rlp_big_loop n f (v / 256) m _ (by rw [Nat.pow_succ] at h; omega) (by omega) (by simp; omega)).trans ?_
      conv => rhs; unfold le
      rw [if_neg h0]
      simp
theorem rev8 (k : Nat) : ∀ a : List Int, a.length ≤ 8 → Fa.m (k + 10) a = some a.reverse
  | [], _ => by kernel_rfl
  | [_], _ => by kernel_rfl
  | [_, _], _ => by kernel_rfl
  | [_, _, _], _ => by kernel_rfl
  | [_, _, _, _], _ => by kernel_rfl
  | [_, _, _, _, _], _ => by kernel_rfl
  | [_, _, _, _, _, _], _ => by kernel_rfl
  | [_, _, _, _, _, _, _], _ => by kernel_rfl
  | [_, _, _, _, _, _, _, _], _ => by kernel_rfl
  | _ :: _ :: _ :: _ :: _ :: _ :: _ :: _ :: _ :: _, h => by simp at h
theorem rlp_big_ok {n : Nat} (hn : 100 ≤ n) (v : Nat) (h : v < 256 ^ 8) : Ft.m n (v : Int) = some (be v) := by
  unfold Ft.m Ft.g
  refine bO (rlp_big_loop n 8 v n [] h (by omega) (by simp)) ?_
  obtain ⟨k, rfl⟩ : ∃ k, n = k + 10 := ⟨n - 10, by omega⟩
  refine bO (rev8 k _ (by simpa using le_len 8 v)) ?_
  simp [be]
def hd (n : Nat) (k : Int) : List Int := if n ≤ 55 then [k + n] else (k + 55 + (be n).length) :: be n
theorem hd_len (n : Nat) (k : Int) : 1 ≤ (hd n k).length ∧ (hd n k).length ≤ 9 := by
  unfold hd
  have := be_len n
  split <;> simp <;> omega
theorem rlp_head_ok {n : Nat} (hn : 100 ≤ n) (v : Nat) (k : Int) (h : v < 256 ^ 7) (h0 : 0 ≤ k) (h1 : k ≤ 192) : Fo.m n ((v : Int), k) = some (hd v k) := by
  unfold Fo.m Fo.g hd
  by_cases hv : v ≤ 55
  · rw [if_pos (by simp; omega), if_pos hv]
    show some [_] = _
    rw [wu8_id (n := (v : Int)) (by omega) (by omega), wu8_id (by omega) (by omega)]
  · rw [if_neg (by simp; omega), if_neg hv]
    simp only
    rw [wu64_id (by omega) (by omega)]
    refine bO (rlp_big_ok hn v (by omega)) ?_
    have := be_len v
    rw [if_pos (by constructor <;> omega)]
    rw [wu8_id (n := ((be v).length : Int)) (by omega) (by omega), wu8_id (n := k + 55) (by omega) (by omega), wu8_id (by omega) (by omega)]
    rfl
inductive It where
  | mk (l : Bool) (b : List Int) (ks : List It)
inductive Rep : AV → It → Prop
  | mk (l : Bool) (B K : AV) (b : List Int) (ks : List AV) (ts : List It) (hB : tkRints .u8 B = some b) (hK : tkRobjs 25 3 K = some ks) (hb : InS .u8 b) (hk : ks.length ≤ 140737488351232) (hlen : ks.length = ts.length)
      (h : ∀ (i : Nat) (z : AV) (t : It), ks[i]? = some z → ts[i]? = some t → Rep z t) : Rep (.agg [.bool l, B, K]) (.mk l b ts)
structure Reps (ks : List AV) (ts : List It) : Prop where
  len : ks.length = ts.length
  at' : ∀ (i : Nat) (z : AV) (t : It), ks[i]? = some z → ts[i]? = some t → Rep z t
theorem Reps.get {ks : List AV} {ts : List It} (h : Reps ks ts) {i : Nat} (hi : i < ks.length) : ∃ t, ts[i]? = some t ∧ Rep (ks.getD i .any) t ∧ ts.drop i = t :: ts.drop (i + 1) := by
  have hi' : i < ts.length := h.len ▸ hi
  refine ⟨ts[i], List.getElem?_eq_getElem hi', ?_, List.drop_eq_getElem_cons hi'⟩
  have : ks.getD i .any = ks[i] := by simp [hi]
  rw [this]
  exact h.at' i _ _ (List.getElem?_eq_getElem hi) (List.getElem?_eq_getElem hi')
theorem Reps.nil : Reps [] [] := ⟨rfl, fun i z t h => by simp at h⟩
theorem Reps.snoc {ks : List AV} {ts : List It} (h : Reps ks ts) {z : AV} {t : It} (hz : Rep z t) : Reps (ks ++ [z]) (ts ++ [t]) := by
  refine ⟨by simp [h.len], fun i x u hx hu => ?_⟩
  rcases Nat.lt_or_ge i ks.length with hi | hi
  · rw [List.getElem?_append_left hi] at hx
    rw [List.getElem?_append_left (h.len ▸ hi)] at hu
    exact h.at' i x u hx hu
  · rw [List.getElem?_append_right hi] at hx
    rw [List.getElem?_append_right (h.len ▸ hi), ← h.len] at hu
    cases hk : i - ks.length with
    | zero => rw [hk] at hx hu; simp at hx hu; subst hx hu; exact hz
    | succ k => rw [hk] at hx; simp at hx
theorem Rep.opened {z : AV} {t : It} (h : Rep z t) : ∃ l b ks ts, t = .mk l b ts ∧ Reps ks ts ∧ InS .u8 b ∧ ks.length ≤ 140737488351232 ∧ ∀ {R : Type} (F : Bool → List Int → List AV → Option R),
    (bindO (tkAgg 3 z) fun r => bindO (tkBool (List.getD r 0 .any)) fun a => bindO (tkRints .u8 (List.getD r 1 .any)) fun x => bindO (tkRobjs 25 3 (List.getD r 2 .any)) fun k => F a x k) = F l b ks := by
  cases h with
  | mk l B K b ks ts hB hK hb hk hlen h =>
    refine ⟨l, b, ks, ts, rfl, ⟨hlen, h⟩, hb, hk, fun F => ?_⟩
    refine bO (a := [.bool l, B, K]) rfl ?_
    refine bO (a := l) rfl ?_
    refine bO (a := b) hB ?_
    exact bO (a := ks) hK rfl
def wt : It → Nat
  | .mk _ b ks => 1 + b.length / 16 + wts ks
where wts : List It → Nat
  | [] => 0
  | k :: r => wt k + wts r
theorem wt_pos (t : It) : 1 ≤ wt t := by cases t; unfold wt; omega
theorem wts_len : ∀ l : List It, l.length ≤ wt.wts l
  | [] => Nat.zero_le _
  | k :: r => by
    have := wt_pos k
    have := wts_len r
    simp only [List.length_cons, wt.wts]
    omega
def enc : It → List Int
  | .mk l b ks => match l with
    | true => hd (encs ks).length 192 ++ encs ks
    | false => if b.length = 1 ∧ b.getD 0 0 < 128 then b else hd b.length 128 ++ b
where encs : List It → List Int
  | [] => []
  | k :: r => enc k ++ encs r
mutual
theorem enc_len : ∀ t : It, (enc t).length ≤ 24 * wt t
  | .mk l b ks => by
    have h1 := encs_len ks
    have h2 := (hd_len (enc.encs ks).length 192).2
    have h3 := (hd_len b.length 128).2
    unfold enc wt
    cases l with
    | true => simp only [List.length_append]; omega
    | false =>
      simp only
      split
      · omega
      · simp only [List.length_append]; omega
theorem encs_len : ∀ l : List It, (enc.encs l).length ≤ 24 * wt.wts l
  | [] => by simp [enc.encs]
  | k :: r => by
    have h1 := enc_len k
    have h2 := encs_len r
    simp only [enc.encs, wt.wts, List.length_append]
    omega
end
end Go.Abs.Pure
end
section
set_option linter.unusedVariables false
set_option linter.unusedSimpArgs false
set_option maxRecDepth 100000
namespace Go.Abs
open Go Go.Proofs Go.RowKit Go.Proofs.YtddcgjbaiojmcaaDoor
theorem star : "*" ++ "errors.errorString" = "*errors.errorString" := by decide
theorem row78 (u : TypeId) (h : Tryd.prog.typeName? 3 u = some "*errors.errorString") : u = 78 :=
  typeName_ptr_named (nm := "errors.errorString") (by rw [star]; kernel_rfl) (by kernel_rfl) (by decide) u (by rw [star]; exact h)
theorem one_sent {W : World} {name : String} {text : List UInt8} {ps : List MemPlace} {k : Nat} {r : List (String × DataW Unit)} (hk : Tryd.prog.globalNamed name = some k) (ht : (Tryd.prog.globals[k]?).map (·.type) = some 50) (h1 : (W.heap.size = W.heap.size))
    (h : DataW.LaidVars Tryd.prog W ((name, .iface "*errors.errorString" (.ptr (.agg [.lit (.string text)]))) :: r) ps)
    (hok : ∀ b off, MemPlace.cell b off ∈ ps → (∃ c t, W.heap[b]? = some (.cells c t (0, 0))) ∧ ∀ u v, W.cell? ⟨b, off, none⟩ = some (.iface u v) → Value.okWide Tryd.prog W .any 0 u v) :
    ∃ a s q, W.cell? ⟨k, 0, none⟩ = some (.iface 78 (.pointer (some a))) ∧ W.cell? a = some (.string s) ∧ s.data.toList = text ∧ (∃ c t, W.heap[a.block]? = some (.cells c t (0, 0))) ∧ DataW.LaidVars Tryd.prog W r q ∧ ∀ x ∈ q, x ∈ ps := by
  obtain ⟨g, t, cs, fuel, p, q, a1, a2, a3, a4, a5, rfl⟩ := h
  obtain rfl : g = k := Option.some.inj (a1.symm.trans hk)
  obtain rfl : t = 50 := Option.some.inj (a2.symm.trans ht)
  have hcell0 : ∀ i, W.cell? ⟨g, i, none⟩ = cs[i]? := fun i => World.var?_cell a1 a3 i
  have hmem0 : ∀ u v, cs.toList = [.iface u v] → MemPlace.cell g 0 ∈ MemPlace.row ⟨g, 0, none⟩ cs.size ++ p ++ q := fun u v hc => by
    have : cs.size = 1 := by rw [← Array.length_toList, hc]; rfl
    rw [this]
    simp [MemPlace.row]
  have hc0 : ∀ u v, cs.toList = [.iface u v] → W.cell? ⟨g, 0, none⟩ = some (.iface u v) := fun u v hc => by
    rw [hcell0, ← Array.getElem?_toList, hc]; rfl
  obtain ⟨a, s, e1, e2, e3, _, e5⟩ := errorString_of_trod (ts := 9) (te := 104) (f := ((match Tryd.prog.underlying 104 with | some (.struct fs) => fs | _ => #[]).getD 0 default)) Tryd.underlying50 row78 Tryd.underlying78 (by kernel_rfl) (by kernel_rfl) (by kernel_rfl) (by kernel_rfl) (by kernel_rfl) (by kernel_rfl) a4
    fun u v hc => (hok g 0 (hmem0 u v hc)).2 u v (hc0 u v hc)
  refine ⟨a, s, q, hc0 _ _ e1, e2, e3, (hok a.block a.off ?_).1, a5, fun x hx => List.mem_append_right _ hx⟩
  rw [e5]
  simp [MemPlace.row]
theorem spot_none {W : World} {a : Addr} {v : Value} (h : W.cell? a = some v) : a.spot = none := by
  unfold World.cell? at h
  split at h
  · split at h
    · cases h
    · rename_i hs; simpa using hs
  · cases h
theorem globS (W : World) (h : laidMet Tryd.prog [("quaestor/rlp.errShort", Rows.laid_quaestor_rlp_errShort), ("quaestor/rlp.errForm", Rows.laid_quaestor_rlp_errForm), ("quaestor/rlp.errDeep", Rows.laid_quaestor_rlp_errDeep)] W) : Glob rlpG (E0 W) := by
  obtain ⟨ps, h1, _, hok⟩ := h
  obtain ⟨a0, s0, q0, b0, c0, d0, e0, h2, m0⟩ := one_sent (k := 0) (by kernel_rfl) (by kernel_rfl) rfl h1 hok
  have hok1 := fun b off hb => hok b off (m0 _ hb)
  obtain ⟨a1, s1, q1, b1, c1, d1, e1, h3, m1⟩ := one_sent (k := 1) (by kernel_rfl) (by kernel_rfl) rfl h2 hok1
  have hok2 := fun b off hb => hok1 b off (m1 _ hb)
  obtain ⟨a2, s2, q2, b2, c2, d2, e2, _, _⟩ := one_sent (k := 2) (by kernel_rfl) (by kernel_rfl) rfl h3 hok2
  have n01 : a0 ≠ a1 := fun h => by subst h; rw [c0] at c1; cases c1; rw [d0] at d1; exact absurd d1 (by decide)
  have n02 : a0 ≠ a2 := fun h => by subst h; rw [c0] at c2; cases c2; rw [d0] at d2; exact absurd d2 (by decide)
  have n12 : a1 ≠ a2 := fun h => by subst h; rw [c1] at c2; cases c2; rw [d1] at d2; exact absurd d2 (by decide)
  have cell : ∀ g tF ts k, rlpG g = .errv tF ts k → (g = 0 ∨ g = 1 ∨ g = 2) ∧ tF = 58 ∧ ts = 78 ∧ k = g := fun g tF ts k he => by
    match g, he with
    | 0, he => cases he; exact ⟨.inl rfl, rfl, rfl, rfl⟩
    | 1, he => cases he; exact ⟨.inr (.inl rfl), rfl, rfl, rfl⟩
    | 2, he => cases he; exact ⟨.inr (.inr rfl), rfl, rfl, rfl⟩
    | g + 3, he => cases he
  refine ⟨fun g => ?_, fun g tF ts k he => ?_, fun g g' tF ts k tF' ts' k' he he' hne u u' p x x' => ?_⟩
  · match g with
    | 0 => exact glob_errv (by decide) b0
    | 1 => exact glob_errv (by decide) b1
    | 2 => exact glob_errv (by decide) b2
    | g + 3 => trivial
  · obtain ⟨hg, rfl, rfl, rfl⟩ := cell g tF ts k he
    refine ⟨rfl, ?_⟩
    rcases hg with rfl | rfl | rfl
    · exact glob_errAt b0 (spot_none c0) e0
    · exact glob_errAt b1 (spot_none c1) e1
    · exact glob_errAt b2 (spot_none c2) e2
  · obtain ⟨hg, -, -, -⟩ := cell g tF ts k he
    obtain ⟨hg', -, -, -⟩ := cell g' tF' ts' k' he'
    have x1 : W.cell? ⟨g, 0, none⟩ = some (.iface u p) := x
    have x2 : W.cell? ⟨g', 0, none⟩ = some (.iface u' p) := x'
    rcases hg with rfl | rfl | rfl <;> rcases hg' with rfl | rfl | rfl <;> (try exact absurd rfl hne) <;>
      simp only [b0, b1, b2, Option.some.injEq, Value.iface.injEq] at x1 x2 <;> obtain ⟨-, rfl⟩ := x1 <;> obtain ⟨-, x2⟩ := x2 <;> simp only [Value.pointer.injEq, Option.some.injEq] at x2 <;>
      first | exact n01 x2.symm | exact n01 x2 | exact n02 x2.symm | exact n02 x2 | exact n12 x2.symm | exact n12 x2
end Go.Abs
namespace Go.Abs.Pure
open Go Go.Abs Go.Proofs
noncomputable def fs25 : Array Field := match Tryd.prog.underlying 25 with | some (.struct fs) => fs | _ => #[]
theorem ty25 : fs25.toList.map (·.type) = [4, 22, 23] := by kernel_rfl
theorem item_open {z : AV} (h : AVT Tryd.prog 25 z) : ∃ l b ks, z = .agg [.bool l, .rints .u8 b, .robjs 25 3 ks] ∧ InS .u8 b ∧ ks.length ≤ 140737488351232 ∧ ∀ x ∈ ks, AVT Tryd.prog 25 x := by
  obtain ⟨xs, rfl, g⟩ := AVT.struct_inv (fs := fs25) h (by kernel_rfl)
  rw [ty25] at g
  obtain ⟨y0, r0, rfl, h0, g⟩ := AVTs.cons_inv g
  obtain ⟨y1, r1, rfl, h1, g⟩ := AVTs.cons_inv g
  obtain ⟨y2, r2, rfl, h2, g⟩ := AVTs.cons_inv g
  obtain rfl := AVTs.nil_inv g
  obtain ⟨l, rfl⟩ := AVT.bool_inv h0 (by kernel_rfl)
  obtain ⟨b, rfl, hb⟩ := AVT.rints_inv (e := 5) (k := .u8) h1 (by kernel_rfl) (by kernel_rfl) (of_decide_eq_true (by kernel_rfl))
  obtain ⟨ks, rfl, hk⟩ := AVT.robjs_inv (e := 25) (w := 3) h2 (by kernel_rfl) (by kernel_rfl) (of_decide_eq_true (by kernel_rfl)) (by kernel_rfl)
  exact ⟨l, b, ks, rfl, hb, hk.1, hk.2⟩
theorem reps_of : ∀ {ks : List AV}, (∀ z ∈ ks, ∃ t, Rep z t) → ∃ ts, Reps ks ts
  | [], _ => ⟨[], .nil⟩
  | k :: r, h => by
    obtain ⟨t, ht⟩ := h k (by simp)
    obtain ⟨ts, hts⟩ := reps_of (ks := r) fun z hz => h z (by simp [hz])
    refine ⟨t :: ts, by simp [hts.len], fun i z u hz hu => ?_⟩
    cases i with
    | zero => simp at hz hu; subst hz hu; exact ht
    | succ i => exact hts.at' i z u (by simpa using hz) (by simpa using hu)
theorem item_rep : ∀ (n : Nat) (z : AV), SizeOf.sizeOf z ≤ n → AVT Tryd.prog 25 z → ∃ t, Rep z t
  | 0, z, hn, h => by cases z <;> simp at hn
  | n + 1, z, hn, h => by
    obtain ⟨l, b, ks, rfl, hb, hk, hx⟩ := item_open h
    obtain ⟨ts, hts⟩ := reps_of fun z hz => item_rep n z (by
      have := List.sizeOf_lt_of_mem hz
      simp at hn
      omega) (hx z hz)
    exact ⟨.mk l b ts, .mk l _ _ b ks ts rfl rfl hb hk hts.len hts.at'⟩
theorem items_rep {ks : List AV} (h : ks.length ≤ 140737488351232 ∧ ∀ z ∈ ks, AVT Tryd.prog 25 z) : ks.length ≤ 140737488351232 ∧ ∃ ts, Reps ks ts :=
  ⟨h.1, reps_of fun z hz => item_rep (SizeOf.sizeOf z) z (Nat.le_refl _) (h.2 z hz)⟩
end Go.Abs.Pure
end
section
set_option linter.unusedVariables false
set_option linter.unusedSimpArgs false
set_option maxRecDepth 100000
namespace Go.Abs.Pure
open Go Go.Abs
theorem wts_get : ∀ {ts : List It} {i : Nat} {t : It}, ts[i]? = some t → wt t ≤ wt.wts ts
  | [], i, t, h => by simp at h
  | k :: r, 0, t, h => by simp at h; subst h; simp only [wt.wts]; omega
  | k :: r, i + 1, t, h => by
    have := wts_get (ts := r) (i := i) (t := t) (by simpa using h)
    simp only [wt.wts]; omega
theorem encs_drop {ts : List It} {i : Nat} {t : It} (h : ts.drop i = t :: ts.drop (i + 1)) : enc.encs (ts.drop i) = enc t ++ enc.encs (ts.drop (i + 1)) := by
  rw [h]; rfl
def EncAt (f : (Bool × ((List Int) × (List AV))) → Option (List Int)) (d : Nat) : Prop := ∀ l b ks ts, InS .u8 b → Reps ks ts → wt (.mk l b ts) ≤ d → wt (.mk l b ts) ≤ 2000 → f (l, b, ks) = some (enc (.mk l b ts))
theorem rlpE_loop {n : Nat} {f : (Bool × ((List Int) × (List AV))) → Option (List Int)} {d : Nat} (ih : EncAt f d) {ks : List AV} {ts : List It} (hr : Reps ks ts) (hw : wt.wts ts ≤ d) (hs : wt.wts ts ≤ 2000) :
    ∀ (r i m : Nat) (acc : List Int), i + r = ks.length → r + 1 ≤ m → acc.length + (enc.encs (ts.drop i)).length ≤ 1000000 →
      Ff.l4_0.g (fun a0 => a0) n f m (i : Int) ((ks.length : Nat) : Int) ks acc = some (acc ++ enc.encs (ts.drop i))
  | _, i, 0, acc, hi, hm, ha => by omega
  | 0, i, m + 1, acc, hi, hm, ha => by
    show Ff.l4_0.r _ _ _ _ _ _ _ _ = _
    unfold Ff.l4_0.r
    rw [if_neg (by simp; omega)]
    rw [List.drop_eq_nil_of_le (by rw [← hr.len]; omega)]
    simp [enc.encs]
  | r + 1, i, m + 1, acc, hi, hm, ha => by
    show Ff.l4_0.r _ _ _ _ _ _ _ _ = _
    unfold Ff.l4_0.r
    rw [if_pos (by simp; omega), if_pos (by omega), if_pos (by omega), Int.toNat_natCast]
    have hwl := wts_len ts
    have hll := hr.len
    obtain ⟨t, h1, h2, h3⟩ := hr.get (i := i) (by omega)
    obtain ⟨l, b, ks', ts', rfl, q1, q2, q3, q4⟩ := h2.opened
    refine (q4 _).trans ?_
    have hwt := wts_get h1
    rw [encs_drop h3, List.length_append] at ha
    refine bO (ih l b ks' ts' q2 q1 (by omega) (by omega)) ?_
    rw [if_pos (by constructor <;> omega), wi64_id (by omega) (by omega)]
    refine (rlpE_loop ih hr hw hs r (i + 1) m _ (by omega) (by omega) (by rw [List.length_append]; omega)).trans ?_
    rw [encs_drop h3, List.append_assoc]
theorem clone_m {n : Nat} {b : List Int} (h : b.length ≤ 100000) : Fb.m n b = some b := by
  unfold Fb.m
  exact if_pos h
theorem rlpE_ok {n : Nat} (hn : 5000 ≤ n) : ∀ d, EncAt (Ff.mr n d) d
  | 0, l, b, ks, ts, hb, hr, hd, hs => by have := wt_pos (.mk l b ts); omega
  | d + 1, l, b, ks, ts, hb, hr, hd, hs => by
    show Ff.h n (Ff.mr n d) (l, b, ks) = _
    unfold Ff.h
    dsimp only
    have hw : wt.wts ts ≤ d ∧ wt.wts ts ≤ 2000 ∧ b.length ≤ 40000 := by unfold wt at hd hs; omega
    have hlen := wts_len ts
    have hel := encs_len ts
    unfold Ff.g enc
    cases l with
    | true =>
      rw [if_pos rfl]
      refine bO (rlpE_loop (rlpE_ok hn d) hr hw.1 hw.2.1 ks.length 0 n [] (by omega) (by rw [hr.len]; omega) (by simp; omega)) ?_
      simp only [List.nil_append, List.drop_zero]
      refine bO (rlp_head_ok (by omega) _ 192 (by omega) (by omega) (by omega)) ?_
      have h9 := (hd_len (enc.encs ts).length 192).2
      rw [if_pos (by constructor <;> omega)]
    | false =>
      rw [if_neg (by decide)]
      simp only
      have h9 := (hd_len b.length 128).2
      by_cases h1 : b.length = 1
      · rw [if_pos (by simp [h1]), if_pos (by omega)]
        by_cases h2 : b.getD 0 0 < 128
        · rw [if_pos (by simpa using h2), if_pos ⟨h1, h2⟩]
          exact bO (clone_m (by omega)) rfl
        · rw [if_neg (by simpa using h2), if_neg fun h => h2 h.2]
          refine bO (rlp_head_ok (by omega) _ 128 (by omega) (by omega) (by omega)) ?_
          rw [if_pos (by constructor <;> omega)]
      · rw [if_neg (by simp; omega), if_neg fun h => h1 h.1]
        refine bO (rlp_head_ok (by omega) _ 128 (by omega) (by omega) (by omega)) ?_
        rw [if_pos (by constructor <;> omega)]
def mu : It → Nat → Nat
  | .mk _ b ks, w => mus ks (w + 1 + b.length / 16)
where mus : List It → Nat → Nat
  | [], w => w
  | k :: r, w => if w ≤ 1000 then mus r (mu k w) else w
mutual
theorem mu_ge : ∀ (t : It) (w : Nat), w + 1 ≤ mu t w
  | .mk l b ks, w => by
    have := mus_ge ks (w + 1 + b.length / 16)
    unfold mu; omega
theorem mus_ge : ∀ (l : List It) (w : Nat), w ≤ mu.mus l w
  | [], w => Nat.le_refl _
  | k :: r, w => by
    unfold mu.mus
    have h1 := mu_ge k w
    have h2 := mus_ge r (mu k w)
    split <;> omega
end
mutual
theorem mu_eq : ∀ (t : It) (w : Nat), mu t w ≤ 1000 → mu t w = w + wt t
  | .mk l b ks, w, h => by
    unfold mu at h ⊢
    rw [mus_eq ks _ h]
    unfold wt; omega
theorem mus_eq : ∀ (l : List It) (w : Nat), mu.mus l w ≤ 1000 → mu.mus l w = w + wt.wts l
  | [], w, h => rfl
  | k :: r, w, h => by
    unfold mu.mus at h ⊢
    split at h
    · rename_i hw
      rw [if_pos hw]
      have h2 := mus_ge r (mu k w)
      rw [mus_eq r _ h, mu_eq k w (by omega)]
      simp only [wt.wts]; omega
    · omega
end
theorem much_loop {n : Nat} {f : (Bool × ((List Int) × ((List AV) × Int))) → Option Int} {d : Nat} (w0 : Nat) (hd : 1001 ≤ w0 + d)
    (ih : ∀ l b ks ts (w : Nat), InS .u8 b → Reps ks ts → ks.length ≤ 140737488351232 → w ≤ 1000 → 1001 ≤ w + d → f (l, b, ks, (w : Int)) = some ((mu (.mk l b ts) w : Nat) : Int))
    {x2 : Bool} {x3 : List Int} {ks : List AV} {ts : List It} (hk : ks.length ≤ 140737488351232) (hr : Reps ks ts) : ∀ (m i w : Nat), i ≤ ks.length → w0 ≤ w → 1002 ≤ w + m → 1 ≤ m →
      Fr.l3_0.g (fun a0 => a0) n f m (i : Int) (w : Int) x2 x3 ks = some ((mu.mus (ts.drop i) w : Nat) : Int)
  | 0, i, w, hi, h0, hm, hp => by omega
  | m + 1, i, w, hi, h0, hm, hp => by
    show Fr.l3_0.r _ _ _ _ _ _ _ _ _ = _
    unfold Fr.l3_0.r
    rcases Nat.lt_or_ge i ks.length with hlt | hge
    · rw [if_pos (by simp; omega)]
      obtain ⟨t, h1, h2, h3⟩ := hr.get (i := i) (by omega)
      by_cases hw : w ≤ 1000
      · rw [if_pos (by simp; omega), if_pos (by omega), if_pos (by omega), Int.toNat_natCast]
        obtain ⟨l, b, k1, ts1, rfl, q1, q2, q3, q4⟩ := h2.opened
        refine (q4 _).trans ?_
        refine bO (ih l b k1 ts1 w q2 q1 q3 hw (by omega)) ?_
        rw [wi64_id (by omega) (by omega)]
        have hg := mu_ge (.mk l b ts1) w
        refine (much_loop w0 hd ih hk hr m (i + 1) (mu (.mk l b ts1) w) (by omega) (by omega) (by omega) (by omega)).trans ?_
        rw [h3]
        conv => rhs; unfold mu.mus
        rw [if_pos hw]
      · rw [if_neg (by simp; omega), h3]
        unfold mu.mus
        rw [if_neg hw]
    · rw [if_neg (by simp; omega), List.drop_eq_nil_of_le (by rw [← hr.len]; omega)]
      rfl
theorem much_ok {n : Nat} (hn : 5000 ≤ n) : ∀ d l b ks ts (w : Nat), InS .u8 b → Reps ks ts → ks.length ≤ 140737488351232 → w ≤ 1000 → 1001 ≤ w + d → Fr.mr n d (l, b, ks, (w : Int)) = some ((mu (.mk l b ts) w : Nat) : Int)
  | 0, l, b, ks, ts, w, hb, hr, hk, hw, hd => by omega
  | d + 1, l, b, ks, ts, w, hb, hr, hk, hw, hd => by
    show Fr.h n (Fr.mr n d) (l, b, ks, (w : Int)) = _
    unfold Fr.h Fr.g
    have hb1 := hb.1
    have e1 : Int.tdiv ((b.length : Nat) : Int) 16 = ((b.length / 16 : Nat) : Int) := by
      rw [Int.tdiv_eq_ediv_of_nonneg (by omega)]; norm_cast
    simp only [e1]
    rw [wi64_id (n := ((b.length / 16 : Nat) : Int)) (by omega) (by omega), wi64_id (n := 1 + ((b.length / 16 : Nat) : Int)) (by omega) (by omega), wi64_id (by omega) (by omega)]
    have e2 : (w : Int) + (1 + ((b.length / 16 : Nat) : Int)) = ((w + 1 + b.length / 16 : Nat) : Int) := by omega
    rw [e2]
    refine bO (much_loop (w + 1 + b.length / 16) (by omega) (fun l b ks ts w h1 h2 h3 h4 h5 => much_ok hn d l b ks ts w h1 h2 h3 h4 h5) hk hr n 0 (w + 1 + b.length / 16) (by omega) (by omega) (by omega) (by omega)) ?_
    simp only [List.drop_zero]
    unfold mu
    rfl
end Go.Abs.Pure
end
section
set_option linter.unusedVariables false
set_option linter.unusedSimpArgs false
set_option maxRecDepth 100000
namespace Go.Abs.Pure
open Go Go.Abs
def Byt (b : List Int) : Prop := ∀ x ∈ b, 0 ≤ x ∧ x < 256
theorem Byt.drop {b : List Int} (h : Byt b) (k : Nat) : Byt (b.drop k) := fun x hx => h x (List.mem_of_mem_drop hx)
theorem Byt.take {b : List Int} (h : Byt b) (k : Nat) : Byt (b.take k) := fun x hx => h x (List.mem_of_mem_take hx)
def num (l : List Int) : Nat := l.foldl (fun a x => a * 256 + x.toNat) 0
def lenS (x kind : Int) (t : List Int) : Option (Nat × Nat) :=
  if (x - kind).toNat ≤ 55 then some ((x - kind).toNat, 0)
  else if t.length < (x - kind).toNat - 55 then none
  else if t.getD 0 0 = 0 then none
  else if num (t.take ((x - kind).toNat - 55)) ≤ 55 then none
  else if t.length + 1 < num (t.take ((x - kind).toNat - 55)) then none
  else some (num (t.take ((x - kind).toNat - 55)), (x - kind).toNat - 55)
def body (x kind : Int) (t : List Int) : Option (List Int × List Int) :=
  match lenS x kind t with
  | none => none
  | some (m, k) => if k + m ≤ t.length then some ((t.drop k).take m, t.drop (k + m)) else none
def many (f : List Int → Option (It × List Int)) : Nat → List Int → Option (List It)
  | _, [] => some []
  | 0, _ :: _ => none
  | m + 1, y :: i => match f (y :: i) with
    | none => none
    | some (k, r) => match many f m r with
      | none => none
      | some ks => some (k :: ks)
def one : Nat → List Int → Option (It × List Int)
  | 0, _ => none
  | _ + 1, [] => none
  | d + 1, x :: t => if x < 128 then some (.mk false [x] [], t)
    else if x < 192 then (match body x 128 t with
      | none => none
      | some (i, r) => if i.length = 1 ∧ i.getD 0 0 < 128 then none else some (.mk false i [], r))
    else match body x 192 t with
      | none => none
      | some (i, r) => match many (one d) i.length i with
        | none => none
        | some ks => some (.mk true [] ks, r)
end Go.Abs.Pure
end
section
set_option linter.unusedVariables false
set_option linter.unusedSimpArgs false
set_option maxRecDepth 100000
namespace Go.Abs.Pure
open Go Go.Abs
abbrev U1 := (Bool × (Nat × (List Int))) ⊕ ((Bool × ((List Int) × (List Int))) ⊕ ((Bool × (Nat × ((List Int) × (List Int)))) ⊕ ((Bool × ((List Int) × (Nat × (List Int)))) ⊕ ((Bool × ((List Int) × (Nat × (List AV)))) ⊕ ((Bool × ((List Int) × (List AV))) ⊕ (Bool × (List Int)))))))
inductive Ok1 : U1 → It → List Int → Prop
  | str (b r : List Int) (hb : InS .u8 b) : Ok1 (.inr (.inl (false, r, b))) (.mk false b []) r
  | lst (ks : List AV) (ts : List It) (r : List Int) (hr : Reps ks ts) (hk : ks.length ≤ 140737488351232) : Ok1 (.inr (.inr (.inr (.inr (.inr (.inl (true, r, ks))))))) (.mk true [] ts) r
  | nil (r : List Int) : Ok1 (.inr (.inr (.inr (.inr (.inr (.inr (true, r))))))) (.mk true [] []) r
inductive Bad1 : U1 → Prop
  | a (l : Bool) (k : Nat) (r : List Int) (h : k % 100 ≤ 2) : Bad1 (.inl (l, k, r))
  | b (l : Bool) (k : Nat) (b r : List Int) (h : k % 100 ≤ 2) : Bad1 (.inr (.inr (.inl (l, k, b, r))))
  | c (l : Bool) (r : List Int) (k : Nat) (b : List Int) (h : k % 100 ≤ 2) : Bad1 (.inr (.inr (.inr (.inl (l, r, k, b)))))
  | d (l : Bool) (r : List Int) (k : Nat) (ks : List AV) (h : k % 100 ≤ 2) : Bad1 (.inr (.inr (.inr (.inr (.inl (l, r, k, ks))))))
theorem inS_nil : InS .u8 [] := ⟨by simp, fun x hx => by simp at hx⟩
end Go.Abs.Pure
end
section
set_option linter.unusedVariables false
set_option linter.unusedSimpArgs false
set_option maxRecDepth 100000
namespace Go.Abs.Pure
open Go Go.Abs
abbrev U2 := (Bool × Int) ⊕ ((Bool × (Int × (List Int))) ⊕ (Bool × (Int × (List AV))))
inductive Ok2 : U2 → It → Nat → Prop
  | str (b : List Int) (c : Nat) (hb : InS .u8 b) : Ok2 (.inr (.inl (false, (c : Int), b))) (.mk false b []) c
  | lst (ks : List AV) (ts : List It) (c : Nat) (hr : Reps ks ts) (hk : ks.length ≤ 140737488351232) : Ok2 (.inr (.inr (true, (c : Int), ks))) (.mk true [] ts) c
  | nil (c : Nat) : Ok2 (.inl (true, (c : Int))) (.mk true [] []) c
end Go.Abs.Pure
end
section
set_option linter.unusedVariables false
set_option linter.unusedSimpArgs false
set_option maxRecDepth 100000
namespace Go.Abs.Pure
open Go Go.Abs
inductive OkD : U2 → It → Prop
  | str (b : List Int) (hb : InS .u8 b) : OkD (.inr (.inl (false, 0, b))) (.mk false b [])
  | lst (ks : List AV) (ts : List It) (hr : Reps ks ts) (hk : ks.length ≤ 140737488351232) : OkD (.inr (.inr (true, 0, ks))) (.mk true [] ts)
  | nil : OkD (.inl (true, 0)) (.mk true [] [])
def Pl : Nat → It → Prop
  | 0, _ => False
  | d + 1, .mk l b ks => match l with
    | true => b = [] ∧ ∀ k ∈ ks, Pl d k
    | false => ks = [] ∧ Byt b
end Go.Abs.Pure
end
section
set_option linter.unusedVariables false
set_option linter.unusedSimpArgs false
set_option maxRecDepth 100000
namespace Go.Abs.Pure
open Go Go.Abs
theorem sameB {n : Nat} (b : List Int) : Fc.m n (b, b) = some true := by
  unfold Fc.m Fc.g
  simp
theorem known_t : Fn.m 200000 () = some true := rfl
theorem w0 : IntKind.wrap .i64 0 = 0 := by rw [wi64]; rfl
theorem Pl.more : ∀ {d e : Nat} {t : It}, d ≤ e → Pl d t → Pl e t
  | 0, e, t, h, hp => by cases hp
  | d + 1, 0, t, h, hp => by omega
  | d + 1, e + 1, .mk true b ks, h, hp => ⟨hp.1, fun k hk => Pl.more (d := d) (by omega) (hp.2 k hk)⟩
  | d + 1, e + 1, .mk false b ks, h, hp => hp
end Go.Abs.Pure
end
section
set_option linter.unusedVariables false
set_option linter.unusedSimpArgs false
set_option maxRecDepth 100000
namespace Go.Abs.Pure
open Go Go.Abs
theorem much_u (l : Bool) {b : List Int} {ks : List AV} {ts : List It} (hb : InS .u8 b) (hr : Reps ks ts) (hk : ks.length ≤ 140737488351232) : Fr.m 200000 (l, b, ks, 0) = some ((mu (.mk l b ts) 0 : Nat) : Int) :=
  much_ok (by decide) 200000 l b ks ts 0 hb hr hk (by decide) (by decide)
theorem be_mono : ∀ (m n : Nat), n ≤ m → m < 256 ^ 8 → (be n).length ≤ (be m).length := fun m => by
  induction m using Nat.strongRecOn with
  | _ m ih =>
    intro n hnm hm
    rw [be_step n (by omega), be_step m hm]
    by_cases h0 : n = 0
    · rw [if_pos h0]; simp
    · rw [if_neg h0, if_neg (by omega)]
      have := ih (m / 256) (by omega) (n / 256) (by omega) (by omega)
      simp only [List.length_append, List.length_cons, List.length_nil]
      omega
theorem hd_mono {m n : Nat} (k : Int) (h : n ≤ m) (hm : m < 256 ^ 8) : (hd n k).length ≤ (hd m k).length := by
  have h1 := be_mono m n h hm
  unfold hd
  by_cases hn : n ≤ 55
  · rw [if_pos hn]
    split <;> simp
  · rw [if_neg hn, if_neg (by omega)]
    simp only [List.length_cons]
    omega
theorem encs_snoc : ∀ (l : List It) (t : It), enc.encs (l ++ [t]) = enc.encs l ++ enc t
  | [], t => by simp [enc.encs]
  | k :: r, t => by simp [enc.encs, encs_snoc r t]
theorem wts_snoc : ∀ (l : List It) (t : It), wt.wts (l ++ [t]) = wt.wts l + wt t
  | [], t => by simp [wt.wts]
  | k :: r, t => by simp [wt.wts, wts_snoc r t]; omega
theorem lists_loop {n : Nat} (hn : 5000 ≤ n) {x4 : Bool} {x5 : List Int} {x6 : List AV} {ks : List AV} {ts : List It} (hr : Reps ks ts) (hs : wt.wts ts ≤ 500) :
    ∀ (r i m : Nat) (acc : List Int) (kids : List AV) (us : List It), i + r = ks.length → r + 1 ≤ m → acc.length + (enc.encs (ts.drop i)).length ≤ 1000000 → kids.length = i → Reps kids us →
      ∃ kids', Fe.l6_0.g (fun a0 a1 a2 a3 a4 a5 => (a0, a1, a2, a3, a4, a5)) n m (i : Int) ks acc kids x4 x5 x6 = some (ks, kids', x4, x5, x6, acc ++ enc.encs (ts.drop i)) ∧ Reps kids' (us ++ ts.drop i) ∧ kids'.length = ks.length
  | _, i, 0, acc, kids, us, hi, hm, _, _, _ => by omega
  | 0, i, m + 1, acc, kids, us, hi, hm, ha, hk, hu => by
    refine ⟨kids, ?_, ?_, by omega⟩
    · show Fe.l6_0.r _ _ _ _ _ _ _ _ _ _ = _
      unfold Fe.l6_0.r
      rw [if_neg (by simp; omega), List.drop_eq_nil_of_le (by rw [← hr.len]; omega)]
      simp [enc.encs]
    · rw [List.drop_eq_nil_of_le (by rw [← hr.len]; omega)]
      simpa using hu
  | r + 1, i, m + 1, acc, kids, us, hi, hm, ha, hk, hu => by
    have hwl := wts_len ts
    have hll := hr.len
    obtain ⟨t, h1, h2, h3⟩ := hr.get (i := i) (by omega)
    have h2' := h2
    obtain ⟨l, b, ks', ts', rfl, q1, q2, q3, q4⟩ := h2.opened
    have hwt := wts_get h1
    rw [encs_drop h3, List.length_append] at ha
    have hrep : Rep (.agg [.bool l, .rints .u8 b, .robjs 25 3 ks']) (.mk l b ts') := .mk l _ _ b ks' ts' rfl rfl q2 q3 q1.len q1.at'
    obtain ⟨kids', k1, k2, k3⟩ := lists_loop hn (x4 := x4) (x5 := x5) (x6 := x6) hr hs r (i + 1) m (acc ++ enc (.mk l b ts')) (kids ++ [.agg [.bool l, .rints .u8 b, .robjs 25 3 ks']]) (us ++ [.mk l b ts']) (by omega) (by omega) (by rw [List.length_append]; omega) (by simp; omega) (hu.snoc hrep)
    refine ⟨kids', ?_, by rw [h3]; simpa using k2, k3⟩
    show Fe.l6_0.r _ _ _ _ _ _ _ _ _ _ = _
    unfold Fe.l6_0.r
    rw [if_pos (by simp; omega), if_pos (by omega), if_pos (by omega), Int.toNat_natCast]
    refine (q4 _).trans ?_
    refine bO (rlpE_ok (n := n) hn n l b ks' ts' q2 q1 (by omega) (by omega)) ?_
    rw [if_pos (by constructor <;> omega), if_pos (by omega), if_pos (by omega)]
    refine (q4 _).trans ?_
    rw [if_pos (by constructor <;> omega), wi64_id (by omega) (by omega), encs_drop h3, ← List.append_assoc]
    exact k1
theorem RlpLists (a : List AV) (ha : a.length ≤ 140737488351232 ∧ ∃ ts, Reps a ts) (l : Bool) (b : List Int) (hb : InS .u8 b) (ks : List AV) (hks : ks.length ≤ 140737488351232 ∧ ∃ ts, Reps ks ts) : ∃ n, Fe.m n (a, l, b, ks) = some true := by
  obtain ⟨hak, tsA, har⟩ := ha
  obtain ⟨hk, ts, hr⟩ := hks
  refine ⟨200000, ?_⟩
  unfold Fe.m Fe.g
  dsimp only
  by_cases h50 : a.length ≤ 50
  · rw [if_neg (by simp; omega)]
    refine bO (much_u l hb hr hk) ?_
    by_cases h : mu (.mk l b ts) 0 ≤ 500
    · rw [if_neg (by simp; omega)]
      have hw : wt (.mk l b ts) ≤ 500 := by rw [mu_eq _ 0 (by omega)] at h; omega
      refine bO (much_u false inS_nil har hak) ?_
      by_cases h2 : mu (.mk false [] tsA) 0 ≤ 500
      · rw [if_neg (by simp; omega)]
        have hw2 : wt.wts tsA ≤ 499 := by
          rw [mu_eq _ 0 (by omega)] at h2
          unfold wt at h2
          omega
        have hwl := wts_len tsA
        have hel := encs_len tsA
        have helt := enc_len (.mk l b ts)
        have hll := har.len
        refine bO known_t ?_
        rw [if_neg (by decide)]
        obtain ⟨kids', k1, k2, k3⟩ := lists_loop (n := 200000) (by decide) (x4 := l) (x5 := b) (x6 := ks) har (by omega) a.length 0 200000 [] [] [] (by omega) (by omega) (by simp; omega) rfl .nil
        simp only [List.nil_append, List.drop_zero] at k1 k2
        refine bO (show Fe.l6_0.m 200000 200000 (0, a, [], [], l, b, ks) = _ from k1) ?_
        dsimp only
        have hwa : wt (.mk true [] tsA) ≤ 2000 := by unfold wt; simp; omega
        refine bO (rlpE_ok (n := 200000) (by decide) 200000 true [] a tsA inS_nil har (by omega) hwa) ?_
        rw [if_pos (by constructor <;> omega)]
        have hrep : Rep (.agg [.bool l, .rints .u8 b, .robjs 25 3 ks]) (.mk l b ts) := .mk l _ _ b ks ts rfl rfl hb hk hr.len hr.at'
        have hwb : wt (.mk true [] (tsA ++ [.mk l b ts])) ≤ 2000 := by unfold wt; rw [wts_snoc]; simp; omega
        refine bO (rlpE_ok (n := 200000) (by decide) 200000 true [] _ _ inS_nil (k2.snoc hrep) (by omega) hwb) ?_
        have eA : enc (.mk true [] tsA) = hd (enc.encs tsA).length 192 ++ enc.encs tsA := rfl
        have eB : enc (.mk true [] (tsA ++ [.mk l b ts])) = hd (enc.encs tsA ++ enc (.mk l b ts)).length 192 ++ (enc.encs tsA ++ enc (.mk l b ts)) := by
          rw [← encs_snoc]; rfl
        have hh := hd_len (enc.encs tsA).length 192
        have hh2 := hd_len (enc.encs tsA ++ enc (.mk l b ts)).length 192
        have hmono := hd_mono (m := (enc.encs tsA ++ enc (.mk l b ts)).length) (n := (enc.encs tsA).length) 192 (by simp) (by simp; omega)
        have lA : (enc (.mk true [] tsA)).length = (hd (enc.encs tsA).length 192).length + (enc.encs tsA).length := by rw [eA, List.length_append]
        have lB : (enc (.mk true [] (tsA ++ [.mk l b ts]))).length = (hd (enc.encs tsA ++ enc (.mk l b ts)).length 192).length + ((enc.encs tsA).length + (enc (.mk l b ts)).length) := by rw [eB, List.length_append, List.length_append]
        have hsub : Go.IntKind.wrap .i64 ((((enc (.mk true [] tsA)).length : Nat) : Int) - (((enc.encs tsA).length : Nat) : Int)) = (((hd (enc.encs tsA).length 192).length : Nat) : Int) := by
          rw [wi64_id (by omega) (by omega)]; omega
        have hsub2 : Go.IntKind.wrap .i64 ((((enc (.mk true [] (tsA ++ [.mk l b ts]))).length : Nat) : Int) - (((enc (.mk true [] tsA)).length : Nat) : Int)) = (((enc (.mk true [] (tsA ++ [.mk l b ts]))).length : Nat) : Int) - (((enc (.mk true [] tsA)).length : Nat) : Int) := by
          rw [wi64_id (by omega) (by omega)]
        rw [hsub, if_pos (by simp; omega), if_pos (by simp; omega), if_pos (by omega), if_pos (by omega)]
        have hcut : cut (enc (.mk true [] tsA)) (((hd (enc.encs tsA).length 192).length : Nat) : Int).toNat none = enc.encs tsA := by
          rw [eA]; simp [cut]
        rw [hcut]
        refine bO (sameB _) ?_
        rw [if_pos rfl]
        refine bO (rlpE_ok (n := 200000) (by decide) 200000 l b ks ts hb hr (by omega) (by omega)) ?_
        rw [hsub2]
        congr 1
        rw [decide_eq_true_eq]
        omega
      · rw [if_pos (by simp; omega)]
        exact bO known_t rfl
    · rw [if_pos (by simp; omega)]
      exact bO known_t rfl
  · rw [if_pos (by simp; omega)]
    exact bO known_t rfl
end Go.Abs.Pure
end
