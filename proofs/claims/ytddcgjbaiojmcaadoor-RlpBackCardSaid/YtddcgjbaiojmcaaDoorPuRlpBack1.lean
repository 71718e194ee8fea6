/- Plain laws about what the functions compute. Conditions: the arguments' bounds, as each theorem says. -/
import Derived.Test.YtddcgjbaiojmcaaDoorFnRlpBack1
import Derived.Test.YtddcgjbaiojmcaaDoorAbsL7
import Derived.Test.YtddcgjbaiojmcaaDoorProg
import Derived.Test.YtddcgjbaiojmcaaDoorBinL1
import Derived.Test.YtddcgjbaiojmcaaDoorRows
import Derived.LaidLaws
import Derived.Test.YtddcgjbaiojmcaaDoorFnRlpBack2
section
set_option linter.unusedVariables false
set_option linter.unusedSimpArgs false
set_option maxRecDepth 100000
namespace Go.Abs.Pure
open Go Go.Abs
theorem bO {α β : Type} {x : Option α} {a : α} {f : α → Option β} {r : Option β} (h : x = some a) (k : f a = r) : bindO x f = r := by
  rw [h]; exact k
def le : Nat → Nat → List Int
  | 0, _ => []
  | f + 1, n => if n = 0 then [] else ((n % 256 : Nat) : Int) :: le f (n / 256)
def be (n : Nat) : List Int := (le 8 n).reverse
theorem le_zero : ∀ f, le f 0 = [] | 0 => rfl | f + 1 => rfl
theorem le_len : ∀ f n, (le f n).length ≤ f
  | 0, _ => Nat.le_refl _
  | f + 1, n => by
    unfold le
    split
    · simp
    · have := le_len f (n / 256); simp; omega
theorem be_len (n : Nat) : (be n).length ≤ 8 := by unfold be; rw [List.length_reverse]; exact le_len 8 n
theorem le_more : ∀ f g n, n < 256 ^ f → f ≤ g → le g n = le f n
  | 0, g, n, h, _ => by
    have : n = 0 := by simpa using h
    subst this
    rw [le_zero]; rfl
  | f + 1, 0, n, h, k => by omega
  | f + 1, g + 1, n, h, k => by
    unfold le
    split
    · rfl
    · rw [le_more f g (n / 256) (by rw [Nat.pow_succ] at h; omega) (by omega)]
theorem be_step (n : Nat) (h : n < 256 ^ 8) : be n = if n = 0 then [] else be (n / 256) ++ [((n % 256 : Nat) : Int)] := by
  unfold be
  by_cases h0 : n = 0
  · subst h0; rfl
  · rw [if_neg h0]
    have e : le 8 n = ((n % 256 : Nat) : Int) :: le 7 (n / 256) := by
      conv => lhs; unfold le
      rw [if_neg h0]
    rw [e, List.reverse_cons, le_more 7 8 (n / 256) (by omega) (by omega)]
theorem be_zero : be 0 = [] := rfl
theorem be_pos (n : Nat) (h : n < 256 ^ 8) (h0 : n ≠ 0) : 0 < (be n).length := by
  rw [be_step n h, if_neg h0]; simp
theorem rlp_big_loop (n : Nat) : ∀ (f v m : Nat) (acc : List Int), v < 256 ^ f → f + 1 ≤ m → acc.length + f ≤ 100 → Fu.l2_0.g (fun a0 => a0) n m (v : Int) acc = some (acc ++ le f v)
  | 0, v, m + 1, acc, h, hm, ha => by
    have : v = 0 := by simpa using h
    subst this
    show Fu.l2_0.r _ _ _ _ _ = _
    unfold Fu.l2_0.r
    rw [if_neg (by decide)]
    simp [le]
  | f + 1, v, 0, acc, h, hm, ha => by omega
  | 0, v, 0, acc, h, hm, ha => by omega
  | f + 1, v, m + 1, acc, h, hm, ha => by
    show Fu.l2_0.r _ _ _ _ _ = _
    unfold Fu.l2_0.r
    by_cases h0 : v = 0
    · subst h0
      rw [if_neg (by decide)]
      simp [le]
    · rw [if_pos (by simp; omega), if_pos (by constructor <;> omega)]
      have e1 : Go.Abs.ishr .u64 (v : Int) 8 = ((v / 256 : Nat) : Int) := by
        rw [show (8 : Int) = ((8 : Nat) : Int) from rfl, ishr_ofNat _ _ _ (by decide)]
        simp
      have e2 : Go.IntKind.wrap .u8 (v : Int) = ((v % 256 : Nat) : Int) := by rw [wu8]; omega
      rw [e1, e2]
      refine (rlp_big_loop n f (v / 256) m _ (by rw [Nat.pow_succ] at h; omega) (by omega) (by simp; omega)).trans ?_
      conv => rhs; unfold le
      rw [if_neg h0]
      simp
theorem rev8 (k : Nat) : ∀ a : List Int, a.length ≤ 8 → Fa.m (k + 10) a = some a.reverse
  | [], _ => by kernel_rfl
  | [_], _ => by kernel_rfl
  | [_, _], _ => by kernel_rfl
  | [_, _, _], _ => by kernel_rfl
  | [_, _, _, _], _ => by kernel_rfl
  | [_, _, _, _, _], _ => by kernel_rfl
  | [_, _, _, _, _, _], _ => by kernel_rfl
  | [_, _, _, _, _, _, _], _ => by kernel_rfl
  | [_, _, _, _, _, _, _, _], _ => by kernel_rfl
  | _ :: _ :: _ :: _ :: _ :: _ :: _ :: _ :: _ :: _, h => by simp at h
theorem rlp_big_ok {n : Nat} (hn : 100 ≤ n) (v : Nat) (h : v < 256 ^ 8) : Fu.m n (v : Int) = some (be v) := by
  unfold Fu.m Fu.g
  refine bO (rlp_big_loop n 8 v n [] h (by omega) (by simp)) ?_
  obtain ⟨k, rfl⟩ : ∃ k, n = k + 10 := ⟨n - 10, by omega⟩
  refine bO (rev8 k _ (by simpa using le_len 8 v)) ?_
  simp [be]
def hd (n : Nat) (k : Int) : List Int := if n ≤ 55 then [k + n] else (k + 55 + (be n).length) :: be n
theorem hd_len (n : Nat) (k : Int) : 1 ≤ (hd n k).length ∧ (hd n k).length ≤ 9 := by
  unfold hd
  have := be_len n
  split <;> simp <;> omega
theorem rlp_head_ok {n : Nat} (hn : 100 ≤ n) (v : Nat) (k : Int) (h : v < 256 ^ 7) (h0 : 0 ≤ k) (h1 : k ≤ 192) : Fp.m n ((v : Int), k) = some (hd v k) := by
  unfold Fp.m Fp.g hd
  by_cases hv : v ≤ 55
  · rw [if_pos (by simp; omega), if_pos hv]
    show some [_] = _
    rw [wu8_id (n := (v : Int)) (by omega) (by omega), wu8_id (by omega) (by omega)]
  · rw [if_neg (by simp; omega), if_neg hv]
    simp only
    rw [wu64_id (by omega) (by omega)]
    refine bO (rlp_big_ok hn v (by omega)) ?_
    have := be_len v
    rw [if_pos (by constructor <;> omega)]
    rw [wu8_id (n := ((be v).length : Int)) (by omega) (by omega), wu8_id (n := k + 55) (by omega) (by omega), wu8_id (by omega) (by omega)]
    rfl
inductive It where
  | mk (l : Bool) (b : List Int) (ks : List It)
inductive Rep : AV → It → Prop
  | mk (l : Bool) (B K : AV) (b : List Int) (ks : List AV) (ts : List It) (hB : tkRints .u8 B = some b) (hK : tkRobjs 25 3 K = some ks) (hb : InS .u8 b) (hk : ks.length ≤ 140737488351232) (hlen : ks.length = ts.length)
      (h : ∀ (i : Nat) (z : AV) (t : It), ks[i]? = some z → ts[i]? = some t → Rep z t) : Rep (.agg [.bool l, B, K]) (.mk l b ts)
structure Reps (ks : List AV) (ts : List It) : Prop where
  len : ks.length = ts.length
  at' : ∀ (i : Nat) (z : AV) (t : It), ks[i]? = some z → ts[i]? = some t → Rep z t
theorem Reps.get {ks : List AV} {ts : List It} (h : Reps ks ts) {i : Nat} (hi : i < ks.length) : ∃ t, ts[i]? = some t ∧ Rep (ks.getD i .any) t ∧ ts.drop i = t :: ts.drop (i + 1) := by
  have hi' : i < ts.length := h.len ▸ hi
  refine ⟨ts[i], List.getElem?_eq_getElem hi', ?_, List.drop_eq_getElem_cons hi'⟩
  have : ks.getD i .any = ks[i] := by simp [hi]
  rw [this]
  exact h.at' i _ _ (List.getElem?_eq_getElem hi) (List.getElem?_eq_getElem hi')
theorem Reps.nil : Reps [] [] := ⟨rfl, fun i z t h => by simp at h⟩
theorem Reps.snoc {ks : List AV} {ts : List It} (h : Reps ks ts) {z : AV} {t : It} (hz : Rep z t) : Reps (ks ++ [z]) (ts ++ [t]) := by
  refine ⟨by simp [h.len], fun i x u hx hu => ?_⟩
  rcases Nat.lt_or_ge i ks.length with hi | hi
  · rw [List.getElem?_append_left hi] at hx
    rw [List.getElem?_append_left (h.len ▸ hi)] at hu
    exact h.at' i x u hx hu
  · rw [List.getElem?_append_right hi] at hx
    rw [List.getElem?_append_right (h.len ▸ hi), ← h.len] at hu
    cases hk : i - ks.length with
    | zero => rw [hk] at hx hu; simp at hx hu; subst hx hu; exact hz
    | succ k => rw [hk] at hx; simp at hx
theorem Rep.opened {z : AV} {t : It} (h : Rep z t) : ∃ l b ks ts, t = .mk l b ts ∧ Reps ks ts ∧ InS .u8 b ∧ ks.length ≤ 140737488351232 ∧ ∀ {R : Type} (F : Bool → List Int → List AV → Option R),
    (bindO (tkAgg 3 z) fun r => bindO (tkBool (List.getD r 0 .any)) fun a => bindO (tkRints .u8 (List.getD r 1 .any)) fun x => bindO (tkRobjs 25 3 (List.getD r 2 .any)) fun k => F a x k) = F l b ks := by
  cases h with
  | mk l B K b ks ts hB hK hb hk hlen h =>
    refine ⟨l, b, ks, ts, rfl, ⟨hlen, h⟩, hb, hk, fun F => ?_⟩
    refine bO (a := [.bool l, B, K]) rfl ?_
    refine bO (a := l) rfl ?_
    refine bO (a := b) hB ?_
    exact bO (a := ks) hK rfl
def wt : It → Nat
  | .mk _ b ks => 1 + b.length / 16 + wts ks
where wts : List It → Nat
  | [] => 0
  | k :: r => wt k + wts r
theorem wt_pos (t : It) : 1 ≤ wt t := by cases t; unfold wt; omega
theorem wts_len : ∀ l : List It, l.length ≤ wt.wts l
  | [] => Nat.zero_le _
  | k :: r => by
    have := wt_pos k
    have := wts_len r
    simp only [List.length_cons, wt.wts]
    omega
def enc : It → List Int
  | .mk l b ks => match l with
    | true => hd (encs ks).length 192 ++ encs ks
    | false => if b.length = 1 ∧ b.getD 0 0 < 128 then b else hd b.length 128 ++ b
where encs : List It → List Int
  | [] => []
  | k :: r => enc k ++ encs r
mutual
theorem enc_len : ∀ t : It, (enc t).length ≤ 24 * wt t
  | .mk l b ks => by
    have h1 := encs_len ks
    have h2 := (hd_len (enc.encs ks).length 192).2
    have h3 := (hd_len b.length 128).2
    unfold enc wt
    cases l with
    | true => simp only [List.length_append]; omega
    | false =>
      simp only
      split
      · omega
      · simp only [List.length_append]; omega
theorem encs_len : ∀ l : List It, (enc.encs l).length ≤ 24 * wt.wts l
  | [] => by simp [enc.encs]
  | k :: r => by
    have h1 := enc_len k
    have h2 := encs_len r
    simp only [enc.encs, wt.wts, List.length_append]
    omega
end
end Go.Abs.Pure
end
section
set_option linter.unusedVariables false
set_option linter.unusedSimpArgs false
set_option maxRecDepth 100000
namespace Go.Abs
open Go Go.Proofs Go.RowKit Go.Proofs.YtddcgjbaiojmcaaDoor
theorem star : "*" ++ "errors.errorString" = "*errors.errorString" := by decide
theorem row78 (u : TypeId) (h : Tryd.prog.typeName? 3 u = some "*errors.errorString") : u = 78 :=
  typeName_ptr_named (nm := "errors.errorString") (by rw [star]; kernel_rfl) (by kernel_rfl) (by decide) u (by rw [star]; exact h)
theorem one_sent {W : World} {name : String} {text : List UInt8} {ps : List MemPlace} {k : Nat} {r : List (String × DataW Unit)} (hk : Tryd.prog.globalNamed name = some k) (ht : (Tryd.prog.globals[k]?).map (·.type) = some 50) (h1 : (W.heap.size = W.heap.size))
    (h : DataW.LaidVars Tryd.prog W ((name, .iface "*errors.errorString" (.ptr (.agg [.lit (.string text)]))) :: r) ps)
    (hok : ∀ b off, MemPlace.cell b off ∈ ps → (∃ c t, W.heap[b]? = some (.cells c t (0, 0))) ∧ ∀ u v, W.cell? ⟨b, off, none⟩ = some (.iface u v) → Value.okWide Tryd.prog W .any 0 u v) :
    ∃ a s q, W.cell? ⟨k, 0, none⟩ = some (.iface 78 (.pointer (some a))) ∧ W.cell? a = some (.string s) ∧ s.data.toList = text ∧ (∃ c t, W.heap[a.block]? = some (.cells c t (0, 0))) ∧ DataW.LaidVars Tryd.prog W r q ∧ ∀ x ∈ q, x ∈ ps := by
  obtain ⟨g, t, cs, fuel, p, q, a1, a2, a3, a4, a5, rfl⟩ := h
  obtain rfl : g = k := Option.some.inj (a1.symm.trans hk)
  obtain rfl : t = 50 := Option.some.inj (a2.symm.trans ht)
  have hcell0 : ∀ i, W.cell? ⟨g, i, none⟩ = cs[i]? := fun i => World.var?_cell a1 a3 i
  have hmem0 : ∀ u v, cs.toList = [.iface u v] → MemPlace.cell g 0 ∈ MemPlace.row ⟨g, 0, none⟩ cs.size ++ p ++ q := fun u v hc => by
    have : cs.size = 1 := by rw [← Array.length_toList, hc]; rfl
    rw [this]
    simp [MemPlace.row]
  have hc0 : ∀ u v, cs.toList = [.iface u v] → W.cell? ⟨g, 0, none⟩ = some (.iface u v) := fun u v hc => by
    rw [hcell0, ← Array.getElem?_toList, hc]; rfl
  obtain ⟨a, s, e1, e2, e3, _, e5⟩ := errorString_of_trod (ts := 9) (te := 104) (f := ((match Tryd.prog.underlying 104 with | some (.struct fs) => fs | _ => #[]).getD 0 default)) Tryd.underlying50 row78 Tryd.underlying78 (by kernel_rfl) (by kernel_rfl) (by kernel_rfl) (by kernel_rfl) (by kernel_rfl) (by kernel_rfl) a4
    fun u v hc => (hok g 0 (hmem0 u v hc)).2 u v (hc0 u v hc)
  refine ⟨a, s, q, hc0 _ _ e1, e2, e3, (hok a.block a.off ?_).1, a5, fun x hx => List.mem_append_right _ hx⟩
  rw [e5]
  simp [MemPlace.row]
theorem spot_none {W : World} {a : Addr} {v : Value} (h : W.cell? a = some v) : a.spot = none := by
  unfold World.cell? at h
  split at h
  · split at h
    · cases h
    · rename_i hs; simpa using hs
  · cases h
theorem globS (W : World) (h : laidMet Tryd.prog [("quaestor/rlp.errShort", Rows.laid_quaestor_rlp_errShort), ("quaestor/rlp.errForm", Rows.laid_quaestor_rlp_errForm), ("quaestor/rlp.errDeep", Rows.laid_quaestor_rlp_errDeep)] W) : Glob rlpG (E0 W) := by
  obtain ⟨ps, h1, _, hok⟩ := h
  obtain ⟨a0, s0, q0, b0, c0, d0, e0, h2, m0⟩ := one_sent (k := 0) (by kernel_rfl) (by kernel_rfl) rfl h1 hok
  have hok1 := fun b off hb => hok b off (m0 _ hb)
  obtain ⟨a1, s1, q1, b1, c1, d1, e1, h3, m1⟩ := one_sent (k := 1) (by kernel_rfl) (by kernel_rfl) rfl h2 hok1
  have hok2 := fun b off hb => hok1 b off (m1 _ hb)
  obtain ⟨a2, s2, q2, b2, c2, d2, e2, _, _⟩ := one_sent (k := 2) (by kernel_rfl) (by kernel_rfl) rfl h3 hok2
  have n01 : a0 ≠ a1 := fun h => by subst h; rw [c0] at c1; cases c1; rw [d0] at d1; exact absurd d1 (by decide)
  have n02 : a0 ≠ a2 := fun h => by subst h; rw [c0] at c2; cases c2; rw [d0] at d2; exact absurd d2 (by decide)
  have n12 : a1 ≠ a2 := fun h => by subst h; rw [c1] at c2; cases c2; rw [d1] at d2; exact absurd d2 (by decide)
  have cell : ∀ g tF ts k, rlpG g = .errv tF ts k → (g = 0 ∨ g = 1 ∨ g = 2) ∧ tF = 58 ∧ ts = 78 ∧ k = g := fun g tF ts k he => by
    match g, he with
    | 0, he => cases he; exact ⟨.inl rfl, rfl, rfl, rfl⟩
    | 1, he => cases he; exact ⟨.inr (.inl rfl), rfl, rfl, rfl⟩
    | 2, he => cases he; exact ⟨.inr (.inr rfl), rfl, rfl, rfl⟩
    | g + 3, he => cases he
  refine ⟨fun g => ?_, fun g tF ts k he => ?_, fun g g' tF ts k tF' ts' k' he he' hne u u' p x x' => ?_⟩
  · match g with
    | 0 => exact glob_errv (by decide) b0
    | 1 => exact glob_errv (by decide) b1
    | 2 => exact glob_errv (by decide) b2
    | g + 3 => trivial
  · obtain ⟨hg, rfl, rfl, rfl⟩ := cell g tF ts k he
    refine ⟨rfl, ?_⟩
    rcases hg with rfl | rfl | rfl
    · exact glob_errAt b0 (spot_none c0) e0
    · exact glob_errAt b1 (spot_none c1) e1
    · exact glob_errAt b2 (spot_none c2) e2
  · obtain ⟨hg, -, -, -⟩ := cell g tF ts k he
    obtain ⟨hg', -, -, -⟩ := cell g' tF' ts' k' he'
    have x1 : W.cell? ⟨g, 0, none⟩ = some (.iface u p) := x
    have x2 : W.cell? ⟨g', 0, none⟩ = some (.iface u' p) := x'
    rcases hg with rfl | rfl | rfl <;> rcases hg' with rfl | rfl | rfl <;> (try exact absurd rfl hne) <;>
      simp only [b0, b1, b2, Option.some.injEq, Value.iface.injEq] at x1 x2 <;> obtain ⟨-, rfl⟩ := x1 <;> obtain ⟨-, x2⟩ := x2 <;> simp only [Value.pointer.injEq, Option.some.injEq] at x2 <;>
      first | exact n01 x2.symm | exact n01 x2 | exact n02 x2.symm | exact n02 x2 | exact n12 x2.symm | exact n12 x2
end Go.Abs
namespace Go.Abs.Pure
open Go Go.Abs Go.Proofs
noncomputable def fs25 : Array Field := match Tryd.prog.underlying 25 with | some (.struct fs) => fs | _ => #[]
theorem ty25 : fs25.toList.map (·.type) = [4, 22, 23] := by kernel_rfl
theorem item_open {z : AV} (h : AVT Tryd.prog 25 z) : ∃ l b ks, z = .agg [.bool l, .rints .u8 b, .robjs 25 3 ks] ∧ InS .u8 b ∧ ks.length ≤ 140737488351232 ∧ ∀ x ∈ ks, AVT Tryd.prog 25 x := by
  obtain ⟨xs, rfl, g⟩ := AVT.struct_inv (fs := fs25) h (by kernel_rfl)
  rw [ty25] at g
  obtain ⟨y0, r0, rfl, h0, g⟩ := AVTs.cons_inv g
  obtain ⟨y1, r1, rfl, h1, g⟩ := AVTs.cons_inv g
  obtain ⟨y2, r2, rfl, h2, g⟩ := AVTs.cons_inv g
  obtain rfl := AVTs.nil_inv g
  obtain ⟨l, rfl⟩ := AVT.bool_inv h0 (by kernel_rfl)
  obtain ⟨b, rfl, hb⟩ := AVT.rints_inv (e := 5) (k := .u8) h1 (by kernel_rfl) (by kernel_rfl) (of_decide_eq_true (by kernel_rfl))
  obtain ⟨ks, rfl, hk⟩ := AVT.robjs_inv (e := 25) (w := 3) h2 (by kernel_rfl) (by kernel_rfl) (of_decide_eq_true (by kernel_rfl)) (by kernel_rfl)
  exact ⟨l, b, ks, rfl, hb, hk.1, hk.2⟩
theorem reps_of : ∀ {ks : List AV}, (∀ z ∈ ks, ∃ t, Rep z t) → ∃ ts, Reps ks ts
  | [], _ => ⟨[], .nil⟩
  | k :: r, h => by
    obtain ⟨t, ht⟩ := h k (by simp)
    obtain ⟨ts, hts⟩ := reps_of (ks := r) fun z hz => h z (by simp [hz])
    refine ⟨t :: ts, by simp [hts.len], fun i z u hz hu => ?_⟩
    cases i with
    | zero => simp at hz hu; subst hz hu; exact ht
    | succ i => exact hts.at' i z u (by simpa using hz) (by simpa using hu)
theorem item_rep : ∀ (n : Nat) (z : AV), SizeOf.sizeOf z ≤ n → AVT Tryd.prog 25 z → ∃ t, Rep z t
  | 0, z, hn, h => by cases z <;> simp at hn
  | n + 1, z, hn, h => by
    obtain ⟨l, b, ks, rfl, hb, hk, hx⟩ := item_open h
    obtain ⟨ts, hts⟩ := reps_of fun z hz => item_rep n z (by
      have := List.sizeOf_lt_of_mem hz
      simp at hn
      omega) (hx z hz)
    exact ⟨.mk l b ts, .mk l _ _ b ks ts rfl rfl hb hk hts.len hts.at'⟩
theorem items_rep {ks : List AV} (h : ks.length ≤ 140737488351232 ∧ ∀ z ∈ ks, AVT Tryd.prog 25 z) : ks.length ≤ 140737488351232 ∧ ∃ ts, Reps ks ts :=
  ⟨h.1, reps_of fun z hz => item_rep (SizeOf.sizeOf z) z (Nat.le_refl _) (h.2 z hz)⟩
end Go.Abs.Pure
end
section
set_option linter.unusedVariables false
set_option linter.unusedSimpArgs false
set_option maxRecDepth 100000
namespace Go.Abs.Pure
open Go Go.Abs
theorem wts_get : ∀ {ts : List It} {i : Nat} {t : It}, ts[i]? = some t → wt t ≤ wt.wts ts
  | [], i, t, h => by simp at h
  | k :: r, 0, t, h => by simp at h; subst h; simp only [wt.wts]; omega
  | k :: r, i + 1, t, h => by
    have := wts_get (ts := r) (i := i) (t := t) (by simpa using h)
    simp only [wt.wts]; omega
theorem encs_drop {ts : List It} {i : Nat} {t : It} (h : ts.drop i = t :: ts.drop (i + 1)) : enc.encs (ts.drop i) = enc t ++ enc.encs (ts.drop (i + 1)) := by
  rw [h]; rfl
def EncAt (f : (Bool × ((List Int) × (List AV))) → Option (List Int)) (d : Nat) : Prop := ∀ l b ks ts, InS .u8 b → Reps ks ts → wt (.mk l b ts) ≤ d → wt (.mk l b ts) ≤ 2000 → f (l, b, ks) = some (enc (.mk l b ts))
theorem rlpE_loop {n : Nat} {f : (Bool × ((List Int) × (List AV))) → Option (List Int)} {d : Nat} (ih : EncAt f d) {ks : List AV} {ts : List It} (hr : Reps ks ts) (hw : wt.wts ts ≤ d) (hs : wt.wts ts ≤ 2000) :
    ∀ (r i m : Nat) (acc : List Int), i + r = ks.length → r + 1 ≤ m → acc.length + (enc.encs (ts.drop i)).length ≤ 1000000 →
      Ff.l4_0.g (fun a0 => a0) n f m (i : Int) ((ks.length : Nat) : Int) ks acc = some (acc ++ enc.encs (ts.drop i))
  | _, i, 0, acc, hi, hm, ha => by omega
  | 0, i, m + 1, acc, hi, hm, ha => by
    show Ff.l4_0.r _ _ _ _ _ _ _ _ = _
    unfold Ff.l4_0.r
    rw [if_neg (by simp; omega)]
    rw [List.drop_eq_nil_of_le (by rw [← hr.len]; omega)]
    simp [enc.encs]
  | r + 1, i, m + 1, acc, hi, hm, ha => by
    show Ff.l4_0.r _ _ _ _ _ _ _ _ = _
    unfold Ff.l4_0.r
    rw [if_pos (by simp; omega), if_pos (by omega), if_pos (by omega), Int.toNat_natCast]
    have hwl := wts_len ts
    have hll := hr.len
    obtain ⟨t, h1, h2, h3⟩ := hr.get (i := i) (by omega)
    obtain ⟨l, b, ks', ts', rfl, q1, q2, q3, q4⟩ := h2.opened
    refine (q4 _).trans ?_
    have hwt := wts_get h1
    rw [encs_drop h3, List.length_append] at ha
    refine bO (ih l b ks' ts' q2 q1 (by omega) (by omega)) ?_
    rw [if_pos (by constructor <;> omega), wi64_id (by omega) (by omega)]
    refine (rlpE_loop ih hr hw hs r (i + 1) m _ (by omega) (by omega) (by rw [List.length_append]; omega)).trans ?_
    rw [encs_drop h3, List.append_assoc]
theorem clone_m {n : Nat} {b : List Int} (h : b.length ≤ 100000) : Fb.m n b = some b := by
  unfold Fb.m
  exact if_pos h
theorem rlpE_ok {n : Nat} (hn : 5000 ≤ n) : ∀ d, EncAt (Ff.mr n d) d
  | 0, l, b, ks, ts, hb, hr, hd, hs => by have := wt_pos (.mk l b ts); omega
  | d + 1, l, b, ks, ts, hb, hr, hd, hs => by
    show Ff.h n (Ff.mr n d) (l, b, ks) = _
    unfold Ff.h
    dsimp only
    have hw : wt.wts ts ≤ d ∧ wt.wts ts ≤ 2000 ∧ b.length ≤ 40000 := by unfold wt at hd hs; omega
    have hlen := wts_len ts
    have hel := encs_len ts
    unfold Ff.g enc
    cases l with
    | true =>
      rw [if_pos rfl]
      refine bO (rlpE_loop (rlpE_ok hn d) hr hw.1 hw.2.1 ks.length 0 n [] (by omega) (by rw [hr.len]; omega) (by simp; omega)) ?_
      simp only [List.nil_append, List.drop_zero]
      refine bO (rlp_head_ok (by omega) _ 192 (by omega) (by omega) (by omega)) ?_
      have h9 := (hd_len (enc.encs ts).length 192).2
      rw [if_pos (by constructor <;> omega)]
    | false =>
      rw [if_neg (by decide)]
      simp only
      have h9 := (hd_len b.length 128).2
      by_cases h1 : b.length = 1
      · rw [if_pos (by simp [h1]), if_pos (by omega)]
        by_cases h2 : b.getD 0 0 < 128
        · rw [if_pos (by simpa using h2), if_pos ⟨h1, h2⟩]
          exact bO (clone_m (by omega)) rfl
        · rw [if_neg (by simpa using h2), if_neg fun h => h2 h.2]
          refine bO (rlp_head_ok (by omega) _ 128 (by omega) (by omega) (by omega)) ?_
          rw [if_pos (by constructor <;> omega)]
      · rw [if_neg (by simp; omega), if_neg fun h => h1 h.1]
        refine bO (rlp_head_ok (by omega) _ 128 (by omega) (by omega) (by omega)) ?_
        rw [if_pos (by constructor <;> omega)]
def SameAt (f : (Bool × ((List Int) × ((List AV) × (Bool × ((List Int) × (List AV)))))) → Option Bool) (d : Nat) : Prop := ∀ l b ks ks' ts, Reps ks ts → Reps ks' ts → wt (.mk l b ts) ≤ d → wt (.mk l b ts) ≤ 2000 → f (l, b, ks, l, b, ks') = some true
theorem same_loop {n : Nat} {f : (Bool × ((List Int) × ((List AV) × (Bool × ((List Int) × (List AV)))))) → Option Bool} {d : Nat} (ih : SameAt f d) {x1 x4 : Bool} {x2 x5 : List Int} {ks ks' : List AV} {ts : List It} (hr : Reps ks ts) (hr' : Reps ks' ts) (hw : wt.wts ts ≤ d) (hs : wt.wts ts ≤ 2000) :
    ∀ (r i m : Nat), i + r = ks.length → r + 1 ≤ m →
      Fr.l4_0.g (fun a0 => (Sum.inl a0 : Bool ⊕ Unit)) (Sum.inr ()) n f m (i : Int) x1 x2 ks x4 x5 ks' = some (.inr ())
  | _, i, 0, hi, hm => by omega
  | 0, i, m + 1, hi, hm => by
    show Fr.l4_0.r _ _ _ _ _ _ _ _ _ _ _ _ = _
    unfold Fr.l4_0.r
    rw [if_neg (by simp; omega)]
  | r + 1, i, m + 1, hi, hm => by
    show Fr.l4_0.r _ _ _ _ _ _ _ _ _ _ _ _ = _
    unfold Fr.l4_0.r
    have hll : ks.length = ks'.length := hr.len.trans hr'.len.symm
    have hwl := wts_len ts
    have hll2 := hr.len
    rw [if_pos (by simp; omega), if_pos (by omega), if_pos (by omega), Int.toNat_natCast]
    obtain ⟨t, h1, h2, h3⟩ := hr.get (i := i) (by omega)
    obtain ⟨t', h1', h2', h3'⟩ := hr'.get (i := i) (by omega)
    obtain rfl : t = t' := Option.some.inj (h1.symm.trans h1')
    obtain ⟨l, b, k1, ts1, rfl, q1, q2, q3, q4⟩ := h2.opened
    obtain ⟨l', b', k2, ts2, e, p1, p2, p3, p4⟩ := h2'.opened
    cases e
    refine (q4 _).trans ?_
    dsimp only
    rw [if_pos (by omega), if_pos (by omega)]
    refine (p4 _).trans ?_
    have hwt := wts_get h1
    refine bO (ih l b k1 k2 ts1 q1 p1 (by omega) (by omega)) ?_
    rw [if_neg (by decide), wi64_id (by omega) (by omega)]
    exact same_loop ih hr hr' hw hs r (i + 1) m (by omega) (by omega)
theorem same_ok {n : Nat} (hn : 5000 ≤ n) : ∀ d, SameAt (Fr.mr n d) d
  | 0, l, b, ks, ks', ts, hr, hr', hd, hs => by have := wt_pos (.mk l b ts); omega
  | d + 1, l, b, ks, ks', ts, hr, hr', hd, hs => by
    show Fr.h n (Fr.mr n d) (l, b, ks, l, b, ks') = _
    unfold Fr.h
    dsimp only
    have hw : wt.wts ts ≤ d ∧ wt.wts ts ≤ 2000 := by unfold wt at hd hs; omega
    have hlen := wts_len ts
    have hll : ks.length = ks'.length := hr.len.trans hr'.len.symm
    unfold Fr.g
    rw [if_neg (by simp), if_neg (by simp), if_neg (by simp [hll])]
    exact bO (same_loop (same_ok hn d) hr hr' hw.1 hw.2 ks.length 0 n (by omega) (by rw [hr.len]; omega)) rfl
def mu : It → Nat → Nat
  | .mk _ b ks, w => mus ks (w + 1 + b.length / 16)
where mus : List It → Nat → Nat
  | [], w => w
  | k :: r, w => if w ≤ 1000 then mus r (mu k w) else w
mutual
theorem mu_ge : ∀ (t : It) (w : Nat), w + 1 ≤ mu t w
  | .mk l b ks, w => by
    have := mus_ge ks (w + 1 + b.length / 16)
    unfold mu; omega
theorem mus_ge : ∀ (l : List It) (w : Nat), w ≤ mu.mus l w
  | [], w => Nat.le_refl _
  | k :: r, w => by
    unfold mu.mus
    have h1 := mu_ge k w
    have h2 := mus_ge r (mu k w)
    split <;> omega
end
mutual
theorem mu_eq : ∀ (t : It) (w : Nat), mu t w ≤ 1000 → mu t w = w + wt t
  | .mk l b ks, w, h => by
    unfold mu at h ⊢
    rw [mus_eq ks _ h]
    unfold wt; omega
theorem mus_eq : ∀ (l : List It) (w : Nat), mu.mus l w ≤ 1000 → mu.mus l w = w + wt.wts l
  | [], w, h => rfl
  | k :: r, w, h => by
    unfold mu.mus at h ⊢
    split at h
    · rename_i hw
      rw [if_pos hw]
      have h2 := mus_ge r (mu k w)
      rw [mus_eq r _ h, mu_eq k w (by omega)]
      simp only [wt.wts]; omega
    · omega
end
theorem much_loop {n : Nat} {f : (Bool × ((List Int) × ((List AV) × Int))) → Option Int} {d : Nat} (w0 : Nat) (hd : 1001 ≤ w0 + d)
    (ih : ∀ l b ks ts (w : Nat), InS .u8 b → Reps ks ts → ks.length ≤ 140737488351232 → w ≤ 1000 → 1001 ≤ w + d → f (l, b, ks, (w : Int)) = some ((mu (.mk l b ts) w : Nat) : Int))
    {x2 : Bool} {x3 : List Int} {ks : List AV} {ts : List It} (hk : ks.length ≤ 140737488351232) (hr : Reps ks ts) : ∀ (m i w : Nat), i ≤ ks.length → w0 ≤ w → 1002 ≤ w + m → 1 ≤ m →
      Fs.l3_0.g (fun a0 => a0) n f m (i : Int) (w : Int) x2 x3 ks = some ((mu.mus (ts.drop i) w : Nat) : Int)
  | 0, i, w, hi, h0, hm, hp => by omega
  | m + 1, i, w, hi, h0, hm, hp => by
    show Fs.l3_0.r _ _ _ _ _ _ _ _ _ = _
    unfold Fs.l3_0.r
    rcases Nat.lt_or_ge i ks.length with hlt | hge
    · rw [if_pos (by simp; omega)]
      obtain ⟨t, h1, h2, h3⟩ := hr.get (i := i) (by omega)
      by_cases hw : w ≤ 1000
      · rw [if_pos (by simp; omega), if_pos (by omega), if_pos (by omega), Int.toNat_natCast]
        obtain ⟨l, b, k1, ts1, rfl, q1, q2, q3, q4⟩ := h2.opened
        refine (q4 _).trans ?_
        refine bO (ih l b k1 ts1 w q2 q1 q3 hw (by omega)) ?_
        rw [wi64_id (by omega) (by omega)]
        have hg := mu_ge (.mk l b ts1) w
        refine (much_loop w0 hd ih hk hr m (i + 1) (mu (.mk l b ts1) w) (by omega) (by omega) (by omega) (by omega)).trans ?_
        rw [h3]
        conv => rhs; unfold mu.mus
        rw [if_pos hw]
      · rw [if_neg (by simp; omega), h3]
        unfold mu.mus
        rw [if_neg hw]
    · rw [if_neg (by simp; omega), List.drop_eq_nil_of_le (by rw [← hr.len]; omega)]
      rfl
theorem much_ok {n : Nat} (hn : 5000 ≤ n) : ∀ d l b ks ts (w : Nat), InS .u8 b → Reps ks ts → ks.length ≤ 140737488351232 → w ≤ 1000 → 1001 ≤ w + d → Fs.mr n d (l, b, ks, (w : Int)) = some ((mu (.mk l b ts) w : Nat) : Int)
  | 0, l, b, ks, ts, w, hb, hr, hk, hw, hd => by omega
  | d + 1, l, b, ks, ts, w, hb, hr, hk, hw, hd => by
    show Fs.h n (Fs.mr n d) (l, b, ks, (w : Int)) = _
    unfold Fs.h Fs.g
    have hb1 := hb.1
    have e1 : Int.tdiv ((b.length : Nat) : Int) 16 = ((b.length / 16 : Nat) : Int) := by
      rw [Int.tdiv_eq_ediv_of_nonneg (by omega)]; norm_cast
    simp only [e1]
    rw [wi64_id (n := ((b.length / 16 : Nat) : Int)) (by omega) (by omega), wi64_id (n := 1 + ((b.length / 16 : Nat) : Int)) (by omega) (by omega), wi64_id (by omega) (by omega)]
    have e2 : (w : Int) + (1 + ((b.length / 16 : Nat) : Int)) = ((w + 1 + b.length / 16 : Nat) : Int) := by omega
    rw [e2]
    refine bO (much_loop (w + 1 + b.length / 16) (by omega) (fun l b ks ts w h1 h2 h3 h4 h5 => much_ok hn d l b ks ts w h1 h2 h3 h4 h5) hk hr n 0 (w + 1 + b.length / 16) (by omega) (by omega) (by omega) (by omega)) ?_
    simp only [List.drop_zero]
    unfold mu
    rfl
end Go.Abs.Pure
end
section
set_option linter.unusedVariables false
set_option linter.unusedSimpArgs false
set_option maxRecDepth 100000
namespace Go.Abs.Pure
open Go Go.Abs
def Byt (b : List Int) : Prop := ∀ x ∈ b, 0 ≤ x ∧ x < 256
theorem Byt.drop {b : List Int} (h : Byt b) (k : Nat) : Byt (b.drop k) := fun x hx => h x (List.mem_of_mem_drop hx)
theorem Byt.take {b : List Int} (h : Byt b) (k : Nat) : Byt (b.take k) := fun x hx => h x (List.mem_of_mem_take hx)
def num (l : List Int) : Nat := l.foldl (fun a x => a * 256 + x.toNat) 0
theorem num_snoc (l : List Int) (x : Int) : num (l ++ [x]) = num l * 256 + x.toNat := by simp [num]
theorem num_lt : ∀ (n : Nat) (l : List Int), l.length = n → Byt l → num l < 256 ^ n
  | 0, l, h, _ => by
    obtain rfl := List.length_eq_zero_iff.1 h
    decide
  | n + 1, l, h, hb => by
    rcases List.eq_nil_or_concat l with rfl | ⟨l', x, rfl⟩
    · simp at h
    · rw [List.concat_eq_append] at h hb ⊢
      rw [num_snoc, Nat.pow_succ]
      have := num_lt n l' (by simpa using h) fun y hy => hb y (by simp [hy])
      have hx := hb x (by simp)
      omega
theorem be_facts : ∀ (n : Nat), n < 256 ^ 8 → num (be n) = n ∧ Byt (be n) ∧ (n ≠ 0 → (be n).getD 0 0 ≠ 0) := fun n => by
  induction n using Nat.strongRecOn with
  | _ n ih =>
    intro h
    rw [be_step n h]
    split
    · rename_i h0
      subst h0
      exact ⟨rfl, fun x hx => by simp at hx, fun h => absurd rfl h⟩
    · rename_i h0
      obtain ⟨h1, h2, h3⟩ := ih (n / 256) (by omega) (by omega)
      refine ⟨by rw [num_snoc, h1]; omega, fun x hx => ?_, fun _ => ?_⟩
      · rcases List.mem_append.1 hx with hx | hx
        · exact h2 x hx
        · simp only [List.mem_singleton] at hx
          omega
      · by_cases hq : n / 256 = 0
        · rw [hq, be_zero]
          simp only [List.nil_append, List.getD_cons_zero]
          omega
        · have hp := be_pos (n / 256) (by omega) hq
          rw [List.getD_eq_getElem?_getD, List.getElem?_append_left hp, ← List.getD_eq_getElem?_getD]
          exact h3 hq
theorem be_num : ∀ (k : Nat) (l : List Int), l.length = k → k ≤ 8 → Byt l → l.getD 0 0 ≠ 0 → be (num l) = l
  | 0, l, h, _, _, hz => by
    obtain rfl := List.length_eq_zero_iff.1 h
    exact absurd rfl hz
  | k + 1, l, h, hk, hb, hz => by
    rcases List.eq_nil_or_concat l with rfl | ⟨l', x, rfl⟩
    · simp at h
    · rw [List.concat_eq_append] at h hb hz ⊢
      have hl : l'.length = k := by simpa using h
      have hb' : Byt l' := fun y hy => hb y (by simp [hy])
      have hx := hb x (by simp)
      have hlt := num_lt k l' hl hb'
      have hlt2 : num (l' ++ [x]) < 256 ^ 8 := Nat.lt_of_lt_of_le (num_lt (k + 1) _ h hb) (Nat.pow_le_pow_right (by omega) hk)
      rw [num_snoc] at hlt2 ⊢
      have e1 : (num l' * 256 + x.toNat) / 256 = num l' := by omega
      have e2 : (num l' * 256 + x.toNat) % 256 = x.toNat := by omega
      cases k with
      | zero =>
        obtain rfl := List.length_eq_zero_iff.1 hl
        simp only [List.nil_append, List.getD_cons_zero] at hz ⊢
        rw [be_step _ hlt2, if_neg (by simp [num]; omega), e1, e2]
        show be 0 ++ _ = _
        rw [be_zero]
        simp
        omega
      | succ k =>
        have hz' : l'.getD 0 0 ≠ 0 := by
          rwa [List.getD_eq_getElem?_getD, List.getElem?_append_left (by omega), ← List.getD_eq_getElem?_getD] at hz
        have ih := be_num (k + 1) l' hl (by omega) hb' hz'
        have hn0 : num l' ≠ 0 := by
          intro h0
          rw [h0, be_zero] at ih
          rw [← ih] at hl; simp at hl
        rw [be_step _ hlt2, if_neg (by omega), e1, e2, ih]
        congr
        omega
def lenS (x kind : Int) (t : List Int) : Option (Nat × Nat) :=
  if (x - kind).toNat ≤ 55 then some ((x - kind).toNat, 0)
  else if t.length < (x - kind).toNat - 55 then none
  else if t.getD 0 0 = 0 then none
  else if num (t.take ((x - kind).toNat - 55)) ≤ 55 then none
  else if t.length + 1 < num (t.take ((x - kind).toNat - 55)) then none
  else some (num (t.take ((x - kind).toNat - 55)), (x - kind).toNat - 55)
def body (x kind : Int) (t : List Int) : Option (List Int × List Int) :=
  match lenS x kind t with
  | none => none
  | some (m, k) => if k + m ≤ t.length then some ((t.drop k).take m, t.drop (k + m)) else none
def many (f : List Int → Option (It × List Int)) : Nat → List Int → Option (List It)
  | _, [] => some []
  | 0, _ :: _ => none
  | m + 1, y :: i => match f (y :: i) with
    | none => none
    | some (k, r) => match many f m r with
      | none => none
      | some ks => some (k :: ks)
def one : Nat → List Int → Option (It × List Int)
  | 0, _ => none
  | _ + 1, [] => none
  | d + 1, x :: t => if x < 128 then some (.mk false [x] [], t)
    else if x < 192 then (match body x 128 t with
      | none => none
      | some (i, r) => if i.length = 1 ∧ i.getD 0 0 < 128 then none else some (.mk false i [], r))
    else match body x 192 t with
      | none => none
      | some (i, r) => match many (one d) i.length i with
        | none => none
        | some ks => some (.mk true [] ks, r)
theorem body_split {x kind : Int} {t i r : List Int} (h : body x kind t = some (i, r)) : ∃ k m, k + m ≤ t.length ∧ i = (t.drop k).take m ∧ r = t.drop (k + m) ∧ lenS x kind t = some (m, k) := by
  unfold body at h
  split at h
  · cases h
  · rename_i m k hl
    split at h
    · rename_i hk
      cases h
      exact ⟨k, m, hk, rfl, rfl, hl⟩
    · cases h
theorem one_rest : ∀ {d : Nat} {b : List Int} {t : It} {r : List Int}, one d b = some (t, r) → ∃ j, 1 ≤ j ∧ j ≤ b.length ∧ r = b.drop j
  | 0, b, t, r, h => by simp [one] at h
  | d + 1, [], t, r, h => by simp [one] at h
  | d + 1, x :: b, t, r, h => by
    unfold one at h
    split at h
    · cases h; exact ⟨1, by omega, by simp, rfl⟩
    · split at h
      · split at h
        · cases h
        · rename_i i r' hb
          split at h
          · cases h
          · cases h
            obtain ⟨k, m, h1, _, h3, _⟩ := body_split hb
            exact ⟨k + m + 1, by omega, by simp; omega, by rw [h3]; rfl⟩
      · split at h
        · cases h
        · rename_i i r' hb
          split at h
          · cases h
          · cases h
            obtain ⟨k, m, h1, _, h3, _⟩ := body_split hb
            exact ⟨k + m + 1, by omega, by simp; omega, by rw [h3]; rfl⟩
theorem hd_lenS {x kind : Int} {t : List Int} {m k : Nat} (hx : kind ≤ x) (hx2 : x ≤ kind + 63) (hb : Byt t) (h : lenS x kind t = some (m, k)) (hk : k ≤ t.length) : hd m kind ++ t.drop k = x :: t := by
  unfold lenS at h
  split at h
  · rename_i hn
    cases h
    unfold hd
    rw [if_pos hn]
    simp
    omega
  · rename_i hn
    split at h
    · cases h
    · split at h
      · cases h
      · rename_i hz
        split at h
        · cases h
        · rename_i h55
          split at h
          · cases h
          · cases h
            unfold hd
            rw [if_neg h55]
            generalize hkk : (x - kind).toNat - 55 = k at *
            have hl : (t.take k).length = k := by simp; omega
            have hz' : (t.take k).getD 0 0 ≠ 0 := by
              have : 0 < k := by omega
              rw [List.getD_eq_getElem?_getD, List.getElem?_take_of_lt this, ← List.getD_eq_getElem?_getD]
              exact hz
            rw [be_num k _ hl (by omega) (hb.take k) hz', hl]
            simp only [List.cons_append, List.take_append_drop, List.cons.injEq, and_true]
            omega
mutual
theorem enc_one : ∀ {d : Nat} {b : List Int} {t : It} {r : List Int}, Byt b → one d b = some (t, r) → enc t ++ r = b
  | 0, b, t, r, _, h => by simp [one] at h
  | d + 1, [], t, r, _, h => by simp [one] at h
  | d + 1, x :: b, t, r, hb, h => by
    have hx := hb x (by simp)
    have hb' : Byt b := fun y hy => hb y (by simp [hy])
    unfold one at h
    split at h
    · rename_i h1
      cases h
      unfold enc
      simp only
      rw [if_pos ⟨rfl, by simpa using h1⟩]
      rfl
    · rename_i h1
      split at h
      · rename_i h2
        split at h
        · cases h
        · rename_i i r' hbo
          split at h
          · cases h
          · rename_i hc
            cases h
            obtain ⟨k, m, g1, g2, g3, g4⟩ := body_split hbo
            have := hd_lenS (by omega) (by omega) hb' g4 (by omega)
            unfold enc
            simp only
            rw [if_neg hc]
            have hi : i.length = m := by rw [g2]; simp; omega
            rw [hi, List.append_assoc, ← this, g3, g2]
            congr 1
            rw [← List.drop_drop, List.take_append_drop]
      · rename_i h2
        split at h
        · cases h
        · rename_i i r' hbo
          split at h
          · cases h
          · rename_i ks hm
            cases h
            obtain ⟨k, m, g1, g2, g3, g4⟩ := body_split hbo
            have := hd_lenS (by omega) (by omega) hb' g4 (by omega)
            have he := encs_many (d := d) (m := i.length) (i := i) (by rw [g2]; exact (hb'.drop k).take m) hm
            unfold enc
            simp only
            have hi : i.length = m := by rw [g2]; simp; omega
            rw [he, hi, List.append_assoc, ← this, g3, g2]
            congr 1
            rw [← List.drop_drop, List.take_append_drop]
theorem encs_many : ∀ {d m : Nat} {i : List Int} {ks : List It}, Byt i → many (one d) m i = some ks → enc.encs ks = i
  | d, m, [], ks, _, h => by
    have : ks = [] := by cases m <;> (simp [many] at h; exact h)
    subst this
    rfl
  | d, 0, y :: i, ks, _, h => by simp [many] at h
  | d, m + 1, y :: i, ks, hb, h => by
    unfold many at h
    split at h
    · cases h
    · rename_i k r hk
      split at h
      · cases h
      · rename_i ks' hm
        cases h
        obtain ⟨j, j1, j2, j3⟩ := one_rest hk
        have h1 := enc_one hb hk
        have h2 := encs_many (d := d) (m := m) (i := r) (by rw [j3]; exact hb.drop j) hm
        rw [← h1, ← h2]
        rfl
end
end Go.Abs.Pure
end
section
set_option linter.unusedVariables false
set_option linter.unusedSimpArgs false
set_option maxRecDepth 100000
namespace Go.Abs.Pure
open Go Go.Abs
theorem or8 (a : Nat) (h : a < 256 ^ 7) (x : Int) (h0 : 0 ≤ x) (h1 : x < 256) : ibits .or .u64 (ishl .u64 (a : Int) 8) (IntKind.wrap .u64 x) = ((a * 256 + x.toNat : Nat) : Int) := by
  have e1 : ishl .u64 (a : Int) 8 = ((a * 256 : Nat) : Int) := by
    rw [show (8 : Int) = ((8 : Nat) : Int) from rfl, ishl_ofNat _ _ _ (by decide), wu64_id (by simp <;> omega) (by simp <;> omega)]
    simp
  rw [e1, wu64_id h0 (by omega), or_u64 (by omega) (by omega) h0 (by omega), Int.toNat_natCast]
  have := Nat.shiftLeft_add_eq_or_of_lt (b := x.toNat) (i := 8) (by omega) a
  rw [Nat.shiftLeft_eq] at this
  rw [← this]
theorem num_take_succ {l : List Int} {i : Nat} (h : i < l.length) : num (l.take (i + 1)) = num (l.take i) * 256 + (l.getD i 0).toNat := by
  rw [List.take_add_one, List.getElem?_eq_getElem h, Option.toList_some, num_snoc]
  congr 2
  simp [h]
theorem num_take_lt {l : List Int} (hb : Byt l) (i : Nat) : num (l.take i) < 256 ^ i := by
  have h1 := num_lt _ (l.take i) rfl (hb.take i)
  exact Nat.lt_of_lt_of_le h1 (Nat.pow_le_pow_right (by omega) (by simp <;> omega))
theorem getD_byt {l : List Int} (hb : Byt l) {i : Nat} (h : i < l.length) : 0 ≤ l.getD i 0 ∧ l.getD i 0 < 256 := by
  have : l.getD i 0 = l[i] := by simp [h]
  rw [this]
  exact hb _ (List.getElem_mem h)
theorem body_loop {n : Nat} {sl c : List Int} {nn : Int} (hb : Byt sl) (hl : sl.length ≤ 8) : ∀ (q i m : Nat), i + q = sl.length → q + 1 ≤ m →
    Ft.l9_0.g (fun a0 a1 a2 => (a0, a1, a2)) n m (i : Int) ((sl.length : Nat) : Int) sl ((num (sl.take i) : Nat) : Int) c nn = some (((num sl : Nat) : Int), c, nn)
  | q, i, 0, h1, h2 => by omega
  | 0, i, m + 1, h1, h2 => by
    show Ft.l9_0.r _ _ _ _ _ _ _ _ _ = _
    unfold Ft.l9_0.r
    rw [if_neg (by simp <;> omega), List.take_of_length_le (by omega)]
  | q + 1, i, m + 1, h1, h2 => by
    show Ft.l9_0.r _ _ _ _ _ _ _ _ _ = _
    unfold Ft.l9_0.r
    have hx := getD_byt hb (i := i) (by omega)
    have hlt := num_take_lt hb i
    have hlt2 : num (sl.take i) < 256 ^ 7 := Nat.lt_of_lt_of_le hlt (Nat.pow_le_pow_right (by omega) (by omega))
    rw [if_pos (by simp <;> omega), if_pos (by omega), if_pos (by omega), Int.toNat_natCast, or8 _ hlt2 _ hx.1 hx.2, wi64_id (by omega) (by omega), ← num_take_succ (by omega)]
    exact body_loop hb hl q (i + 1) m (by omega) (by omega)
theorem kind_sub {x kind : Int} (hx : kind ≤ x) (hx2 : x ≤ kind + 63) : IntKind.wrap .i64 (IntKind.wrap .u8 (x - kind)) = (((x - kind).toNat : Nat) : Int) := by
  rw [wu8_id (by omega) (by omega), wi64_id (by omega) (by omega)]
  omega
theorem body_small {x kind : Int} {t : List Int} (h : (x - kind).toNat ≤ 55) : body x kind t = if (x - kind).toNat ≤ t.length then some (t.take (x - kind).toNat, t.drop (x - kind).toNat) else none := by
  unfold body lenS
  rw [if_pos h]
  simp
theorem body_big {x kind : Int} {t : List Int} (h : ¬ (x - kind).toNat ≤ 55) {k M : Nat} (hk : (x - kind).toNat - 55 = k) (hM : num (t.take k) = M) :
    body x kind t = if t.length < k then none else if t.getD 0 0 = 0 then none else if M ≤ 55 then none else if M ≤ t.length - k then some ((t.drop k).take M, t.drop (k + M)) else none := by
  unfold body lenS
  rw [if_neg h, hk, hM]
  by_cases h1 : t.length < k
  · rw [if_pos h1, if_pos h1]
  · rw [if_neg h1, if_neg h1]
    by_cases h2 : t.getD 0 0 = 0
    · rw [if_pos h2, if_pos h2]
    · rw [if_neg h2, if_neg h2]
      by_cases h3 : M ≤ 55
      · rw [if_pos h3, if_pos h3]
      · rw [if_neg h3, if_neg h3]
        by_cases h4 : t.length + 1 < M
        · rw [if_pos h4, if_neg (by omega)]
        · rw [if_neg h4]
          simp only
          by_cases h5 : M ≤ t.length - k
          · rw [if_pos (by omega), if_pos h5]
          · rw [if_neg (by omega), if_neg h5]
theorem rlp_body_ok {n : Nat} (hn : 100 ≤ n) {x kind : Int} {t : List Int} (hx : kind ≤ x) (hx2 : x ≤ kind + 63) (hb : Byt t) (hl : t.length ≤ 100000) :
    (∃ i r, body x kind t = some (i, r) ∧ Ft.m n (x :: t, kind) = some (.inr (i, r))) ∨ (body x kind t = none ∧ ∃ k, k ≤ 1 ∧ Ft.m n (x :: t, kind) = some (.inl (k, [], []))) := by
  have hN : (x - kind).toNat ≤ 63 := by omega
  have hcut : cut (x :: t) 1 none = t := rfl
  have hks := kind_sub hx hx2
  by_cases h55 : (x - kind).toNat ≤ 55
  · rw [body_small h55]
    by_cases hNt : (x - kind).toNat ≤ t.length
    · rw [if_pos hNt]
      refine .inl ⟨_, _, rfl, ?_⟩
      unfold Ft.m Ft.g
      simp only [List.getD_cons_zero, hks, hcut]
      generalize (x - kind).toNat = N at *
      rw [if_pos (by simp <;> omega), if_pos (by simp <;> omega), if_neg (by simp <;> omega), if_neg (by simp <;> omega), if_pos (by omega), if_pos (by omega), if_pos (by omega), if_pos (by omega)]
      simp [cut]
    · rw [if_neg hNt]
      refine .inr ⟨rfl, 0, by decide, ?_⟩
      unfold Ft.m Ft.g
      simp only [List.getD_cons_zero, hks, hcut]
      generalize (x - kind).toNat = N at *
      rw [if_pos (by simp <;> omega), if_pos (by simp <;> omega), if_neg (by simp <;> omega), if_pos (by simp <;> omega)]
  · have e1 : IntKind.wrap .i64 ((((x - kind).toNat : Nat) : Int) - 55) = (((x - kind).toNat - 55 : Nat) : Int) := by rw [wi64_id (by omega) (by omega)]; omega
    rw [body_big h55 rfl rfl]
    have hp : ((((x - kind).toNat : Nat) : Int) > 55) := by omega
    generalize hk : (x - kind).toNat - 55 = k at *
    have hk8 : k ≤ 8 := by omega
    have start : ∀ R, (if (decide (((k : Nat) : Int) > ((t.length : Nat) : Int))) = true then some (.inl (0, [], [])) else R) = Ft.m n (x :: t, kind) → True := fun _ _ => trivial
    by_cases hkt : t.length < k
    · rw [if_pos hkt]
      refine .inr ⟨rfl, 0, by decide, ?_⟩
      unfold Ft.m Ft.g
      simp only [List.getD_cons_zero, hks, hcut, e1]
      rw [if_pos (by simp <;> omega), if_pos (by simp <;> omega), if_pos (by simpa using hp), if_pos (by simp <;> omega)]
    · rw [if_neg hkt]
      have hlen : (t.take k).length = k := by simp <;> omega
      have hlp := body_loop (n := n) (sl := t.take k) (c := t) (nn := ((k : Nat) : Int)) (hb.take k) (by omega) k 0 n (by omega) (by omega)
      have hlp' : Ft.l9_0.m n n (0, (((t.take k).length : Nat) : Int), t.take k, 0, t, ((k : Nat) : Int)) = some (((num (t.take k) : Nat) : Int), t, ((k : Nat) : Int)) := hlp
      have hmlt : num (t.take k) < 256 ^ 8 := Nat.lt_of_lt_of_le (num_take_lt hb k) (Nat.pow_le_pow_right (by omega) (by omega))
      have ecut : cut t 0 (some ((k : Nat) : Int).toNat) = t.take k := by simp [cut]
      have ed : cut t ((k : Nat) : Int).toNat none = t.drop k := by simp [cut]
      have edl : (t.drop k).length = t.length - k := by simp
      have pre : ∀ r, (if decide ((num (t.take k) : Int) ≤ 55) = true then some (.inl (1, [], [])) else
          if 0 < ((t.length : Nat) : Int) then if (t.getD 0 0 == 0) = true then some (.inl (1, [], [])) else
            if 0 ≤ ((k : Nat) : Int) then if ((k : Nat) : Int) ≤ ((t.length : Nat) : Int) then
              if (decide ((num (t.take k) : Int) > IntKind.wrap .u64 ((t.length - k : Nat) : Int))) = true then some (.inl (0, [], [])) else
              if (decide (IntKind.wrap .i64 (num (t.take k) : Int) > ((t.length - k : Nat) : Int))) = true then some (.inl (0, [], [])) else
              if 0 ≤ IntKind.wrap .i64 (num (t.take k) : Int) then if IntKind.wrap .i64 (num (t.take k) : Int) ≤ ((t.length - k : Nat) : Int) then
                if 0 ≤ IntKind.wrap .i64 (num (t.take k) : Int) then if IntKind.wrap .i64 (num (t.take k) : Int) ≤ ((t.length - k : Nat) : Int) then
                  some (.inr (cut (t.drop k) 0 (some (IntKind.wrap .i64 (num (t.take k) : Int)).toNat), cut (t.drop k) (IntKind.wrap .i64 (num (t.take k) : Int)).toNat none))
                else none else none else none else none
              else none else none
            else none) = r → Ft.m n (x :: t, kind) = r := fun r hr => by
        unfold Ft.m Ft.g
        simp only [List.getD_cons_zero, hks, hcut, e1]
        rw [if_pos (by simp <;> omega), if_pos (by simp <;> omega), if_pos (by simpa using hp), if_neg (by simp <;> omega), if_pos (by omega), if_pos (by omega)]
        simp only [ecut]
        refine bO hlp' ?_
        simp only [ed, edl]
        exact hr
      generalize num (t.take k) = M at *
      by_cases hM : M ≤ 55
      · refine .inr ⟨?_, 1, by decide, pre _ (by rw [if_pos (by simp <;> omega)])⟩
        by_cases hz : t.getD 0 0 = 0
        · rw [if_pos hz]
        · rw [if_neg hz, if_pos hM]
      · by_cases hz : t.getD 0 0 = 0
        · rw [if_pos hz]
          exact .inr ⟨rfl, 1, by decide, pre _ (by rw [if_neg (by simp <;> omega), if_pos (by omega), if_pos (by simpa using hz)])⟩
        · rw [if_neg hz, if_neg hM]
          have hz' : ¬ (t.getD 0 0 == 0) = true := by simpa using hz
          by_cases hbig : M ≤ t.length - k
          · rw [if_pos hbig]
            refine .inl ⟨_, _, rfl, pre _ ?_⟩
            have e2 : IntKind.wrap .i64 (M : Int) = (M : Int) := wi64_id (by omega) (by omega)
            rw [if_neg (by simp <;> omega), if_pos (by omega), if_neg hz', if_pos (by omega), if_pos (by omega), wu64_id (n := ((t.length - k : Nat) : Int)) (by omega) (by omega), if_neg (by simp <;> omega), e2, if_neg (by simp <;> omega), if_pos (by omega), if_pos (by omega), if_pos (by omega), if_pos (by omega)]
            simp [cut, List.drop_drop]
          · rw [if_neg hbig]
            refine .inr ⟨rfl, 0, by decide, pre _ ?_⟩
            rw [if_neg (by simp <;> omega), if_pos (by omega), if_neg hz', if_pos (by omega), if_pos (by omega), wu64_id (n := ((t.length - k : Nat) : Int)) (by omega) (by omega), if_pos (by simp <;> omega)]
end Go.Abs.Pure
end
section
set_option linter.unusedVariables false
set_option linter.unusedSimpArgs false
set_option maxRecDepth 100000
namespace Go.Abs.Pure
open Go Go.Abs
abbrev U1 := (Bool × (Nat × (List Int))) ⊕ ((Bool × ((List Int) × (List Int))) ⊕ ((Bool × (Nat × ((List Int) × (List Int)))) ⊕ ((Bool × ((List Int) × (Nat × (List Int)))) ⊕ ((Bool × ((List Int) × (Nat × (List AV)))) ⊕ ((Bool × ((List Int) × (List AV))) ⊕ (Bool × (List Int)))))))
inductive Ok1 : U1 → It → List Int → Prop
  | str (b r : List Int) (hb : InS .u8 b) : Ok1 (.inr (.inl (false, r, b))) (.mk false b []) r
  | lst (ks : List AV) (ts : List It) (r : List Int) (hr : Reps ks ts) (hk : ks.length ≤ 140737488351232) : Ok1 (.inr (.inr (.inr (.inr (.inr (.inl (true, r, ks))))))) (.mk true [] ts) r
  | nil (r : List Int) : Ok1 (.inr (.inr (.inr (.inr (.inr (.inr (true, r))))))) (.mk true [] []) r
inductive Bad1 : U1 → Prop
  | a (l : Bool) (k : Nat) (r : List Int) (h : k % 100 ≤ 2) : Bad1 (.inl (l, k, r))
  | b (l : Bool) (k : Nat) (b r : List Int) (h : k % 100 ≤ 2) : Bad1 (.inr (.inr (.inl (l, k, b, r))))
  | c (l : Bool) (r : List Int) (k : Nat) (b : List Int) (h : k % 100 ≤ 2) : Bad1 (.inr (.inr (.inr (.inl (l, r, k, b)))))
  | d (l : Bool) (r : List Int) (k : Nat) (ks : List AV) (h : k % 100 ≤ 2) : Bad1 (.inr (.inr (.inr (.inr (.inl (l, r, k, ks))))))
def OneAt (f : (List Int × Int) → Option U1) (d : Nat) : Prop := ∀ b, Byt b → b.length ≤ 100000 →
  (∃ t r u, one d b = some (t, r) ∧ f (b, 65 - (d : Int)) = some u ∧ Ok1 u t r) ∨ (one d b = none ∧ ∃ u, f (b, 65 - (d : Int)) = some u ∧ Bad1 u)
theorem inS_of {b : List Int} (h : Byt b) (hl : b.length ≤ 100000) : InS .u8 b := ⟨by omega, fun x hx => by
  have := h x hx
  exact (show (0 : Int) ≤ x ∧ x ≤ 255 from ⟨this.1, by omega⟩)⟩
theorem inS_nil : InS .u8 [] := ⟨by simp, fun x hx => by simp at hx⟩
theorem many_nil (f : List Int → Option (It × List Int)) (q : Nat) : many f q [] = some [] := by cases q <;> rfl
theorem rep_str {b : List Int} (hb : InS .u8 b) : Rep (.agg [.bool false, .rints .u8 b, .snil]) (.mk false b []) :=
  .mk false _ _ b [] [] rfl rfl hb (by simp) rfl (fun i z t h => by simp at h)
theorem rep_lst {ks : List AV} {ts : List It} (hr : Reps ks ts) (hk : ks.length ≤ 140737488351232) : Rep (.agg [.bool true, .snil, .robjs 25 3 ks]) (.mk true [] ts) :=
  .mk true _ _ [] ks ts rfl rfl inS_nil hk hr.len hr.at'
theorem rep_nil : Rep (.agg [.bool true, .snil, .snil]) (.mk true [] []) :=
  .mk true _ _ [] [] [] rfl rfl inS_nil (by simp) rfl (fun i z t h => by simp at h)
theorem loop1 {α : Type} {mk0 : List Int → Nat → Bool → Bool → List AV → α} {mk1 : List Int → Bool → Bool → List AV → α} {mk2 : List Int → Bool → Bool → α} {n : Nat} {f : (List Int × Int) → Option U1} (m : Nat) (hm : 1 ≤ m) (k : Nat) (i : List Int) (x : Int) (x2 : List Int) (x3 x4 : Bool) (acc : List AV) :
    Fw.l14v1_1.g mk0 mk1 mk2 n f m k i x x2 x3 x4 acc = some (mk0 x2 k x3 x4 acc) := by
  cases m with
  | zero => omega
  | succ m => rfl
theorem loop2 {α : Type} {mk0 : List Int → Nat → Bool → Bool → List AV → α} {mk1 : List Int → Bool → Bool → List AV → α} {mk2 : List Int → Bool → Bool → α} {n : Nat} {f : (List Int × Int) → Option U1} {d : Nat} (ih : OneAt f d) (hd : d ≤ 63) (x2 : List Int) (x3 x4 : Bool) :
    ∀ (q : Nat) (i : List Int) (acc : List AV) (ts : List It) (m : Nat), i.length ≤ q → Byt i → i.length ≤ 100000 → i.length + acc.length ≤ 200000 → Reps acc ts → i.length + 2 ≤ m →
      (∃ ks acc', many (one d) q i = some ks ∧ Fw.l14v1_2.g mk0 mk1 mk2 n f m i (64 - (d : Int)) x2 x3 x4 acc = some (mk1 x2 x3 x4 acc') ∧ Reps acc' (ts ++ ks) ∧ acc'.length ≤ acc.length + i.length) ∨
      (many (one d) q i = none ∧ ∃ k acc', Fw.l14v1_2.g mk0 mk1 mk2 n f m i (64 - (d : Int)) x2 x3 x4 acc = some (mk0 x2 k x3 x4 acc') ∧ k % 100 ≤ 2)
  | q, i, acc, ts, 0, _, _, _, _, _, hm => by omega
  | q, [], acc, ts, m + 1, _, _, _, _, hr, hm => by
    refine .inl ⟨[], acc, many_nil _ _, ?_, by rw [List.append_nil]; exact hr, by simp⟩
    show Fw.l14v1_2.r _ _ _ _ _ _ _ _ _ _ _ _ _ = _
    unfold Fw.l14v1_2.r
    rw [if_neg (by simp)]
  | 0, y :: i, acc, ts, m + 1, hq, _, _, _, _, hm => by simp at hq
  | q + 1, y :: i, acc, ts, m + 1, hq, hb, hl, ha, hr, hm => by
    have hw : IntKind.wrap .i64 (64 - (d : Int) + 1) = 65 - (d : Int) := by rw [wi64_id (by omega) (by omega)]; omega
    have hlen : ((acc.length + 1) * 56) ≤ 70368744177664 ∧ (acc.length + 1) ≤ 9223372036854775807 := by constructor <;> omega
    have key : ∀ R, Fw.l14v1_2.r mk0 mk1 mk2 n f (fun y0 y1 y2 y3 y4 y5 => Fw.l14v1_2.g mk0 mk1 mk2 n f m y0 y1 y2 y3 y4 y5) (fun y0 y1 y2 y3 y4 y5 y6 => Fw.l14v1_1.g mk0 mk1 mk2 n f m y0 y1 y2 y3 y4 y5 y6) (y :: i) (64 - (d : Int)) x2 x3 x4 acc = R →
        Fw.l14v1_2.g mk0 mk1 mk2 n f (m + 1) (y :: i) (64 - (d : Int)) x2 x3 x4 acc = R := fun R h => h
    rcases ih (y :: i) hb hl with ⟨t, r, u, h1, h2, h3⟩ | ⟨h1, u, h2, h3⟩
    · obtain ⟨j, j1, j2, j3⟩ := one_rest h1
      have hrl : r.length + 1 ≤ (y :: i).length := by rw [j3, List.length_drop]; omega
      have hrb : Byt r := by rw [j3]; exact hb.drop j
      have next : ∀ z : AV, Rep z t → (Fw.l14v1_2.g mk0 mk1 mk2 n f (m + 1) (y :: i) (64 - (d : Int)) x2 x3 x4 acc = Fw.l14v1_2.g mk0 mk1 mk2 n f m r (64 - (d : Int)) x2 x3 x4 (acc ++ [z])) →
          (∃ ks acc', many (one d) (q + 1) (y :: i) = some ks ∧ Fw.l14v1_2.g mk0 mk1 mk2 n f (m + 1) (y :: i) (64 - (d : Int)) x2 x3 x4 acc = some (mk1 x2 x3 x4 acc') ∧ Reps acc' (ts ++ ks) ∧ acc'.length ≤ acc.length + (y :: i).length) ∨
          (many (one d) (q + 1) (y :: i) = none ∧ ∃ k acc', Fw.l14v1_2.g mk0 mk1 mk2 n f (m + 1) (y :: i) (64 - (d : Int)) x2 x3 x4 acc = some (mk0 x2 k x3 x4 acc') ∧ k % 100 ≤ 2) := fun z hz e => by
        rcases loop2 (mk0 := mk0) (mk1 := mk1) (mk2 := mk2) (n := n) ih hd x2 x3 x4 q r (acc ++ [z]) (ts ++ [t]) m (by simp at hq hrl; omega) hrb (by omega) (by simp at ha hrl ⊢; omega) (hr.snoc hz) (by omega) with ⟨ks, acc', k1, k2, k3, k4⟩ | ⟨k1, k, acc', k2, k3⟩
        · refine .inl ⟨t :: ks, acc', ?_, e.trans k2, by simpa using k3, by simp at k4 hrl ⊢; omega⟩
          unfold many
          rw [h1]
          simp only [k1]
        · refine .inr ⟨?_, k, acc', e.trans k2, k3⟩
          unfold many
          rw [h1]
          simp only [k1]
      cases h3 with
      | str b r hb' =>
        refine next _ (rep_str hb') (key _ ?_)
        unfold Fw.l14v1_2.r
        rw [if_pos (by simp), hw]
        refine bO h2 ?_
        simp only
        rw [if_pos hlen]
      | lst ks2 ts2 r hr' hk' =>
        refine next _ (rep_lst hr' hk') (key _ ?_)
        unfold Fw.l14v1_2.r
        rw [if_pos (by simp), hw]
        refine bO h2 ?_
        simp only
        rw [if_pos hlen]
      | nil r =>
        refine next _ rep_nil (key _ ?_)
        unfold Fw.l14v1_2.r
        rw [if_pos (by simp), hw]
        refine bO h2 ?_
        simp only
        rw [if_pos hlen]
    · refine .inr ⟨by unfold many; rw [h1], ?_⟩
      cases h3 with
      | a l k r hk =>
        refine ⟨k % 100 + 100, acc ++ [.agg [.bool l, .snil, .snil]], key _ ?_, by omega⟩
        unfold Fw.l14v1_2.r
        rw [if_pos (by simp), hw]
        refine bO h2 ?_
        simp only
        rw [if_pos hlen]
        exact loop1 m (by simp at hm; omega) _ _ _ _ _ _ _
      | b l k b r hk =>
        refine ⟨k % 100 + 100, acc ++ [.agg [.bool l, .rints .u8 b, .snil]], key _ ?_, by omega⟩
        unfold Fw.l14v1_2.r
        rw [if_pos (by simp), hw]
        refine bO h2 ?_
        simp only
        rw [if_pos hlen]
        exact loop1 m (by simp at hm; omega) _ _ _ _ _ _ _
      | c l r k b hk =>
        refine ⟨k % 100 + 100, acc ++ [.agg [.bool l, .rints .u8 b, .snil]], key _ ?_, by omega⟩
        unfold Fw.l14v1_2.r
        rw [if_pos (by simp), hw]
        refine bO h2 ?_
        simp only
        rw [if_pos hlen]
        exact loop1 m (by simp at hm; omega) _ _ _ _ _ _ _
      | d l r k ks hk =>
        refine ⟨k % 100 + 100, acc ++ [.agg [.bool l, .snil, .robjs 25 3 ks]], key _ ?_, by omega⟩
        unfold Fw.l14v1_2.r
        rw [if_pos (by simp), hw]
        refine bO h2 ?_
        simp only
        rw [if_pos hlen]
        exact loop1 m (by simp at hm; omega) _ _ _ _ _ _ _
theorem loop0 {α : Type} {mk0 : List Int → Nat → Bool → Bool → List AV → α} {mk1 : List Int → Bool → Bool → List AV → α} {mk2 : List Int → Bool → Bool → α} {n : Nat} {f : (List Int × Int) → Option U1} {d : Nat} (ih : OneAt f d) (hd : d ≤ 63) (x2 : List Int) (x3 x4 : Bool)
    (i : List Int) (m : Nat) (hb : Byt i) (hl : i.length ≤ 100000) (hm : i.length + 3 ≤ m) :
      (i = [] ∧ Fw.l14v1_0.g mk0 mk1 mk2 n f m i (64 - (d : Int)) x2 x3 x4 = some (mk2 x2 x3 x4)) ∨
      (∃ ks acc', many (one d) i.length i = some ks ∧ Fw.l14v1_0.g mk0 mk1 mk2 n f m i (64 - (d : Int)) x2 x3 x4 = some (mk1 x2 x3 x4 acc') ∧ Reps acc' ks ∧ acc'.length ≤ i.length) ∨
      (many (one d) i.length i = none ∧ ∃ k acc', Fw.l14v1_0.g mk0 mk1 mk2 n f m i (64 - (d : Int)) x2 x3 x4 = some (mk0 x2 k x3 x4 acc') ∧ k % 100 ≤ 2) := by
  cases m with
  | zero => omega
  | succ m =>
  cases i with
  | nil =>
    refine .inl ⟨rfl, ?_⟩
    show Fw.l14v1_0.r _ _ _ _ _ _ _ _ _ _ _ _ _ = _
    unfold Fw.l14v1_0.r
    rw [if_neg (by simp)]
  | cons y i =>
    right
    have hw : IntKind.wrap .i64 (64 - (d : Int) + 1) = 65 - (d : Int) := by rw [wi64_id (by omega) (by omega)]; omega
    have key : ∀ R, Fw.l14v1_0.r mk0 mk1 mk2 n f (fun y0 y1 y2 y3 y4 => Fw.l14v1_0.g mk0 mk1 mk2 n f m y0 y1 y2 y3 y4) (fun y0 y1 y2 y3 y4 y5 y6 => Fw.l14v1_1.g mk0 mk1 mk2 n f m y0 y1 y2 y3 y4 y5 y6) (fun y0 y1 y2 y3 y4 y5 => Fw.l14v1_2.g mk0 mk1 mk2 n f m y0 y1 y2 y3 y4 y5) (y :: i) (64 - (d : Int)) x2 x3 x4 = R →
        Fw.l14v1_0.g mk0 mk1 mk2 n f (m + 1) (y :: i) (64 - (d : Int)) x2 x3 x4 = R := fun R h => h
    rcases ih (y :: i) hb hl with ⟨t, r, u, h1, h2, h3⟩ | ⟨h1, u, h2, h3⟩
    · obtain ⟨j, j1, j2, j3⟩ := one_rest h1
      have hrl : r.length + 1 ≤ (y :: i).length := by rw [j3, List.length_drop]; omega
      have hrb : Byt r := by rw [j3]; exact hb.drop j
      have next : ∀ z : AV, Rep z t → (Fw.l14v1_0.g mk0 mk1 mk2 n f (m + 1) (y :: i) (64 - (d : Int)) x2 x3 x4 = Fw.l14v1_2.g mk0 mk1 mk2 n f m r (64 - (d : Int)) x2 x3 x4 [z]) →
          (∃ ks acc', many (one d) (y :: i).length (y :: i) = some ks ∧ Fw.l14v1_0.g mk0 mk1 mk2 n f (m + 1) (y :: i) (64 - (d : Int)) x2 x3 x4 = some (mk1 x2 x3 x4 acc') ∧ Reps acc' ks ∧ acc'.length ≤ (y :: i).length) ∨
          (many (one d) (y :: i).length (y :: i) = none ∧ ∃ k acc', Fw.l14v1_0.g mk0 mk1 mk2 n f (m + 1) (y :: i) (64 - (d : Int)) x2 x3 x4 = some (mk0 x2 k x3 x4 acc') ∧ k % 100 ≤ 2) := fun z hz e => by
        rcases loop2 (mk0 := mk0) (mk1 := mk1) (mk2 := mk2) (n := n) ih hd x2 x3 x4 i.length r [z] [t] m (by simp at hrl; omega) hrb (by omega) (by simp at hrl hl ⊢; omega) (Reps.nil.snoc hz) (by omega) with ⟨ks, acc', k1, k2, k3, k4⟩ | ⟨k1, k, acc', k2, k3⟩
        · refine .inl ⟨t :: ks, acc', ?_, e.trans k2, by simpa using k3, by simp at k4 hrl ⊢; omega⟩
          show many (one d) (i.length + 1) (y :: i) = _
          unfold many
          rw [h1]
          simp only [k1]
        · refine .inr ⟨?_, k, acc', e.trans k2, k3⟩
          show many (one d) (i.length + 1) (y :: i) = _
          unfold many
          rw [h1]
          simp only [k1]
      cases h3 with
      | str b r hb' =>
        refine next _ (rep_str hb') (key _ ?_)
        unfold Fw.l14v1_0.r
        rw [if_pos (by simp), hw]
        exact bO h2 rfl
      | lst ks2 ts2 r hr' hk' =>
        refine next _ (rep_lst hr' hk') (key _ ?_)
        unfold Fw.l14v1_0.r
        rw [if_pos (by simp), hw]
        exact bO h2 rfl
      | nil r =>
        refine next _ rep_nil (key _ ?_)
        unfold Fw.l14v1_0.r
        rw [if_pos (by simp), hw]
        exact bO h2 rfl
    · refine .inr ⟨by show many (one d) (i.length + 1) (y :: i) = _; unfold many; rw [h1], ?_⟩
      cases h3 with
      | a l k r hk =>
        refine ⟨k % 100 + 100, [.agg [.bool l, .snil, .snil]], key _ ?_, by omega⟩
        unfold Fw.l14v1_0.r
        rw [if_pos (by simp), hw]
        exact bO h2 (loop1 m (by simp at hm; omega) _ _ _ _ _ _ _)
      | b l k b r hk =>
        refine ⟨k % 100 + 100, [.agg [.bool l, .rints .u8 b, .snil]], key _ ?_, by omega⟩
        unfold Fw.l14v1_0.r
        rw [if_pos (by simp), hw]
        exact bO h2 (loop1 m (by simp at hm; omega) _ _ _ _ _ _ _)
      | c l r k b hk =>
        refine ⟨k % 100 + 100, [.agg [.bool l, .rints .u8 b, .snil]], key _ ?_, by omega⟩
        unfold Fw.l14v1_0.r
        rw [if_pos (by simp), hw]
        exact bO h2 (loop1 m (by simp at hm; omega) _ _ _ _ _ _ _)
      | d l r k ks hk =>
        refine ⟨k % 100 + 100, [.agg [.bool l, .snil, .robjs 25 3 ks]], key _ ?_, by omega⟩
        unfold Fw.l14v1_0.r
        rw [if_pos (by simp), hw]
        exact bO h2 (loop1 m (by simp at hm; omega) _ _ _ _ _ _ _)
theorem rlp_one_ok {n : Nat} (hn : 150000 ≤ n) : ∀ (d e : Nat), d + 1 ≤ e → d ≤ 64 → OneAt (Fw.mr n e) d
  | d, 0, he, _ => by omega
  | 0, e + 1, he, _ => fun b hb hl => by
    refine .inr ⟨rfl, .inl (false, 2, []), ?_, .a _ _ _ (by decide)⟩
    show Fw.h n (Fw.mr n e) (b, 65 - ((0 : Nat) : Int)) = _
    unfold Fw.h Fw.g
    rfl
  | d + 1, e + 1, he, hd => fun b hb hl => by
    have ih := rlp_one_ok hn d e (by omega) (by omega)
    have hdeep : (65 - ((d + 1 : Nat) : Int)) = 64 - (d : Int) := by omega
    rw [hdeep]
    have hnd : ¬ (decide ((64 - (d : Int)) > 64) = true) := by simp; omega
    cases b with
    | nil =>
      refine .inr ⟨rfl, .inl (false, 0, []), ?_, .a _ _ _ (by decide)⟩
      show Fw.h n (Fw.mr n e) ([], 64 - (d : Int)) = _
      unfold Fw.h Fw.g
      simp only
      rw [if_neg hnd, if_pos (by simp)]
    | cons x t =>
    have hx := hb x (by simp)
    have hbt : Byt t := fun y hy => hb y (by simp [hy])
    have hlt : t.length ≤ 100000 := by simp at hl; omega
    have pre : ∀ R, (if (decide (x < 128)) = true then some (.inr (.inl (false, t, [x]))) else (if (decide (x < 192)) = true then
        (bindO (Ft.m n (Prod.mk (x :: t) 128)) fun r14 => match r14 with
                | (.inl r14) =>
                  bindO (Fb.m n (Prod.fst r14.2)) fun r18 =>
                    some (.inr (.inr (.inl (false, (Prod.fst r14), r18, (Prod.snd r14.2)))))
                | (.inr r14) =>
                  if ((((List.length (Prod.fst r14)) : Nat) : Int) == 1) = true then
                    if 0 < (((List.length (Prod.fst r14)) : Nat) : Int) then
                      if (decide ((List.getD (Prod.fst r14) 0 0) < 128)) = true then
                        bindO (Fb.m n (Prod.fst r14)) fun r24 =>
                          some (.inr (.inr (.inr (.inl (false, (Prod.snd r14), 1, r24)))))
                      else
                        bindO (Fb.m n (Prod.fst r14)) fun r24 =>
                          some (.inr (.inl (false, (Prod.snd r14), r24)))
                    else
                      none
                  else
                    bindO (Fb.m n (Prod.fst r14)) fun r20 =>
                      some (.inr (.inl (false, (Prod.snd r14), r20))))
        else (bindO (Ft.m n (Prod.mk (x :: t) 192)) fun r14 => match r14 with
                | (.inl r14) =>
                  bindO (Fw.l14_0.m n (Fw.mr n e) n ((Prod.fst r14), (64 - (d : Int)), (Prod.fst r14.2), true, (Prod.snd r14.2), false)) fun r18 =>
                    some (.inl ((Prod.fst r18.2), (Prod.fst r18), (Prod.fst (Prod.snd r18).2)))
                | (.inr r14) =>
                  bindO (Fw.l14v1_0.m n (Fw.mr n e) n ((Prod.fst r14), (64 - (d : Int)), (Prod.snd r14), true, false)) fun r18 => match r18 with
                    | (.inl r18) =>
                      some (.inr (.inr (.inr (.inr (.inl ((Prod.fst (Prod.snd r18).2), (Prod.fst r18), (Prod.fst r18.2), (Prod.snd (Prod.snd r18.2).2)))))))
                    | (.inr (.inl r18)) =>
                      some (.inr (.inr (.inr (.inr (.inr (.inl ((Prod.fst r18.2), (Prod.fst r18), (Prod.snd (Prod.snd r18).2))))))))
                    | (.inr (.inr r18)) =>
                      some (.inr (.inr (.inr (.inr (.inr (.inr ((Prod.fst r18.2), (Prod.fst r18)))))))))) : Option U1) = R → Fw.mr n (e + 1) (x :: t, 64 - (d : Int)) = R := fun R h => by
      show Fw.h n (Fw.mr n e) (x :: t, 64 - (d : Int)) = _
      unfold Fw.h Fw.g
      simp only [List.getD_cons_zero]
      have c0 : ¬ ((((x :: t).length : Nat) : Int) == 0) = true := by simp <;> omega
      have c1 : 0 < (((x :: t).length : Nat) : Int) := by simp <;> omega
      have c2 : 1 ≤ (((x :: t).length : Nat) : Int) := by simp <;> omega
      rw [if_neg hnd, if_neg c0]
      simp only [if_pos c1, if_pos c2]
      exact h
    by_cases h1 : x < 128
    · refine .inl ⟨_, _, _, by unfold one; rw [if_pos h1], pre _ (by rw [if_pos (by simpa using h1)]), .str _ _ (inS_of (fun y hy => ?_) (by simp))⟩
      simp only [List.mem_singleton] at hy
      subst hy
      exact hx
    · have h1' : ¬ (decide (x < 128) = true) := by simpa using h1
      by_cases h2 : x < 192
      · have h2' : (decide (x < 192)) = true := by simpa using h2
        rcases rlp_body_ok (n := n) (by omega) (x := x) (kind := 128) (by omega) (by omega) hbt hlt with ⟨i, r, b1, b2⟩ | ⟨b1, k, b2, b3⟩
        · obtain ⟨kk, mm, s1, s2, s3, s4⟩ := body_split b1
          have hil : i.length ≤ 100000 := by rw [s2]; simp; omega
          have hib : Byt i := by rw [s2]; exact (hbt.drop kk).take mm
          by_cases h3 : i.length = 1
          · by_cases h4 : i.getD 0 0 < 128
            · refine .inr ⟨?_, _, pre _ ?_, .c false r 1 i (by decide)⟩
              · unfold one
                rw [if_neg h1, if_pos h2, b1]
                simp only
                rw [if_pos ⟨h3, h4⟩]
              · rw [if_neg h1', if_pos h2']
                refine bO b2 ?_
                simp only
                rw [if_pos (by simp [h3]), if_pos (by omega), if_pos (by simpa using h4)]
                exact bO (clone_m hil) rfl
            · refine .inl ⟨.mk false i [], r, _, ?_, pre _ ?_, .str _ _ (inS_of hib hil)⟩
              · unfold one
                rw [if_neg h1, if_pos h2, b1]
                simp only
                rw [if_neg fun h => h4 h.2]
              · rw [if_neg h1', if_pos h2']
                refine bO b2 ?_
                simp only
                rw [if_pos (by simp [h3]), if_pos (by omega), if_neg (by simpa using h4)]
                exact bO (clone_m hil) rfl
          · refine .inl ⟨.mk false i [], r, _, ?_, pre _ ?_, .str _ _ (inS_of hib hil)⟩
            · unfold one
              rw [if_neg h1, if_pos h2, b1]
              simp only
              rw [if_neg fun h => h3 h.1]
            · rw [if_neg h1', if_pos h2']
              refine bO b2 ?_
              simp only
              rw [if_neg (by simp; omega)]
              exact bO (clone_m hil) rfl
        · refine .inr ⟨?_, _, pre _ ?_, .b false k [] [] (by omega)⟩
          · unfold one
            rw [if_neg h1, if_pos h2, b1]
          · rw [if_neg h1', if_pos h2']
            refine bO b3 ?_
            exact bO (clone_m (by simp)) rfl
      · have h2' : ¬ ((decide (x < 192)) = true) := by simpa using h2
        rcases rlp_body_ok (n := n) (by omega) (x := x) (kind := 192) (by omega) (by omega) hbt hlt with ⟨i, r, b1, b2⟩ | ⟨b1, k, b2, b3⟩
        · obtain ⟨kk, mm, s1, s2, s3, s4⟩ := body_split b1
          have hil : i.length ≤ 100000 := by rw [s2]; simp; omega
          have hib : Byt i := by rw [s2]; exact (hbt.drop kk).take mm
          have unf : one (d + 1) (x :: t) = match many (one d) i.length i with | none => none | some ks => some (.mk true [] ks, r) := by
            conv => lhs; unfold one
            rw [if_neg h1, if_neg h2, b1]
            all_goals rfl
          rcases loop0 (mk0 := fun a0 a1 a2 a3 a4 => (.inl (a0, a1, a2, a3, a4) : (List Int × (Nat × (Bool × (Bool × List AV)))) ⊕ ((List Int × (Bool × (Bool × List AV))) ⊕ (List Int × (Bool × Bool))))) (mk1 := fun a0 a1 a2 a3 => .inr (.inl (a0, a1, a2, a3))) (mk2 := fun a0 a1 a2 => .inr (.inr (a0, a1, a2))) (n := n) ih (by omega) r true false i n hib hil (by omega) with ⟨g1, g2⟩ | ⟨ks, acc', g1, g2, g3, g4⟩ | ⟨g1, k, acc', g2, g3⟩
          · subst g1
            refine .inl ⟨.mk true [] [], r, _, by rw [unf, many_nil], pre _ ?_, .nil r⟩
            rw [if_neg h1', if_neg h2']
            refine bO b2 ?_
            exact bO (show Fw.l14v1_0.m n (Fw.mr n e) n ([], 64 - (d : Int), r, true, false) = _ from g2) rfl
          · refine .inl ⟨.mk true [] ks, r, _, by rw [unf, g1], pre _ ?_, .lst acc' ks r g3 (by omega)⟩
            rw [if_neg h1', if_neg h2']
            refine bO b2 ?_
            exact bO (show Fw.l14v1_0.m n (Fw.mr n e) n (i, 64 - (d : Int), r, true, false) = _ from g2) rfl
          · refine .inr ⟨by rw [unf, g1], _, pre _ ?_, .d true r k acc' g3⟩
            rw [if_neg h1', if_neg h2']
            refine bO b2 ?_
            exact bO (show Fw.l14v1_0.m n (Fw.mr n e) n (i, 64 - (d : Int), r, true, false) = _ from g2) rfl
        · refine .inr ⟨?_, _, pre _ ?_, .a true k [] (by omega)⟩
          · unfold one
            rw [if_neg h1, if_neg h2, b1]
          · rw [if_neg h1', if_neg h2']
            refine bO b3 ?_
            obtain ⟨q, rfl⟩ : ∃ q, n = q + 1 := ⟨n - 1, by omega⟩
            exact bO (show Fw.l14_0.m (q + 1) (Fw.mr (q + 1) e) (q + 1) (k, 64 - (d : Int), [], true, [], false) = some (k, true, [], false) from rfl) rfl
end Go.Abs.Pure
end
section
set_option linter.unusedVariables false
set_option linter.unusedSimpArgs false
set_option maxRecDepth 100000
namespace Go.Abs.Pure
open Go Go.Abs
abbrev U2 := (Bool × Int) ⊕ ((Bool × (Int × (List Int))) ⊕ (Bool × (Int × (List AV))))
inductive Ok2 : U2 → It → Nat → Prop
  | str (b : List Int) (c : Nat) (hb : InS .u8 b) : Ok2 (.inr (.inl (false, (c : Int), b))) (.mk false b []) c
  | lst (ks : List AV) (ts : List It) (c : Nat) (hr : Reps ks ts) (hk : ks.length ≤ 140737488351232) : Ok2 (.inr (.inr (true, (c : Int), ks))) (.mk true [] ts) c
  | nil (c : Nat) : Ok2 (.inl (true, (c : Int))) (.mk true [] []) c
end Go.Abs.Pure
end
section
set_option linter.unusedVariables false
set_option linter.unusedSimpArgs false
set_option maxRecDepth 100000
namespace Go.Abs.Pure
open Go Go.Abs
def decS (b : List Int) : Option It := match one 64 b with
  | some (t, []) => some t
  | _ => none
inductive OkD : U2 → It → Prop
  | str (b : List Int) (hb : InS .u8 b) : OkD (.inr (.inl (false, 0, b))) (.mk false b [])
  | lst (ks : List AV) (ts : List It) (hr : Reps ks ts) (hk : ks.length ≤ 140737488351232) : OkD (.inr (.inr (true, 0, ks))) (.mk true [] ts)
  | nil : OkD (.inl (true, 0)) (.mk true [] [])
theorem is0 {n : Nat} (k : Nat) (h : k ≤ 2) : errors_Is0.m n k = some false := by
  unfold errors_Is0.m
  exact if_pos h
theorem is1 {n : Nat} (j k : Nat) (hj : j % 100 ≤ 2) (h : k ≤ 2) : errors_Is1.m n (j, k) = some (decide (j % 100 = k)) := by
  unfold errors_Is1.m
  rw [if_pos hj, if_pos h]
theorem any_is {n : Nat} {α : Type} (k : Nat) (h : k % 100 ≤ 2) (a : α) (R : Option α) :
    (bindO (errors_Is1.m n (Prod.mk k 0)) fun r6 => if r6 = true then some a else
      bindO (errors_Is1.m n (Prod.mk k 1)) fun r10 => if r10 = true then some a else
        bindO (errors_Is1.m n (Prod.mk k 2)) fun r14 => if r14 = true then some a else R) = some a := by
  refine bO (is1 k 0 h (by decide)) ?_
  by_cases h0 : k % 100 = 0
  · rw [if_pos (by simpa using h0)]
  · rw [if_neg (by simpa using h0)]
    refine bO (is1 k 1 h (by decide)) ?_
    by_cases h1 : k % 100 = 1
    · rw [if_pos (by simpa using h1)]
    · rw [if_neg (by simpa using h1)]
      refine bO (is1 k 2 h (by decide)) ?_
      rw [if_pos (by simp; omega)]
theorem none_is {n : Nat} {α : Type} (a : α) (R : Option α) :
    (bindO (errors_Is0.m n 0) fun r6 => if r6 = true then some a else
      bindO (errors_Is0.m n 1) fun r10 => if r10 = true then some a else
        bindO (errors_Is0.m n 2) fun r14 => if r14 = true then some a else R) = R := by
  refine bO (is0 0 (by decide)) ?_
  rw [if_neg (by decide)]
  refine bO (is0 1 (by decide)) ?_
  rw [if_neg (by decide)]
  refine bO (is0 2 (by decide)) ?_
  rw [if_neg (by decide)]
theorem decS_some {b : List Int} {t : It} (h : one 64 b = some (t, [])) : decS b = some t := by unfold decS; rw [h]
theorem decS_none {b : List Int} (h : one 64 b = none) : decS b = none := by unfold decS; rw [h]
theorem decS_rest {b : List Int} {t : It} {y : Int} {r : List Int} (h : one 64 b = some (t, y :: r)) : decS b = none := by unfold decS; rw [h]
theorem rlp_Decode_ok {n : Nat} (hn : 150000 ≤ n) {b : List Int} (hb : Byt b) (hl : b.length ≤ 100000) :
    (∃ t u, decS b = some t ∧ Fi.m n b = some u ∧ OkD u t) ∨ (decS b = none ∧ Fi.m n b = some (.inl (false, 40))) := by
  unfold Fi.m Fi.g
  rcases rlp_one_ok hn 64 n (by omega) (by omega) b hb hl with ⟨t, r, u, h1, h2, h3⟩ | ⟨h1, u, h2, h3⟩
  · have h2' : Fw.m n (b, 1) = some u := h2
    cases r with
    | nil =>
      left
      cases h3 with
      | str b' _ hb' =>
        refine ⟨_, _, decS_some h1, bO h2' ?_, .str b' hb'⟩
        exact (none_is _ _).trans rfl
      | lst ks ts _ hr hk =>
        refine ⟨_, _, decS_some h1, bO h2' ?_, .lst ks ts hr hk⟩
        exact (none_is _ _).trans rfl
      | nil _ =>
        refine ⟨_, _, decS_some h1, bO h2' ?_, .nil⟩
        exact (none_is _ _).trans rfl
    | cons y r =>
      right
      refine ⟨decS_rest h1, bO h2' ?_⟩
      cases h3 with
      | str b' _ hb' => exact (none_is _ _).trans (if_pos (by simp))
      | lst ks ts _ hr hk => exact (none_is _ _).trans (if_pos (by simp))
      | nil _ => exact (none_is _ _).trans (if_pos (by simp))
  · have h2' : Fw.m n (b, 1) = some u := h2
    right
    refine ⟨decS_none h1, bO h2' ?_⟩
    cases h3 with
    | a l k r hk => exact any_is k hk _ _
    | b l k b r hk => exact any_is k hk _ _
    | c l r k b hk => exact any_is k hk _ _
    | d l r k ks hk => exact any_is k hk _ _
mutual
theorem wt_one : ∀ {d : Nat} {b : List Int} {t : It} {r : List Int}, one d b = some (t, r) → wt t + 2 * r.length ≤ 2 * b.length
  | 0, b, t, r, h => by simp [one] at h
  | d + 1, [], t, r, h => by simp [one] at h
  | d + 1, x :: b, t, r, h => by
    unfold one at h
    split at h
    · cases h
      unfold wt
      simp [wt.wts]
      omega
    · split at h
      · split at h
        · cases h
        · rename_i i r' hbo
          split at h
          · cases h
          · cases h
            obtain ⟨k, m, g1, g2, g3, g4⟩ := body_split hbo
            unfold wt
            subst g2 g3
            simp [wt.wts]
            omega
      · split at h
        · cases h
        · rename_i i r' hbo
          split at h
          · cases h
          · rename_i ks hm
            cases h
            obtain ⟨k, m, g1, g2, g3, g4⟩ := body_split hbo
            have he := wts_many (d := d) (m := i.length) (i := i) hm
            unfold wt
            subst g2 g3
            simp at he ⊢
            omega
theorem wts_many : ∀ {d m : Nat} {i : List Int} {ks : List It}, many (one d) m i = some ks → wt.wts ks ≤ 2 * i.length
  | d, m, [], ks, h => by
    have : ks = [] := by cases m <;> (simp [many] at h; exact h)
    subst this
    simp [wt.wts]
  | d, 0, y :: i, ks, h => by simp [many] at h
  | d, m + 1, y :: i, ks, h => by
    unfold many at h
    split at h
    · cases h
    · rename_i k r hk
      split at h
      · cases h
      · rename_i ks' hm
        cases h
        have h1 := wt_one hk
        have h2 := wts_many (d := d) (m := m) (i := r) hm
        simp only [wt.wts]
        omega
end
def Pl : Nat → It → Prop
  | 0, _ => False
  | d + 1, .mk l b ks => match l with
    | true => b = [] ∧ ∀ k ∈ ks, Pl d k
    | false => ks = [] ∧ Byt b
theorem enc_pos : ∀ t : It, 1 ≤ (enc t).length
  | .mk l b ks => by
    have h1 := (hd_len (enc.encs ks).length 192).1
    have h2 := (hd_len b.length 128).1
    unfold enc
    cases l with
    | true => simp only [List.length_append]; omega
    | false =>
      simp only
      split
      · omega
      · simp only [List.length_append]; omega
theorem hd_body {kind : Int} (I r : List Int) (hL : I.length < 256 ^ 7) : ∃ x t, hd I.length kind ++ (I ++ r) = x :: t ∧ body x kind t = some (I, r) ∧ kind ≤ x ∧ x ≤ kind + 63 := by
  unfold hd
  by_cases h : I.length ≤ 55
  · rw [if_pos h]
    refine ⟨kind + I.length, I ++ r, rfl, ?_, by omega, by omega⟩
    rw [body_small (by omega)]
    have : (kind + (I.length : Int) - kind).toNat = I.length := by omega
    rw [this, if_pos (by simp)]
    simp
  · rw [if_neg h]
    have hl := be_len I.length
    have hp := be_pos I.length (by omega) (by omega)
    obtain ⟨f1, f2, f3⟩ := be_facts I.length (by omega)
    generalize hB : be I.length = B at *
    refine ⟨kind + 55 + B.length, B ++ (I ++ r), rfl, ?_, by omega, by omega⟩
    have hN : (kind + 55 + (B.length : Int) - kind).toNat = 55 + B.length := by omega
    have htk : (B ++ (I ++ r)).take B.length = B := by simp
    rw [body_big (k := B.length) (M := I.length) (by omega) (by omega) (by rw [htk, f1])]
    have hz : ¬ (B ++ (I ++ r)).getD 0 0 = 0 := by
      rw [List.getD_eq_getElem?_getD, List.getElem?_append_left hp, ← List.getD_eq_getElem?_getD]
      exact f3 (by omega)
    rw [if_neg (by simp), if_neg hz, if_neg h, if_pos (by simp <;> omega)]
    have e1 : (B ++ (I ++ r)).drop B.length = I ++ r := by simp
    rw [e1, ← List.drop_drop, e1]
    simp
mutual
theorem one_form : ∀ {d : Nat} {b : List Int} {t : It} {r : List Int}, Byt b → one d b = some (t, r) → Pl d t
  | 0, b, t, r, _, h => by simp [one] at h
  | d + 1, [], t, r, _, h => by simp [one] at h
  | d + 1, x :: b, t, r, hb, h => by
    have hb' : Byt b := fun y hy => hb y (by simp [hy])
    unfold one at h
    split at h
    · cases h
      exact ⟨rfl, fun y hy => by simp at hy; subst hy; exact hb _ (by simp)⟩
    · split at h
      · split at h
        · cases h
        · rename_i i r' hbo
          split at h
          · cases h
          · cases h
            obtain ⟨k, m, g1, g2, g3, g4⟩ := body_split hbo
            exact ⟨rfl, by rw [g2]; exact (hb'.drop k).take m⟩
      · split at h
        · cases h
        · rename_i i r' hbo
          split at h
          · cases h
          · rename_i ks hm
            cases h
            obtain ⟨k, m, g1, g2, g3, g4⟩ := body_split hbo
            exact ⟨rfl, many_form (d := d) (m := i.length) (i := i) (by rw [g2]; exact (hb'.drop k).take m) hm⟩
theorem many_form : ∀ {d m : Nat} {i : List Int} {ks : List It}, Byt i → many (one d) m i = some ks → ∀ k ∈ ks, Pl d k
  | d, m, [], ks, _, h => by
    have : ks = [] := by cases m <;> (simp [many] at h; exact h)
    subst this
    intro k hk
    simp at hk
  | d, 0, y :: i, ks, _, h => by simp [many] at h
  | d, m + 1, y :: i, ks, hb, h => by
    unfold many at h
    split at h
    · cases h
    · rename_i k r hk
      split at h
      · cases h
      · rename_i ks' hm
        cases h
        obtain ⟨j, j1, j2, j3⟩ := one_rest hk
        have h1 := one_form hb hk
        have h2 := many_form (d := d) (m := m) (i := r) (by rw [j3]; exact hb.drop j) hm
        intro k' hk'
        rcases List.mem_cons.1 hk' with rfl | hk'
        · exact h1
        · exact h2 k' hk'
end
end Go.Abs.Pure
end
section
set_option linter.unusedVariables false
set_option linter.unusedSimpArgs false
set_option maxRecDepth 100000
namespace Go.Abs.Pure
open Go Go.Abs
theorem lentB {n : Nat} {b : List Int} (h : b.length ≤ 100000) : Fd.m n b = some b := by
  unfold Fd.m Fd.g
  exact if_pos (by constructor <;> omega)
theorem known_t : Fn.m 200000 () = some true := rfl
theorem w0 : IntKind.wrap .i64 0 = 0 := by rw [wi64]; rfl
theorem byt_of {b : List Int} (h : InS .u8 b) : Byt b := fun x hx => by
  have : (0 : Int) ≤ x ∧ x ≤ 255 := h.2 x hx
  omega
theorem wt_dec {b : List Int} {t : It} (h : decS b = some t) : wt t ≤ 2 * b.length := by
  unfold decS at h
  split at h
  · rename_i t' h1
    cases h
    have := wt_one h1
    simp at this
    omega
  · cases h
theorem form_dec {b : List Int} {t : It} (hb : Byt b) (h : decS b = some t) : Pl 64 t ∧ enc t = b := by
  unfold decS at h
  split at h
  · rename_i t' h1
    cases h
    have := enc_one hb h1
    exact ⟨one_form hb h1, by simpa using this⟩
  · cases h
theorem Pl.more : ∀ {d e : Nat} {t : It}, d ≤ e → Pl d t → Pl e t
  | 0, e, t, h, hp => by cases hp
  | d + 1, 0, t, h, hp => by omega
  | d + 1, e + 1, .mk true b ks, h, hp => ⟨hp.1, fun k hk => Pl.more (d := d) (by omega) (hp.2 k hk)⟩
  | d + 1, e + 1, .mk false b ks, h, hp => hp
end Go.Abs.Pure
end
section
set_option linter.unusedVariables false
set_option linter.unusedSimpArgs false
set_option maxRecDepth 100000
namespace Go.Abs.Pure
open Go Go.Abs
theorem one_enc2 : ∀ {d : Nat} {t : It}, Pl d t → wt t ≤ 1000000 → ∀ r, one d (enc t ++ r) = some (t, r)
  | 0, t, h, _, r => by cases h
  | d + 1, .mk true b ks, h, hw, r => by
    obtain ⟨rfl, hk⟩ := (show b = [] ∧ ∀ k ∈ ks, Pl d k from h)
    have hws : wt.wts ks ≤ 1000000 := by unfold wt at hw; omega
    have hel := encs_len ks
    have hm : ∀ (l : List It) (q : Nat), (∀ k ∈ l, Pl d k) → wt.wts l ≤ 1000000 → (enc.encs l).length ≤ q → many (one d) q (enc.encs l) = some l := by
      intro l
      induction l with
      | nil => intro q _ _ _; exact many_nil _ _
      | cons k l ih =>
        intro q hkl hwl hq
        have e : enc.encs (k :: l) = enc k ++ enc.encs l := rfl
        have hwk : wt k ≤ 1000000 ∧ wt.wts l ≤ 1000000 := by simp only [wt.wts] at hwl; omega
        have h1 := one_enc2 (hkl k (by simp)) hwk.1 (enc.encs l)
        have hp := enc_pos k
        rw [e] at hq ⊢
        cases hE : enc k with
        | nil => rw [hE] at hp; simp at hp
        | cons y i =>
          rw [hE] at h1 hq
          rw [List.cons_append] at h1 hq ⊢
          cases q with
          | zero => simp at hq
          | succ q =>
            unfold many
            rw [h1]
            simp only
            rw [ih q (fun k hk => hkl k (by simp [hk])) hwk.2 (by simp at hq; omega)]
    have hE : enc (.mk true [] ks) = hd (enc.encs ks).length 192 ++ enc.encs ks := rfl
    obtain ⟨x, t, e1, e2, e3, e4⟩ := hd_body (kind := 192) (enc.encs ks) r (by omega)
    rw [hE, List.append_assoc, e1]
    unfold one
    rw [if_neg (by omega), if_neg (by omega), e2]
    simp only
    rw [hm ks _ hk hws (Nat.le_refl _)]
  | d + 1, .mk false b ks, h, hw, r => by
    obtain ⟨rfl, hb⟩ := (show ks = [] ∧ Byt b from h)
    have hbl : b.length ≤ 16000016 := by unfold wt at hw; omega
    by_cases hc : b.length = 1 ∧ b.getD 0 0 < 128
    · have hE : enc (.mk false b []) = b := by unfold enc; simp only; rw [if_pos hc]
      rw [hE]
      match b, hc with
      | [x], hc =>
        show one (d + 1) (x :: r) = _
        unfold one
        rw [if_pos (by simpa using hc.2)]
    · have hE : enc (.mk false b []) = hd b.length 128 ++ b := by unfold enc; simp only; rw [if_neg hc]
      obtain ⟨x, t, e1, e2, e3, e4⟩ := hd_body (kind := 128) b r (by omega)
      rw [hE, List.append_assoc, e1]
      unfold one
      rw [if_neg (by omega), if_pos (by omega), e2]
      simp only
      rw [if_neg hc]
theorem hd_byt {n : Nat} {k : Int} (hn : n < 256 ^ 8) (h0 : 0 ≤ k) (h1 : k ≤ 192) : Byt (hd n k) := by
  unfold hd
  have hl := be_len n
  split
  · rename_i h
    intro x hx
    simp only [List.mem_singleton] at hx
    omega
  · intro x hx
    rcases List.mem_cons.1 hx with rfl | hx
    · omega
    · exact (be_facts n hn).2.1 x hx
theorem byt_app {a b : List Int} (h : Byt a) (k : Byt b) : Byt (a ++ b) := fun x hx => (List.mem_append.1 hx).elim (h x) (k x)
theorem enc_byt : ∀ {d : Nat} {t : It}, Pl d t → wt t ≤ 1000000 → Byt (enc t)
  | 0, t, h, _ => by cases h
  | d + 1, .mk true b ks, h, hw => by
    obtain ⟨rfl, hk⟩ := (show b = [] ∧ ∀ k ∈ ks, Pl d k from h)
    have hws : wt.wts ks ≤ 1000000 := by unfold wt at hw; omega
    have hel := encs_len ks
    have hm : ∀ (l : List It), (∀ k ∈ l, Pl d k) → wt.wts l ≤ 1000000 → Byt (enc.encs l) := by
      intro l
      induction l with
      | nil => intro _ _ x hx; simp [enc.encs] at hx
      | cons k l ih =>
        intro hkl hwl
        have hwk : wt k ≤ 1000000 ∧ wt.wts l ≤ 1000000 := by simp only [wt.wts] at hwl; omega
        exact byt_app (enc_byt (hkl k (by simp)) hwk.1) (ih (fun k hk => hkl k (by simp [hk])) hwk.2)
    exact byt_app (hd_byt (by omega) (by decide) (by decide)) (hm ks hk hws)
  | d + 1, .mk false b ks, h, hw => by
    obtain ⟨rfl, hb⟩ := (show ks = [] ∧ Byt b from h)
    have hbl : b.length ≤ 16000016 := by unfold wt at hw; omega
    unfold enc
    simp only
    split
    · exact hb
    · exact byt_app (hd_byt (by omega) (by decide) (by decide)) hb
theorem dec_enc2 {t : It} (hp : Pl 64 t) (hw : wt t ≤ 1000000) : decS (enc t) = some t := by
  have := one_enc2 hp hw []
  rw [List.append_nil] at this
  exact decS_some this
theorem dec_long2 {t : It} (hp : Pl 64 t) (hw : wt t ≤ 1000000) (y : Int) : decS (enc t ++ [y]) = none := decS_rest (one_enc2 hp hw [y])
theorem dec_short2 {t : It} (hp : Pl 64 t) (hw : wt t ≤ 1000000) (hl : (enc t).length ≤ 100000) : decS ((enc t).take ((enc t).length - 1)) = none := by
  cases h : decS ((enc t).take ((enc t).length - 1)) with
  | none => rfl
  | some t' =>
    obtain ⟨h1, h2⟩ := form_dec ((enc_byt hp hw).take _) h
    have h3 := wt_dec h
    rw [List.length_take] at h3
    have hpos := enc_pos t
    have h4 := one_enc2 h1 (by omega) ((enc t).drop ((enc t).length - 1))
    rw [h2, List.take_append_drop] at h4
    have h5 := one_enc2 hp hw []
    rw [List.append_nil, h4] at h5
    have h6 : (enc t).drop ((enc t).length - 1) = [] := by
      injection h5 with h5
      exact (Prod.mk.inj h5).2
    have := congrArg List.length h6
    simp at this
    omega
def pln : Nat → It → It
  | 0, .mk _ b _ => .mk false b []
  | d + 1, .mk l b ks => match l with
    | false => .mk false b []
    | true => .mk true [] (ks.map (pln d))
theorem wts_map {f : It → It} : ∀ {ks : List It}, (∀ k ∈ ks, wt (f k) ≤ wt k) → wt.wts (ks.map f) ≤ wt.wts ks
  | [], _ => Nat.le_refl _
  | k :: r, h => by
    have h1 := h k (by simp)
    have h2 := wts_map (f := f) (ks := r) fun k hk => h k (by simp [hk])
    simp only [List.map_cons, wt.wts]
    omega
theorem wt_pln : ∀ (d : Nat) (t : It), wt (pln d t) ≤ wt t
  | 0, .mk l b ks => by simp only [pln, wt, wt.wts]; omega
  | d + 1, .mk false b ks => by simp only [pln, wt, wt.wts]; omega
  | d + 1, .mk true b ks => by
    have := wts_map (f := pln d) (ks := ks) fun k _ => wt_pln d k
    simp only [pln, wt]
    simp only [List.length_nil]
    omega
theorem pl_pln : ∀ (d : Nat) {l : Bool} {b : List Int} {ks : List AV} {ts : List It}, InS .u8 b → Reps ks ts → Pl (d + 1) (pln d (.mk l b ts))
  | 0, l, b, ks, ts, hb, hr => ⟨rfl, byt_of hb⟩
  | d + 1, false, b, ks, ts, hb, hr => ⟨rfl, byt_of hb⟩
  | d + 1, true, b, ks, ts, hb, hr => by
    refine ⟨rfl, fun k hk => ?_⟩
    obtain ⟨t, ht, rfl⟩ := List.mem_map.1 hk
    obtain ⟨i, hi⟩ := List.mem_iff_getElem?.1 ht
    have hil := (List.getElem?_eq_some_iff.1 hi).1
    obtain ⟨t', h1, h2, _⟩ := hr.get (i := i) (by rw [hr.len]; exact hil)
    obtain rfl : t = t' := Option.some.inj (hi.symm.trans h1)
    obtain ⟨l', b', ks', ts', rfl, q1, q2, q3, _⟩ := h2.opened
    exact pl_pln d q2 q1
abbrev U4 := (Bool × (List Int)) ⊕ ((Bool × (List AV)) ⊕ Bool)
inductive OkP : U4 → It → Prop
  | str (b : List Int) (hb : InS .u8 b) : OkP (.inl (false, b)) (.mk false b [])
  | lst (ks : List AV) (ts : List It) (hr : Reps ks ts) (hk : ks.length ≤ 140737488351232) : OkP (.inr (.inl (true, ks))) (.mk true [] ts)
  | nil : OkP (.inr (.inr true)) (.mk true [] [])
def PlnAt (f : (Bool × ((List Int) × ((List AV) × Int))) → Option U4) (d : Nat) : Prop := ∀ l b ks ts, InS .u8 b → Reps ks ts → wt (.mk l b ts) ≤ 2000 → ∃ u, f (l, b, ks, (d : Int)) = some u ∧ OkP u (pln d (.mk l b ts))
theorem plnB {α : Type} {mk0 : Bool → Bool → List AV → α} {mk1 : Bool → Bool → α} {n : Nat} {f : (Bool × ((List Int) × ((List AV) × Int))) → Option U4} {d : Nat} (ih : PlnAt f d) (hd : d ≤ 60) {x2 x5 x6 : Bool} {x3 : List Int} {ks : List AV} {ts : List It} (hr : Reps ks ts) (hs : wt.wts ts ≤ 2000) :
    ∀ (r i m : Nat) (acc : List AV) (us : List It), i + r = ks.length → r + 1 ≤ m → acc.length = i → Reps acc us →
      ∃ acc', Fo.l5_1.g mk0 mk1 n f m (i : Int) ((d + 1 : Nat) : Int) x2 x3 ks x5 x6 acc = some (mk0 x5 x6 acc') ∧ Reps acc' (us ++ (ts.drop i).map (pln d)) ∧ acc'.length = ks.length
  | _, i, 0, acc, us, hi, hm, _, _ => by omega
  | 0, i, m + 1, acc, us, hi, hm, ha, hu => by
    refine ⟨acc, ?_, ?_, by omega⟩
    · show Fo.l5_1.r _ _ _ _ _ _ _ _ _ _ _ _ _ = _
      unfold Fo.l5_1.r
      rw [if_neg (by simp; omega)]
    · rw [List.drop_eq_nil_of_le (by rw [← hr.len]; omega)]
      simpa using hu
  | r + 1, i, m + 1, acc, us, hi, hm, ha, hu => by
    have hwl := wts_len ts
    have hll := hr.len
    obtain ⟨t, h1, h2, h3⟩ := hr.get (i := i) (by omega)
    obtain ⟨l, b, ks', ts', rfl, q1, q2, q3, q4⟩ := h2.opened
    have hwt := wts_get h1
    have hw : IntKind.wrap .i64 (((d + 1 : Nat) : Int) - 1) = (d : Int) := by rw [wi64_id (by omega) (by omega)]; omega
    have hlen : ((acc.length + 1) * 56) ≤ 70368744177664 ∧ (acc.length + 1) ≤ 9223372036854775807 := by constructor <;> omega
    have hwi : IntKind.wrap .i64 ((i : Int) + 1) = ((i + 1 : Nat) : Int) := by rw [wi64_id (by omega) (by omega)]; omega
    obtain ⟨u, u1, u2⟩ := ih l b ks' ts' q2 q1 (by omega)
    have key : ∀ R, Fo.l5_1.r mk0 mk1 n f (fun y0 y1 y2 y3 y4 y5 y6 y7 => Fo.l5_1.g mk0 mk1 n f m y0 y1 y2 y3 y4 y5 y6 y7) (i : Int) ((d + 1 : Nat) : Int) x2 x3 ks x5 x6 acc = R →
        Fo.l5_1.g mk0 mk1 n f (m + 1) (i : Int) ((d + 1 : Nat) : Int) x2 x3 ks x5 x6 acc = R := fun R h => h
    have next : ∀ z : AV, Rep z (pln d (.mk l b ts')) → (Fo.l5_1.g mk0 mk1 n f (m + 1) (i : Int) ((d + 1 : Nat) : Int) x2 x3 ks x5 x6 acc = Fo.l5_1.g mk0 mk1 n f m ((i + 1 : Nat) : Int) ((d + 1 : Nat) : Int) x2 x3 ks x5 x6 (acc ++ [z])) →
        ∃ acc', Fo.l5_1.g mk0 mk1 n f (m + 1) (i : Int) ((d + 1 : Nat) : Int) x2 x3 ks x5 x6 acc = some (mk0 x5 x6 acc') ∧ Reps acc' (us ++ (ts.drop i).map (pln d)) ∧ acc'.length = ks.length := fun z hz e => by
      obtain ⟨acc', k1, k2, k3⟩ := plnB (mk0 := mk0) (mk1 := mk1) (n := n) ih hd (x2 := x2) (x5 := x5) (x6 := x6) (x3 := x3) hr hs r (i + 1) m (acc ++ [z]) (us ++ [pln d (.mk l b ts')]) (by omega) (by omega) (by simp; omega) (hu.snoc hz)
      refine ⟨acc', e.trans k1, ?_, k3⟩
      rw [h3, List.map_cons]
      simpa using k2
    cases hpl : pln d (.mk l b ts') with
    | mk l0 b0 t0 =>
    rw [hpl] at u2 next
    cases u2 with
    | str _ i1 =>
      refine next _ (rep_str i1) (key _ ?_)
      unfold Fo.l5_1.r
      rw [if_pos (by simp; omega), if_pos (by omega), if_pos (by omega), Int.toNat_natCast]
      refine (q4 _).trans ?_
      rw [hw]
      refine bO u1 ?_
      dsimp only
      rw [if_pos hlen, hwi]
    | lst ks2 _ r2 i2 =>
      refine next _ (rep_lst r2 i2) (key _ ?_)
      unfold Fo.l5_1.r
      rw [if_pos (by simp; omega), if_pos (by omega), if_pos (by omega), Int.toNat_natCast]
      refine (q4 _).trans ?_
      rw [hw]
      refine bO u1 ?_
      dsimp only
      rw [if_pos hlen, hwi]
    | nil =>
      refine next _ rep_nil (key _ ?_)
      unfold Fo.l5_1.r
      rw [if_pos (by simp; omega), if_pos (by omega), if_pos (by omega), Int.toNat_natCast]
      refine (q4 _).trans ?_
      rw [hw]
      refine bO u1 ?_
      dsimp only
      rw [if_pos hlen, hwi]
theorem plnA {α : Type} {mk0 : Bool → Bool → List AV → α} {mk1 : Bool → Bool → α} {n : Nat} {f : (Bool × ((List Int) × ((List AV) × Int))) → Option U4} {d : Nat} (ih : PlnAt f d) (hd : d ≤ 60) {x2 x5 x6 : Bool} {x3 : List Int} {ks : List AV} {ts : List It} (hr : Reps ks ts) (hs : wt.wts ts ≤ 2000) (m : Nat) (hm : ks.length + 2 ≤ m) :
      (ts = [] ∧ Fo.l5_0.g mk0 mk1 n f m 0 ((d + 1 : Nat) : Int) x2 x3 ks x5 x6 = some (mk1 x5 x6)) ∨
      ∃ acc', Fo.l5_0.g mk0 mk1 n f m 0 ((d + 1 : Nat) : Int) x2 x3 ks x5 x6 = some (mk0 x5 x6 acc') ∧ Reps acc' (ts.map (pln d)) ∧ acc'.length = ks.length := by
  cases m with
  | zero => omega
  | succ m =>
  have hll := hr.len
  by_cases h0 : ks.length = 0
  · refine .inl ⟨List.length_eq_zero_iff.1 (by omega), ?_⟩
    show Fo.l5_0.r _ _ _ _ _ _ _ _ _ _ _ _ _ = _
    unfold Fo.l5_0.r
    rw [if_neg (by rw [h0]; decide)]
  · right
    have hwl := wts_len ts
    have hpos : (0 : Int) < ((ks.length : Nat) : Int) := by omega
    obtain ⟨t, h1, h2, h3⟩ := hr.get (i := 0) (by omega)
    obtain ⟨l, b, ks', ts', rfl, q1, q2, q3, q4⟩ := h2.opened
    have hwt := wts_get h1
    have hw : IntKind.wrap .i64 (((d + 1 : Nat) : Int) - 1) = (d : Int) := by rw [wi64_id (by omega) (by omega)]; omega
    have hwi : IntKind.wrap .i64 ((0 : Int) + 1) = ((0 + 1 : Nat) : Int) := by rw [wi64_id (by omega) (by omega)]; rfl
    obtain ⟨u, u1, u2⟩ := ih l b ks' ts' q2 q1 (by omega)
    have key : ∀ R, Fo.l5_0.r mk0 mk1 n f (fun y0 y1 y2 y3 y4 y5 y6 => Fo.l5_0.g mk0 mk1 n f m y0 y1 y2 y3 y4 y5 y6) (fun y0 y1 y2 y3 y4 y5 y6 y7 => Fo.l5_1.g mk0 mk1 n f m y0 y1 y2 y3 y4 y5 y6 y7) 0 ((d + 1 : Nat) : Int) x2 x3 ks x5 x6 = R →
        Fo.l5_0.g mk0 mk1 n f (m + 1) 0 ((d + 1 : Nat) : Int) x2 x3 ks x5 x6 = R := fun R h => h
    have next : ∀ z : AV, Rep z (pln d (.mk l b ts')) → (Fo.l5_0.g mk0 mk1 n f (m + 1) 0 ((d + 1 : Nat) : Int) x2 x3 ks x5 x6 = Fo.l5_1.g mk0 mk1 n f m ((0 + 1 : Nat) : Int) ((d + 1 : Nat) : Int) x2 x3 ks x5 x6 [z]) →
        ∃ acc', Fo.l5_0.g mk0 mk1 n f (m + 1) 0 ((d + 1 : Nat) : Int) x2 x3 ks x5 x6 = some (mk0 x5 x6 acc') ∧ Reps acc' (ts.map (pln d)) ∧ acc'.length = ks.length := fun z hz e => by
      obtain ⟨acc', k1, k2, k3⟩ := plnB (mk0 := mk0) (mk1 := mk1) (n := n) ih hd (x2 := x2) (x5 := x5) (x6 := x6) (x3 := x3) hr hs (ks.length - 1) 1 m [z] [pln d (.mk l b ts')] (by omega) (by omega) rfl (Reps.nil.snoc hz)
      refine ⟨acc', e.trans k1, ?_, k3⟩
      rw [List.drop_zero] at h3
      rw [h3, List.map_cons]
      simpa using k2
    cases hpl : pln d (.mk l b ts') with
    | mk l0 b0 t0 =>
    rw [hpl] at u2 next
    cases u2 with
    | str _ i1 =>
      refine next _ (rep_str i1) (key _ ?_)
      unfold Fo.l5_0.r
      rw [if_pos (decide_eq_true hpos), if_pos (by omega), if_pos hpos]
      refine (q4 _).trans ?_
      rw [hw]
      refine bO u1 ?_
      dsimp only
      rw [hwi]
    | lst ks2 _ r2 i2 =>
      refine next _ (rep_lst r2 i2) (key _ ?_)
      unfold Fo.l5_0.r
      rw [if_pos (decide_eq_true hpos), if_pos (by omega), if_pos hpos]
      refine (q4 _).trans ?_
      rw [hw]
      refine bO u1 ?_
      dsimp only
      rw [hwi]
    | nil =>
      refine next _ rep_nil (key _ ?_)
      unfold Fo.l5_0.r
      rw [if_pos (decide_eq_true hpos), if_pos (by omega), if_pos hpos]
      refine (q4 _).trans ?_
      rw [hw]
      refine bO u1 ?_
      dsimp only
      rw [hwi]
theorem plain_ok {n : Nat} (hn : 5000 ≤ n) : ∀ (d e : Nat), d + 1 ≤ e → d ≤ 60 → PlnAt (Fo.mr n e) d
  | d, 0, he, _ => by omega
  | 0, e + 1, he, _ => fun l b ks ts hb hr hw => by
    have hbl : b.length ≤ 100000 := by unfold wt at hw; omega
    refine ⟨.inl (false, b), ?_, .str b hb⟩
    show Fo.h n (Fo.mr n e) (l, b, ks, ((0 : Nat) : Int)) = _
    unfold Fo.h Fo.g
    dsimp only
    cases l with
    | false => rw [if_pos (by simp)]; exact bO (lentB hbl) rfl
    | true => rw [if_neg (by simp), if_pos (by simp)]; exact bO (lentB hbl) rfl
  | d + 1, e + 1, he, hd => fun l b ks ts hb hr hw => by
    have hbl : b.length ≤ 100000 := by unfold wt at hw; omega
    have hws : wt.wts ts ≤ 2000 := by unfold wt at hw; omega
    have hwl := wts_len ts
    have hll := hr.len
    have ih := plain_ok hn d e (by omega) (by omega)
    cases l with
    | false =>
      refine ⟨.inl (false, b), ?_, .str b hb⟩
      show Fo.h n (Fo.mr n e) (false, b, ks, ((d + 1 : Nat) : Int)) = _
      unfold Fo.h Fo.g
      dsimp only
      rw [if_pos (by simp)]
      exact bO (lentB hbl) rfl
    | true =>
      have pre : ∀ R, (bindO (Fo.l5_0.m n (Fo.mr n e) n (0, ((d + 1 : Nat) : Int), true, b, ks, true, false)) fun r6 => match r6 with
        | (.inl r6) => some (.inr (.inl ((Prod.fst r6), (Prod.snd r6.2))))
        | (.inr r6) => some (.inr (.inr (Prod.fst r6))) : Option U4) = R → Fo.mr n (e + 1) (true, b, ks, ((d + 1 : Nat) : Int)) = R := fun R h => by
        show Fo.h n (Fo.mr n e) (true, b, ks, ((d + 1 : Nat) : Int)) = _
        unfold Fo.h Fo.g
        dsimp only
        rw [if_neg (by simp), if_neg (by simp; omega)]
        exact h
      rcases plnA (mk0 := fun a0 a1 a2 => (.inl (a0, a1, a2) : (Bool × (Bool × (List AV))) ⊕ (Bool × Bool))) (mk1 := fun a0 a1 => .inr (a0, a1)) (n := n) ih (by omega) (x2 := true) (x5 := true) (x6 := false) (x3 := b) hr hws n (by omega) with ⟨g1, g2⟩ | ⟨acc', g1, g2, g3⟩
      · subst g1
        exact ⟨_, pre _ (bO (show Fo.l5_0.m n (Fo.mr n e) n (0, ((d + 1 : Nat) : Int), true, b, ks, true, false) = _ from g2) rfl), .nil⟩
      · exact ⟨_, pre _ (bO (show Fo.l5_0.m n (Fo.mr n e) n (0, ((d + 1 : Nat) : Int), true, b, ks, true, false) = _ from g1) rfl), .lst acc' _ g2 (by omega)⟩
end Go.Abs.Pure
end
section
set_option linter.unusedVariables false
set_option linter.unusedSimpArgs false
set_option maxRecDepth 100000
namespace Go.Abs.Pure
open Go Go.Abs
theorem much_t (l : Bool) {b : List Int} {ks : List AV} {ts : List It} (hb : InS .u8 b) (hr : Reps ks ts) (hk : ks.length ≤ 140737488351232) : Fs.m 200000 (l, b, ks, 0) = some ((mu (.mk l b ts) 0 : Nat) : Int) :=
  much_ok (by decide) 200000 l b ks ts 0 hb hr hk (by decide) (by decide)
theorem RlpBack (l : Bool) (b : List Int) (hb : InS .u8 b) (ks : List AV) (hks : ks.length ≤ 140737488351232 ∧ ∃ ts, Reps ks ts) (v : Int) (hv : InK .u8 v) : ∃ n, Fe.m n (l, b, ks, v) = some true := by
  obtain ⟨hk, ts, hr⟩ := hks
  refine ⟨200000, ?_⟩
  unfold Fe.m Fe.g
  refine bO (much_t l hb hr hk) ?_
  by_cases h : mu (.mk l b ts) 0 ≤ 1000
  · rw [if_neg (by simp; omega)]
    have hw : wt (.mk l b ts) ≤ 1000 := by rw [mu_eq _ 0 h] at h; omega
    refine bO known_t ?_
    rw [if_neg (by decide)]
    obtain ⟨u, u1, u2⟩ := plain_ok (n := 200000) (by decide) 60 200000 (by decide) (by decide) l b ks ts hb hr (by omega)
    have hwp := wt_pln 60 (.mk l b ts)
    have hpl : Pl 64 (pln 60 (.mk l b ts)) := (pl_pln 60 hb hr).more (by decide)
    generalize pln 60 (.mk l b ts) = t at *
    refine bO u1 ?_
    have hlen := enc_len t
    have hpos := enc_pos t
    have hbyt := enc_byt hpl (by omega)
    have hv' : 0 ≤ v ∧ v ≤ 255 := hv
    have hvb : Byt (enc t ++ [v]) := byt_app hbyt fun x hx => by simp only [List.mem_singleton] at hx; omega
    have hcut : ∀ e : List Int, e = enc t → Go.Abs.cut e 0 (Option.some (Int.toNat (if 0 > (Go.IntKind.wrap .i64 ((((List.length e) : Nat) : Int) - 1)) then 0 else (Go.IntKind.wrap .i64 ((((List.length e) : Nat) : Int) - 1))))) = e.take (e.length - 1) := fun e he => by
      subst he
      rw [wi64_id (by omega) (by omega), if_neg (by omega)]
      simp only [cut, List.drop_zero]
      congr 1
      omega
    have hc1 : 0 ≤ (if 0 > (Go.IntKind.wrap .i64 ((((List.length (enc t)) : Nat) : Int) - 1)) then 0 else (Go.IntKind.wrap .i64 ((((List.length (enc t)) : Nat) : Int) - 1))) := by
      rw [wi64_id (by omega) (by omega), if_neg (by omega)]; omega
    have hc2 : (if 0 > (Go.IntKind.wrap .i64 ((((List.length (enc t)) : Nat) : Int) - 1)) then 0 else (Go.IntKind.wrap .i64 ((((List.length (enc t)) : Nat) : Int) - 1))) ≤ (((List.length (enc t)) : Nat) : Int) := by
      rw [wi64_id (by omega) (by omega), if_neg (by omega)]; omega
    have f1 : (((List.length (enc t)) * 1) ≤ 70368744177664 ∧ (List.length (enc t)) ≤ 9223372036854775807) := by constructor <;> omega
    have f2 : ((((List.length (enc t)) + 1) * 1) ≤ 70368744177664 ∧ ((List.length (enc t)) + 1) ≤ 9223372036854775807) := by constructor <;> omega
    have hshort : Fi.m 200000 ((enc t).take ((enc t).length - 1)) = some (.inl (false, 40)) := by
      rcases rlp_Decode_ok (n := 200000) (by decide) (hbyt.take ((enc t).length - 1)) (by simp; omega) with ⟨t', u', k1, _, _⟩ | ⟨_, k2⟩
      · rw [dec_short2 hpl (by omega) (by omega)] at k1; cases k1
      · exact k2
    have hlong : Fi.m 200000 (enc t ++ [v]) = some (.inl (false, 40)) := by
      rcases rlp_Decode_ok (n := 200000) (by decide) hvb (by simp; omega) with ⟨t', u', k1, _, _⟩ | ⟨_, k2⟩
      · rw [dec_long2 hpl (by omega) v] at k1; cases k1
      · exact k2
    have hmid : ∃ w, Fi.m 200000 (enc t) = some w ∧ OkD w t := by
      rcases rlp_Decode_ok (n := 200000) (by decide) hbyt (by omega) with ⟨t', u', k1, k2, k3⟩ | ⟨k1, _⟩
      · rw [dec_enc2 hpl (by omega)] at k1
        cases k1
        exact ⟨u', k2, k3⟩
      · rw [dec_enc2 hpl (by omega)] at k1; cases k1
    obtain ⟨w, w1, w2⟩ := hmid
    have fin : ∀ l b' ks ks' ts, Reps ks ts → Reps ks' ts → wt (.mk l b' ts) ≤ 1000 → Fr.m 200000 (l, b', ks, l, b', ks') = some true := fun l b' ks ks' ts r1 r2 hw => same_ok (n := 200000) (by decide) 200000 l b' ks ks' ts r1 r2 (by omega) (by omega)
    have fenc : ∀ l b' ks ts, InS .u8 b' → Reps ks ts → wt (.mk l b' ts) ≤ 1000 → Ff.m 200000 (l, b', ks) = some (enc (.mk l b' ts)) := fun l b' ks ts i r hw => rlpE_ok (n := 200000) (by decide) 200000 l b' ks ts i r (by omega) (by omega)
    have hwt : wt t ≤ 1000 := by omega
    cases u2 with
    | str b1 i1 =>
      cases w2 with
      | str _ i2 =>
        dsimp only
        refine bO (fenc false b1 [] [] i1 .nil hwt) ?_
        refine bO w1 ?_
        dsimp only
        rw [if_pos hc1, if_pos hc2, hcut _ rfl]
        refine bO hshort ?_
        dsimp only
        rw [if_pos f1, if_pos f2]
        refine bO hlong ?_
        dsimp only
        rw [if_pos (by decide)]
        refine bO (fin false b1 [] [] [] .nil .nil hwt) ?_
        rw [if_pos rfl, if_pos (by decide)]
        rfl
    | lst ks1 ts1 r1 i1 =>
      cases w2 with
      | lst ks2 _ r2 i2 =>
        dsimp only
        refine bO (fenc true [] ks1 ts1 inS_nil r1 hwt) ?_
        refine bO w1 ?_
        dsimp only
        rw [if_pos hc1, if_pos hc2, hcut _ rfl]
        refine bO hshort ?_
        dsimp only
        rw [if_pos f1, if_pos f2]
        refine bO hlong ?_
        dsimp only
        rw [if_pos (by decide)]
        refine bO (fin true [] ks1 ks2 ts1 r1 r2 hwt) ?_
        rw [if_pos rfl, if_pos (by decide)]
        rfl
      | nil =>
        dsimp only
        refine bO (fenc true [] ks1 [] inS_nil r1 hwt) ?_
        refine bO w1 ?_
        dsimp only
        rw [if_pos hc1, if_pos hc2, hcut _ rfl]
        refine bO hshort ?_
        dsimp only
        rw [if_pos f1, if_pos f2]
        refine bO hlong ?_
        dsimp only
        rw [if_pos (by decide)]
        refine bO (fin true [] ks1 [] [] r1 .nil hwt) ?_
        rw [if_pos rfl, if_pos (by decide)]
        rfl
    | nil =>
      cases w2 with
      | lst ks2 _ r2 i2 =>
        dsimp only
        refine bO (fenc true [] [] [] inS_nil .nil hwt) ?_
        refine bO w1 ?_
        dsimp only
        rw [if_pos hc1, if_pos hc2, hcut _ rfl]
        refine bO hshort ?_
        dsimp only
        rw [if_pos f1, if_pos f2]
        refine bO hlong ?_
        dsimp only
        rw [if_pos (by decide)]
        refine bO (fin true [] [] ks2 [] .nil r2 hwt) ?_
        rw [if_pos rfl, if_pos (by decide)]
        rfl
      | nil =>
        dsimp only
        refine bO (fenc true [] [] [] inS_nil .nil hwt) ?_
        refine bO w1 ?_
        dsimp only
        rw [if_pos hc1, if_pos hc2, hcut _ rfl]
        refine bO hshort ?_
        dsimp only
        rw [if_pos f1, if_pos f2]
        refine bO hlong ?_
        dsimp only
        rw [if_pos (by decide)]
        refine bO (fin true [] [] [] [] .nil .nil hwt) ?_
        rw [if_pos rfl, if_pos (by decide)]
        rfl
  · rw [if_pos (by simp; omega)]
    exact bO known_t rfl
end Go.Abs.Pure
end
