/- What the program's functions compute, as plain functions, each with its proof: the function does just that. Condition: the plain function has an answer. -/
import Derived.Test.YtkknbhapkdgcjaaDoorFnRulesStakes4
import Derived.Test.YtkknbhapkdgcjaaDoorFnRulesStakes2
import Derived.Test.YtkknbhapkdgcjaaDoorAbsP8
import Derived.Test.YtkknbhapkdgcjaaDoorFnRulesStakes3
import Derived.Test.YtkknbhapkdgcjaaDoorFnRulesStakes1
set_option linter.unusedVariables false
set_option linter.unusedSimpArgs false
set_option maxRecDepth 100000
open Go Go.Abs Go.Proofs
set_option autoImplicit true
set_option relaxedAutoImplicit true
noncomputable section
section
namespace Go.Abs
open Go Go.Proofs
theorem dfDec_inv {x : AV} {p : List Int × List Int} (h : dfDec x = some p) : ∃ v, x = .agg [dfKey p.1 p.2, .ints .u64 4 v] := by
 unfold dfDec at h
 split at h
 ·cases h; exact ⟨_, rfl⟩
 ·cases h
def dfF (a : List Int) (ps : List (MapEntry × AV)) (seen : Array Nat) : List (MapEntry × AV) := ps.filter fun p => !(dfDrop a p.2 && seen.contains p.1.born)
def dfMu (ps : List (MapEntry × AV)) (seen : Array Nat) : Nat := (ps.filter fun p => !seen.contains p.1.born).length
structure DS (E0 E : Env) (r it c0 : Nat) (ps : List (MapEntry × AV)) (seen : Array Nat) : Prop where
 gl : GoL 1 E0 E
 mem : Mem E
 bl : E.bl = [some (.mp (ps.map (·.2)))]
 loc : (E.loc 0).1 = r
 hr : E.w.heap[r]? = some (.map (ps.map (·.1)).toArray c0)
 hi : E.w.heap[it]? = some (.mapIter (some r) c0 seen c0)
structure PF (E0 : Env) (c0 : Nat) (ps : List (MapEntry × AV)) : Prop where
 ent : ∀ p ∈ ps, ∃ ad k v, dfDec p.2 = some (ad, k) ∧ p.2 = .agg [dfKey ad k, .ints .u64 4 v] ∧ VR E0 false (dfKey ad k) p.1.key ∧ VR E0 false (.ints .u64 4 v) p.1.val
 lt : ∀ p ∈ ps, p.1.born < c0
 ne : ps.Pairwise fun p q => p.1.born ≠ q.1.born
 nk : ps.Pairwise fun p q => dfDec p.2 ≠ dfDec q.2
theorem PF.sub {E0 : Env} {c0 : Nat} {ps qs : List (MapEntry × AV)} (h : PF E0 c0 ps) (s : qs.Sublist ps) : PF E0 c0 qs :=
 ⟨fun p hp => h.ent p (s.subset hp), fun p hp => h.lt p (s.subset hp), h.ne.sublist s, h.nk.sublist s⟩
theorem dfF_sub (a : List Int) (ps : List (MapEntry × AV)) (seen : Array Nat) : (dfF a ps seen).Sublist ps := List.filter_sublist
structure Kp (r it : Nat) (cv : Value) (a : Act) : Prop where
 h0 : a.tmps.getD 0 undef = .map (some r)
 h1 : a.tmps.getD 1 undef = cv
 h7 : a.tmps.getD 7 undef = .pointer (some ⟨it, 0, none⟩)
 sz : a.tmps.size = 19
 df : a.defers = []
theorem Kp.put {r it : Nat} {cv : Value} {a : Act} (h : Kp r it cv a) (d : Option Nat) (v : Value) (hd : d ≠ some 0 ∧ d ≠ some 1 ∧ d ≠ some 7) : Kp r it cv (a.put d v) := by
 refine ⟨?_, ?_, ?_, by rw [act_put_size, h.sz], by rw [act_put_defers, h.df]⟩
 ·rw [act_put_get, if_neg (fun e => hd.1 e.1)]; exact h.h0
 ·rw [act_put_get, if_neg (fun e => hd.2.1 e.1)]; exact h.h1
 ·rw [act_put_get, if_neg (fun e => hd.2.2 e.1)]; exact h.h7
theorem put_eval {a : Act} {d : Nat} {v : Value} (h : d < a.tmps.size) : (a.put (some d) v).eval (.tmp d) = v := by
 show (a.put (some d) v).tmps.getD d undef = v
 rw [act_put_get, if_pos ⟨rfl, h⟩]
theorem opN : dfN.op = .next (.tmp 7) false ∧ dfN.dst = some 8 ∧ dfN.guard = none := by have h := dfN_op; simp only [Prod.mk.injEq] at h; exact h
theorem opX : dfX.op = .extract (.tmp 8) 0 ∧ dfX.dst = some 9 ∧ dfX.guard = none := by have h := dfX_op; simp only [Prod.mk.injEq] at h; exact h
theorem opE : dfE.op = .entry (.tmp 7) ∧ dfE.dst = some 10 ∧ dfE.guard = none := by have h := dfE_op; simp only [Prod.mk.injEq] at h; exact h
theorem dP' : (dfP 1).dst = some 11 ∧ (dfP 2).dst = some 12 ∧ (dfP 3).dst = some 4 ∧ (dfP 4).dst = some 5 ∧ (dfP 5).dst = none ∧ (dfP 6).dst = none := by have h := dP; simp only [Prod.mk.injEq] at h; exact h
theorem gP' : (dfP 1).guard = none ∧ (dfP 2).guard = none ∧ (dfP 3).guard = none ∧ (dfP 4).guard = none ∧ (dfP 5).guard = none ∧ (dfP 6).guard = none := by have h := gP; simp only [Prod.mk.injEq] at h; exact h
theorem dQ' : (dfQ 0).dst = some 13 ∧ (dfQ 1).dst = some 14 ∧ (dfQ 2).dst = some 15 ∧ (dfQ 3).dst = some 16 := by have h := dQ; simp only [Prod.mk.injEq] at h; exact h
theorem gQ' : (dfQ 0).guard = none ∧ (dfQ 1).guard = none ∧ (dfQ 2).guard = none ∧ (dfQ 3).guard = none := by have h := gQ; simp only [Prod.mk.injEq] at h; exact h
theorem dS' : (dfS 0).dst = some 17 ∧ (dfS 1).dst = some 18 ∧ (dfS 2).dst = none := by have h := dS; simp only [Prod.mk.injEq] at h; exact h
theorem gS' : (dfS 0).guard = none ∧ (dfS 1).guard = none ∧ (dfS 2).guard = none := by have h := gS; simp only [Prod.mk.injEq] at h; exact h
theorem t10_any (r it : Nat) (a ad k v : List Int) : ∀ t, t ≠ 0 → t ≠ 1 → t ≠ 7 → t ≠ 10 → (t10 r it a ad k v).getD t .any = .any
 | 0, h0, h1, h7, h10 => absurd rfl h0
 | 1, h0, h1, h7, h10 => absurd rfl h1
 | 2, h0, h1, h7, h10 => rfl
 | 3, h0, h1, h7, h10 => rfl
 | 4, h0, h1, h7, h10 => rfl
 | 5, h0, h1, h7, h10 => rfl
 | 6, h0, h1, h7, h10 => rfl
 | 7, h0, h1, h7, h10 => absurd rfl h7
 | 8, h0, h1, h7, h10 => rfl
 | 9, h0, h1, h7, h10 => rfl
 | 10, h0, h1, h7, h10 => absurd rfl h10
 | 11, h0, h1, h7, h10 => rfl
 | 12, h0, h1, h7, h10 => rfl
 | 13, h0, h1, h7, h10 => rfl
 | 14, h0, h1, h7, h10 => rfl
 | 15, h0, h1, h7, h10 => rfl
 | 16, h0, h1, h7, h10 => rfl
 | 17, h0, h1, h7, h10 => rfl
 | 18, h0, h1, h7, h10 => rfl
 | t + 19, h0, h1, h7, h10 => rfl
theorem df_ask (hmix : Tryd.prog.follows .mixedOrders = true) (n r it : Nat) (a ad k v : List Int) (cv : Value) {F0 : Env} {act : Act} (s : SR (dfC n) F0 (t10 r it a ad k v) [] act) (hk : Kp r it cv act)
  {ops : Array Oper} {Q : Exit → Act → World → Prop}
  (hQ : ∀ (F : Env) (act' : Act), Go F0 F → Kp r it cv act' → SR (dfC n) F (t5 r it a ad k v) (B4 ad k v) act' → Q .normal act' F.w) : wpList Tryd.prog ops Q [dfP 1, dfP 2, dfP 3, dfP 4, dfP 5, dfP 6] act F0.w := by
 have hΓ := dfΓ hmix n
 refine wpList_step1 (C := dfC n) hΓ gP'.1 (s1 n r it a ad k v) s fun F1 v1 g1 s1 => ?_
 rw [dP'.1] at s1 ⊢
 have k1 := hk.put (some 11) v1 (by decide)
 refine wpList_step1 (C := dfC n) hΓ gP'.2.1 (s2 n r it a ad k v) (tm := t11 r it a ad k v) s1 fun F2 v2 g2 s2 => ?_
 rw [dP'.2.1] at s2 ⊢
 have k2 := k1.put (some 12) v2 (by decide)
 refine wpList_step1 (C := dfC n) hΓ gP'.2.2.1 (s3 n r it a ad k v) (tm := t12 r it a ad k v) s2 fun F3 v3 g3 s3 => ?_
 rw [dP'.2.2.1] at s3 ⊢
 have k3 := k2.put (some 4) v3 (by decide)
 refine wpList_step1 (C := dfC n) hΓ gP'.2.2.2.1 (s4 n r it a ad k v) (tm := t4 r it a ad k v) s3 fun F4 v4 g4 s4 => ?_
 rw [dP'.2.2.2.1] at s4 ⊢
 have k4 := k3.put (some 5) v4 (by decide)
 refine wpList_step1 (C := dfC n) hΓ gP'.2.2.2.2.1 (s5 n r it a ad k v) (tm := t5 r it a ad k v) s4 fun F5 v5 g5 s5 => ?_
 rw [dP'.2.2.2.2.1] at s5 ⊢
 have k5 := k4.put none v5 (by decide)
 refine wpList_step1 (C := dfC n) hΓ gP'.2.2.2.2.2 (s6 n r it a ad k v) (tm := t5 r it a ad k v) s5 fun F6 v6 g6 s6 => ?_
 rw [dP'.2.2.2.2.2] at s6 ⊢
 have k6 := k5.put none v6 (by decide)
 exact hQ F6 _ (((((g1.trans g2).trans g3).trans g4).trans g5).trans g6) k6 s6
set_option maxHeartbeats 4000000 in
theorem df_call (hmix : Tryd.prog.follows .mixedOrders = true) (n r it : Nat) (a ad k v : List Int) (cv : Value) {F0 : Env} {act : Act} (s : SR (dfC n) F0 (t5 r it a ad k v) (B4 ad k v) act) (hk : Kp r it cv act)
  {ops : Array Oper} {Q : Exit → Act → World → Prop}
  (hQ : ∀ (F : Env) (act' : Act), Go F0 F → Kp r it cv act' → SR (dfC n) F (t16 r it a ad k v) (B4 ad k v) act' → Q .normal act' F.w) : wpList Tryd.prog ops Q [dfQ 0, dfQ 1, dfQ 2, dfQ 3] act F0.w := by
 have hΓ := dfΓ hmix n
 refine wpList_step1 (C := dfC n) hΓ gQ'.1 (u0 n r it a ad k v) s fun F1 v1 g1 s1 => ?_
 rw [dQ'.1] at s1 ⊢
 have k1 := hk.put (some 13) v1 (by decide)
 refine wpList_step1 (C := dfC n) hΓ gQ'.2.1 (u1 n r it a ad k v) (tm := t13 r it a ad k v) s1 fun F2 v2 g2 s2 => ?_
 rw [dQ'.2.1] at s2 ⊢
 have k2 := k1.put (some 14) v2 (by decide)
 refine wpList_step1 (C := dfC n) hΓ gQ'.2.2.1 (u2 n r it a ad k v) (tm := t14 r it a ad k v) s2 fun F3 v3 g3 s3 => ?_
 rw [dQ'.2.2.1] at s3 ⊢
 have k3 := k2.put (some 15) v3 (by decide)
 refine wpList_step1 (C := dfC n) hΓ gQ'.2.2.2 (u3 n r it a ad k v) (tm := t15 r it a ad k v) s3 fun F4 v4 g4 s4 => ?_
 rw [dQ'.2.2.2] at s4 ⊢
 have k4 := k3.put (some 16) v4 (by decide)
 exact hQ F4 _ (((g1.trans g2).trans g3).trans g4) k4 s4
set_option maxHeartbeats 4000000 in
theorem df_strike (hmix : Tryd.prog.follows .mixedOrders = true) (n r it : Nat) (a ad k v : List Int) (cv : Value) {F0 : Env} {act : Act} (s : SR (dfC n) F0 (t16 r it a ad k v) (B4 ad k v) act) (hk : Kp r it cv act)
  {ops : Array Oper} {Q : Exit → Act → World → Prop} {rest : List Oper}
  (hQ : ∀ (F : Env) (act' : Act), Go F0 F → Kp r it cv act' → act'.eval (.tmp 17) = .map (some r) → VR F true (dfKey ad k) (act'.eval (.tmp 18)) → wpList Tryd.prog ops Q rest act' F.w) : wpList Tryd.prog ops Q (dfS 0 :: dfS 1 :: rest) act F0.w := by
 have hΓ := dfΓ hmix n
 refine wpList_step1 (C := dfC n) hΓ gS'.1 (y0 n r it a ad k v) s fun F1 v1 g1 s1 => ?_
 rw [dS'.1] at s1 ⊢
 have k1 := hk.put (some 17) v1 (by decide)
 refine wpList_step1 (C := dfC n) hΓ gS'.2.1 (y1 n r it a ad k v) (tm := t17 r it a ad k v) s1 fun F2 v2 g2 s2 => ?_
 rw [dS'.2.1] at s2 ⊢
 have k2 := k1.put (some 18) v2 (by decide)
 refine hQ F2 _ (g1.trans g2) k2 ?_ (s2.vr 18)
 exact (s2.vr 17).raw_inv
end Go.Abs
end
section
namespace Go.Abs
open Go Go.Proofs
theorem bare_mem {E : Env} (m : Mem E) : Mem { E with bl := [] } :=
 ⟨fun id blk h => by simp [bget] at h, fun i j bi bj _ h => by simp [bget] at h, m.roe, fun b o ⟨id, blk, h, _⟩ => by simp [bget] at h⟩
theorem bare_below {E F : Env} (g : Go { E with bl := [] } F) : RowKit.Below E.w.heap.size E.w F.w :=
 ⟨g.fr.os, g.fr.tape, g.fr.output, g.fr.size, fun b hb => g.fr.blk b hb fun o ⟨id, blk, h, _⟩ => by simp [bget] at h⟩
theorem setIter {W : World} {it : Nat} {o : Obj} {w1 w : World} (hw : w1 = w ∨ w1 = w.drew) (h : W = ChangeMaps.setBlock w1 it o) : W.heap = w.heap.setIfInBounds it o ∧ W.os = w.os ∧ W.tape = w.tape ∧ W.output = w.output := by
 subst h
 rcases hw with rfl | rfl <;> exact ⟨rfl, rfl, rfl, rfl⟩
theorem mu_lt {ps : List (MapEntry × AV)} {seen : Array Nat} {p : MapEntry × AV} (hp : p ∈ ps) (hs : seen.contains p.1.born = false) : dfMu ps (seen.push p.1.born) < dfMu ps seen := by
 unfold dfMu
 refine filter_lt _ _ (fun x hx => ?_) p (by simp only [hs]; rfl) ?_ ps hp
 ·rw [contains_push] at hx
  simp only [Bool.not_eq_true', Bool.or_eq_false_iff] at hx
  simp only [hx.1]; rfl
 ·rw [contains_push]; simp only [beq_self_eq_true, Bool.or_true]; rfl
theorem born_uniq {ps : List (MapEntry × AV)} (h : ps.Pairwise fun p q => p.1.born ≠ q.1.born) {p q : MapEntry × AV} (hp : p ∈ ps) (hq : q ∈ ps) (e : p.1.born = q.1.born) : p = q := by
 obtain ⟨i, hi, rfl⟩ := List.getElem_of_mem hp
 obtain ⟨j, hj, rfl⟩ := List.getElem_of_mem hq
 rw [List.pairwise_iff_getElem] at h
 rcases Nat.lt_trichotomy i j with h1 | h1 | h1
 ·exact absurd e (h i j hi hj h1)
 ·subst h1; rfl
 ·exact absurd e.symm (h j i hj hi h1)
noncomputable def dfBd : Code := .seq (.region 1 dfO1 false) (.seq (.cond (.tmp 9) .skip (.exit 0)) (.block 1 (.seq (.region 2 dfO2 false) dfRest)))
theorem run_extract0 {P : Program} {w : World} {vs : Array Value} {v : Value} (h : vs[0]? = some v) : (Instr.extract (.tuple vs) 0).run P w = .ok v w := by
 simp [Instr.extract, h]
theorem df_rounds (hmix : Tryd.prog.follows .mixedOrders = true) (n : Nat) {E0 : Env} {r it c0 : Nat} {a : List Int} {cv : Value} {ps0 : List (MapEntry × AV)} (m0 : Mem E0) (g0 : Glob kecG E0) (hge : E0.w.heap.size ≤ it)
  (hcv : VR E0 true (.fn (.func 33) [] [.rptr (.ints .u8 20 a)]) cv) (H : PF E0 c0 ps0) {Q : Exit → Act → World → Prop}
  (hQ : ∀ (E : Env) (act : Act), GoL 1 E0 E → Mem E → E.bl = [some (.mp ((ps0.filter fun p => !dfDrop a p.2).map (·.2)))] → Kp r it cv act → Q (.exit 0) act E.w) :
  ∀ (k : Nat) (seen : Array Nat) (E : Env) (act : Act), DS E0 E r it c0 (dfF a ps0 seen) seen → Kp r it cv act → dfMu ps0 seen < k → Code.rounds Tryd.prog dfBd Q k act E.w := by
 intro k
 induction k with
 | zero => intro seen E act _ _ h; exact absurd h (Nat.not_lt_zero _)
 | succ k ih =>
 intro seen E act d hk hmu
 have hsub := dfF_sub a ps0 seen
 have HF := H.sub hsub
 generalize hps : dfF a ps0 seen = ps at d hsub HF
 rw [rounds_succ]
 unfold dfBd
 refine wp_seq (wp_region_list ?_)
 rw [dfO1_eq2]
 have e7 : act.eval (.tmp 7) = .pointer (some ⟨it, 0, none⟩) := hk.h7
 have hold : ∀ x ∈ ((ps.map (·.1)).toArray).toList, x.born < c0 := fun x hx => by
  simp at hx
  obtain ⟨y, hx⟩ := hx
  exact HF.lt _ hx
 rcases run_next_at (P := Tryd.prog) E.w dfN.type it r c0 c0 seen (ps.map (·.1)).toArray c0 d.hi d.hr hold (Nat.le_refl _) with ⟨h0, hrun⟩ | ⟨e, he, w1, hw1, hrun⟩
 · -- nothing is left
  refine wpList_first opN.2.2 (v := .tuple #[.bool false]) (W' := E.w) (by simp only [execOp, opN.1, e7, Sem.run_bind, hrun, Result.andThen_ok, Sem.run_pure]) ?_
  rw [opN.2.1]
  have k1 := hk.put (some 8) (.tuple #[.bool false]) (by decide)
  have e8 : (act.put (some 8) (.tuple #[.bool false])).eval (.tmp 8) = .tuple #[.bool false] := put_eval (by rw [hk.sz]; decide)
  refine wpList_first opX.2.2 (v := .bool false) (W' := E.w) (by simp only [execOp, opX.1, e8, Sem.run_bind, run_extract0 (vs := #[.bool false]) (v := .bool false) rfl, Result.andThen_ok, Sem.run_pure]) ?_
  rw [opX.2.1]
  have k2 := k1.put (some 9) (.bool false) (by decide)
  have e9 : ((act.put (some 8) (.tuple #[.bool false])).put (some 9) (.bool false)).eval (.tmp 9) = .bool false := put_eval (by rw [k1.sz]; decide)
  refine wpList_nil ?_
  show Code.wp _ _ _ _ _
  refine wp_seq (wp_cond_false e9 (wp_exit ?_))
  show Q (.exit 0) _ _
  refine hQ E _ d.gl d.mem ?_ k2
  rw [d.bl, ← hps]
  congr 4
  unfold dfF
  refine List.filter_congr fun p hp => ?_
  cases hd : dfDrop a p.2 with
  | false => rfl
  | true =>
   cases hs : seen.contains p.1.born with
   | true => rfl
   | false =>
    exfalso
    have hin : p ∈ ps := by rw [← hps]; unfold dfF; exact List.mem_filter.2 ⟨hp, by simp only [hs, Bool.and_false]; rfl⟩
    have hl : p.1 ∈ (leftOf (ps.map (·.1)).toArray seen).toList := by
     unfold leftOf
     simp only [Array.toList_filter, List.mem_filter]
     exact ⟨List.mem_map_of_mem hin, by simp only [hs]; rfl⟩
    have := List.length_pos_of_mem hl
    simp only [Array.length_toList] at this
    omega
 · -- an entry comes
  obtain ⟨hmem, hsn⟩ := mem_left he
  have hmem' : e ∈ ps.map (·.1) := by simpa using hmem
  obtain ⟨pe, hpe, rfl⟩ := List.mem_map.1 hmem'
  obtain ⟨ad, kk, v, hdec, hx, hkey, hval⟩ := HF.ent pe hpe
  have hpe0 : pe ∈ ps0 := hsub.subset hpe
  generalize hW1 : ChangeMaps.setBlock w1 it (.mapIter (some r) c0 (seen.push pe.1.born) c0) = W1 at hrun
  obtain ⟨q1, q2, q3, q4⟩ := setIter hw1 hW1.symm
  obtain ⟨gl1, m1, st1, ne1⟩ := iter_set d.gl d.mem hge d.hi (odd_iter _ _ _ _) (odd_iter (some r) c0 (seen.push pe.1.born) c0) q1 q2 q3 q4
  have hit : it < E.w.heap.size := (Array.getElem?_eq_some_iff.1 d.hi).1
  have hri : r ≠ it := fun e => by have := d.hr; rw [e, d.hi] at this; cases this
  have hi1 : W1.heap[it]? = some (.mapIter (some r) c0 (seen.push pe.1.born) c0) := by rw [q1, Array.getElem?_setIfInBounds, if_pos rfl, if_pos hit]
  have hr1 : W1.heap[r]? = some (.map (ps.map (·.1)).toArray c0) := (ne1 r hri).trans d.hr
  refine wpList_first opN.2.2 (v := .tuple #[.bool true, pe.1.key, pe.1.val]) (W' := W1) (by simp only [execOp, opN.1, e7, Sem.run_bind, hrun, Result.andThen_ok, Sem.run_pure]) ?_
  rw [opN.2.1]
  generalize hv8 : (.tuple #[.bool true, pe.1.key, pe.1.val] : Value) = v8
  have k1 := hk.put (some 8) v8 (by decide)
  have e8 : (act.put (some 8) v8).eval (.tmp 8) = v8 := put_eval (by rw [hk.sz]; decide)
  have hx8 : (Instr.extract v8 0).run Tryd.prog W1 = .ok (.bool true) W1 := by rw [← hv8]; exact run_extract0 rfl
  refine wpList_first opX.2.2 (v := .bool true) (W' := W1) (by simp only [execOp, opX.1, e8, Sem.run_bind, hx8, Result.andThen_ok, Sem.run_pure]) ?_
  rw [opX.2.1]
  have k2 := k1.put (some 9) (.bool true) (by decide)
  have e9 : ((act.put (some 8) v8).put (some 9) (.bool true)).eval (.tmp 9) = .bool true := put_eval (by rw [k1.sz]; decide)
  refine wpList_nil ?_
  show Code.wp _ _ _ _ _
  generalize (act.put (some 8) v8).put (some 9) (.bool true) = act2 at k2 e9
  refine wp_seq (wp_cond_true e9 (wp_skip ?_))
  show Code.wp _ _ _ _ _
  refine wp_block (wp_seq (wp_region_list ?_))
  rw [dfO2_eq2]
  have hnd : (((ps.map (·.1)).toArray).toList.map (·.born)).Nodup := by
   simp only [List.map_map]
   exact List.pairwise_map.2 (HF.ne.imp fun h => h)
  have hent := run_entry_at (P := Tryd.prog) W1 it r c0 seen (ps.map (·.1)).toArray c0 pe.1 hi1 hr1 (by simpa using hmem') hnd
  have e7' : act2.eval (.tmp 7) = .pointer (some ⟨it, 0, none⟩) := k2.h7
  refine wpList_first opE.2.2 (v := .tuple #[pe.1.key, pe.1.val]) (W' := W1) (by simp only [execOp, opE.1, e7', Sem.run_bind, hent, Result.andThen_ok, Sem.run_pure]) ?_
  rw [opE.2.1]
  have k3 := k2.put (some 10) (.tuple #[pe.1.key, pe.1.val]) (by decide)
  -- without the map, from here
  have roF : ∀ b o, E0.ro b o → Env.ro { E with w := W1, bl := [] } b o ∧ Env.cell { E with w := W1, bl := [] } b o = E0.cell b o := fun b o h => gl1.ro b o h
  have mpF : MapsStay E0 { E with w := W1, bl := [] } := gl1.mp
  have gF : Glob kecG { E with w := W1, bl := [] } := g0.mono roF mpF ⟨gl1.fr.size, fun b hb hn => ⟨gl1.fr.blk b hb hn, fun o ⟨id, blk, h, _⟩ => by simp [bget] at h⟩⟩
  have s0 : SR (dfC n) { E with w := W1, bl := [] } (t10 r it a ad kk v) [] (act2.put (some 10) (.tuple #[pe.1.key, pe.1.val])) := by
   refine ⟨rfl, bare_mem m1, gF, by rw [k3.sz]; rfl, fun t => ?_, k3.df⟩
   by_cases c0' : t = 0
   ·subst c0'; rw [k3.h0]; exact .raw _ _ rfl rfl
   by_cases c1 : t = 1
   ·subst c1; rw [k3.h1]; exact (VR.roMono roF mpF (hcv.low rfl) rfl).lift
   by_cases c7 : t = 7
   ·subst c7; rw [k3.h7]; exact .raw _ _ rfl rfl
   by_cases c10 : t = 10
   ·subst c10
    rw [show (act2.put (some 10) (.tuple #[pe.1.key, pe.1.val])).tmps.getD 10 undef = .tuple #[pe.1.key, pe.1.val] from put_eval (by rw [k2.sz]; decide)]
    refine .tup _ _ _ rfl fun j x c hxj hc => ?_
    match j with
    | 0 => simp at hxj hc; subst hxj; subst hc; exact (VR.roMono roF mpF hkey rfl).lift
    | 1 => simp at hxj hc; subst hxj; subst hc; exact (VR.roMono roF mpF hval rfl).lift
    | j + 2 => simp at hxj
   rw [t10_any r it a ad kk v t c0' c1 c7 c10]
   exact .any _ _
  refine df_ask hmix n r it a ad kk v cv s0 k3 fun F1 act4 gF1 k4 s4 => ?_
  show Code.wp _ _ _ _ _
  rw [dfRest_eq]
  refine wp_seq (wp_region_list ?_)
  rw [dfO3_eq]
  refine df_call hmix n r it a ad kk v cv s4 k4 fun F2 act5 gF2 k5 s5 => ?_
  show Code.wp _ _ _ _ _
  have e16 : act5.eval (.tmp 16) = .bool (ad == a) := (s5.vr 16).bool_inv
  have hdrop : dfDrop a pe.2 = (ad == a) := by simp only [dfDrop, hdec]
  have fset : dfF a ps0 (seen.push pe.1.born) = ps.filter fun p => !(dfDrop a p.2 && p.1.born == pe.1.born) := by
   rw [← hps]
   unfold dfF
   rw [List.filter_filter]
   refine List.filter_congr fun p hp => ?_
   rw [contains_push]
   cases dfDrop a p.2 <;> cases seen.contains p.1.born <;> simp
  have hmu' : dfMu ps0 (seen.push pe.1.born) < k := by have := mu_lt hpe0 hsn; omega
  have hb0 : bget E.bl 0 = some (.mp (ps.map (·.2))) := by rw [d.bl]; rfl
  -- the map's memory, in the world behind
  have mkE : ∀ F : Env, Go { E with w := W1, bl := [] } F → GoL 1 E0 { E with w := F.w } ∧ Mem { E with w := F.w } ∧ F.w.heap[r]? = some (.map (ps.map (·.1)).toArray c0) ∧ F.w.heap[it]? = some (.mapIter (some r) c0 (seen.push pe.1.born) c0) := fun F g => by
   have hB : RowKit.Below W1.heap.size W1 F.w := bare_below (E := { E with w := W1 }) g
   have g4 : Go { E with w := W1 } { E with w := F.w } := Go.below (E := { E with w := W1 }) m1 hB
   have h1 : (1 : Nat) ≤ ({ E with w := W1 } : Env).bl.length := by show 1 ≤ E.bl.length; rw [d.bl]; exact Nat.le_refl 1
   refine ⟨gl1.trans (g4.toL h1), g4.mem, (hB.block r (Array.getElem?_eq_some_iff.1 hr1).1).trans hr1, (hB.block it (Array.getElem?_eq_some_iff.1 hi1).1).trans hi1⟩
  cases hda : (ad == a) with
  | false =>
   rw [hda] at e16 hdrop
   refine wp_cond_false e16 (wp_skip ?_)
   show Code.rounds _ _ _ _ _ _
   obtain ⟨x1, x2, x3, x4⟩ := mkE F2 (gF1.trans gF2)
   have hsame : dfF a ps0 (seen.push pe.1.born) = ps := by
    rw [fset]
    refine List.filter_eq_self.2 fun p hp => ?_
    by_cases hpb : p.1.born = pe.1.born
    ·have := born_uniq HF.ne hp hpe hpb
     subst this
     simp [hdrop]
    ·simp [hpb]
   refine ih (seen.push pe.1.born) { E with w := F2.w } act5 ?_ k5 hmu'
   rw [hsame]
   exact ⟨x1, x2, d.bl, d.loc, x3, x4⟩
  | true =>
   rw [hda] at e16 hdrop
   refine wp_cond_true e16 (wp_region_list ?_)
   rw [dfO4_eq]
   refine df_strike hmix n r it a ad kk v cv s5 k5 fun F3 act6 gF3 k6 e17 e18 => ?_
   obtain ⟨x1, x2, x3, x4⟩ := mkE F3 ((gF1.trans gF2).trans gF3)
   obtain ⟨c, o1, o2, o3, o4⟩ := dfS_op
   obtain ⟨i, hi⟩ := List.getElem?_of_mem hpe
   have gF3' := (gF1.trans gF2).trans gF3
   have entF : ∀ (j : Nat) e kx vx, ((ps.map (·.1)).toArray)[j]? = some e → (ps.map (·.2))[j]? = some (.agg [kx, vx]) → VR F3 false kx e.key := fun j e kx vx h1 h2 => by
    simp only [List.getElem?_toArray, List.getElem?_map] at h1 h2
    cases hp : ps[j]? with
    | none => rw [hp] at h1; cases h1
    | some p =>
     rw [hp] at h1 h2
     cases h1
     obtain ⟨ad2, k2', v2, _, hx2, hkey2, _⟩ := HF.ent p (List.mem_of_getElem? hp)
     simp only [Option.map_some, Option.some.injEq] at h2
     rw [hx2] at h2
     cases h2
     exact (VR.roMono roF mpF hkey2 rfl).mono gF3'.step
   have hfind : mfindL (dfKey ad kk) (ps.map (·.2)) = some (some i) := by
    refine mfindL_of (fun j hj => ?_) ⟨dfKey ad kk, .ints .u64 4 v, by rw [List.getElem?_map, hi, Option.map_some, hx], by simp [dfKey, eqAV, eqAVs]⟩
    have hil := (List.getElem?_eq_some_iff.1 hi).1
    have hpj : ps[j]? = some (ps[j]'(by omega)) := List.getElem?_eq_getElem (by omega)
    obtain ⟨ad2, k2', v2, hd2, hx2, _, _⟩ := HF.ent _ (List.mem_of_getElem? hpj)
    refine ⟨dfKey ad2 k2', .ints .u64 4 v2, by rw [List.getElem?_map, hpj, Option.map_some, hx2], ?_⟩
    have hne : dfDec (ps[j]'(by omega)).2 ≠ dfDec pe.2 := by
     have := List.pairwise_iff_getElem.1 HF.nk j i (by omega) hil hj
     rw [(List.getElem?_eq_some_iff.1 hi).2] at this
     exact this
    rw [hd2, hdec] at hne
    have hne' : ¬ (ad = ad2 ∧ kk = k2') := fun h => hne (by rw [h.1, h.2])
    simp only [dfKey, eqAV, eqAVs, if_true, Bool.and_true]
    congr 1
    simp only [Bool.and_eq_false_iff, beq_eq_false_iff_ne, ne_eq]
    by_cases h1 : ad = ad2
    ·exact .inr fun h2 => hne' ⟨h1, h2⟩
    ·exact .inl h1
   have hdel := delete_run (P := Tryd.prog) (E := F3) (ty := (dfS 2).type) dfUnder o4 (by kernel_rfl : rowTy Tryd.prog 79 = true) (by kernel_rfl) (k := dfKey ad kk) (by kernel_rfl) rfl e18 x3 (by simp) entF hfind
   have hex : execOp act6.eval (dfS 2) = (do let x ← Builtin.delete_ c.argTypes (dfS 2).type #[act6.eval (.tmp 17), act6.eval (.tmp 18)]; pure (.value x)) := by
    have h1 : execOp act6.eval (dfS 2) = builtin .delete c.argTypes (dfS 2).type (c.args.map fun | .const _ => true | _ => false) (c.args.map act6.eval) := by
     simp only [execOp, o1, resolve, o2]
     rfl
    rw [h1, o3]
    simp only [List.map_toArray, List.map_cons, List.map_nil]
    rfl
   have hes : ((ps.map (·.1)).toArray).eraseIdxIfInBounds i = ((ps.eraseIdx i).map (·.1)).toArray := by
    have hil := (List.getElem?_eq_some_iff.1 hi).1
    apply Array.ext'
    unfold Array.eraseIdxIfInBounds
    rw [dif_pos (by simpa using hil), Array.toList_eraseIdx]
    exact (ChangeMaps.map_eraseIdx _ _ _).symm
   have hps2 : dfF a ps0 (seen.push pe.1.born) = ps.eraseIdx i := by
    rw [fset, erase_filter (fun p : MapEntry × AV => p.1.born) ps i pe HF.ne hi]
    refine List.filter_congr fun p hp => ?_
    by_cases hpb : p.1.born = pe.1.born
    ·have := born_uniq HF.ne hp hpe hpb
     subst this
     simp [hdrop]
    ·simp [hpb]
   refine wpList_first gS'.2.2 (v := .tuple #[]) (W' := _) (by rw [hex, e17, Sem.run_bind, hdel]; rfl) ?_
   rw [dS'.2.2]
   refine wpList_nil ?_
   show Code.rounds _ _ _ _ _ _
   have lo : (({ E with w := F3.w } : Env).loc 0).1 = r := d.loc
   have hPF2 : PF E0 c0 (ps.eraseIdx i) := HF.sub (List.eraseIdx_sublist _ _)
   have gm := Go.mset (E := { E with w := F3.w }) x2 0 (ps.map (·.2)) ((ps.eraseIdx i).map (·.2)) hb0 ((ps.eraseIdx i).map (·.1)).toArray c0 (by simp)
    ⟨fun e he => by
     simp at he
     obtain ⟨y, hy⟩ := he
     exact hPF2.lt _ hy, by
     simp only [List.pairwise_map]
     exact hPF2.ne⟩
    (fun x hxm => by
     obtain ⟨p, hp, rfl⟩ := List.mem_map.1 hxm
     obtain ⟨ad2, k2', v2, _, hx2, hk2, hv2⟩ := hPF2.ent p hp
     rw [hx2]
     exact ent_of (hk2.cells ⟨by simp [dfKey], by simp [dfKey]⟩).1 rfl rfl (hv2.cells ⟨by simp, by simp⟩).1 rfl rfl)
    (fun j e kx vx h1 h2 => by
     simp only [List.getElem?_toArray, List.getElem?_map] at h1 h2
     cases hp : (ps.eraseIdx i)[j]? with
     | none => rw [hp] at h1; cases h1
     | some p =>
      rw [hp] at h1 h2
      cases h1
      obtain ⟨ad2, k2', v2, _, hx2, hkey2, hval2⟩ := hPF2.ent p (List.mem_of_getElem? hp)
      simp only [Option.map_some, Option.some.injEq] at h2
      rw [hx2] at h2
      cases h2
      exact ⟨VR.roMono x1.ro x1.mp hkey2 rfl, VR.roMono x1.ro x1.mp hval2 rfl⟩)
   have key : ({ F3.w with heap := F3.w.heap.setIfInBounds r (.map (((ps.map (·.1)).toArray).eraseIdxIfInBounds i) c0) } : World) = (Env.mset { E with w := F3.w } 0 ((ps.eraseIdx i).map (·.1)).toArray c0 ((ps.eraseIdx i).map (·.2))).w := by
    unfold Env.mset
    simp only [hes, d.loc]
   rw [key]
   refine ih (seen.push pe.1.born) _ _ ?_ (k6.put none _ (by decide)) hmu'
   rw [hps2]
   refine ⟨x1.trans (gm.toL (by show 1 ≤ E.bl.length; rw [d.bl]; exact Nat.le_refl 1)), gm.mem, by show E.bl.set 0 _ = _; rw [d.bl]; rfl, d.loc, ?_, ?_⟩
   ·show (F3.w.heap.setIfInBounds (E.loc 0).1 _)[r]? = _
    rw [d.loc, Array.getElem?_setIfInBounds, if_pos rfl, if_pos (Array.getElem?_eq_some_iff.1 x3).1]
   ·show (F3.w.heap.setIfInBounds (E.loc 0).1 _)[it]? = _
    rw [d.loc, Array.getElem?_setIfInBounds, if_neg hri]
    exact x4
theorem df_pf {E0 : Env} {c0 : Nat} {es : Array MapEntry} {l : List AV} (hs : es.size = l.length) (hst : Stamps es c0)
  (hat : ∀ (j : Nat) e k v, es[j]? = some e → l[j]? = some (.agg [k, v]) → VR E0 false k e.key ∧ VR E0 false v e.val) (hok : dfOk l = true) : PF E0 c0 (es.toList.zip l) := by
 simp only [dfOk, Bool.and_eq_true, List.all_eq_true, decide_eq_true_eq] at hok
 have hf : (es.toList.zip l).map (·.1) = es.toList := List.map_fst_zip (by simp; omega)
 have hsn : (es.toList.zip l).map (·.2) = l := List.map_snd_zip (by simp; omega)
 refine ⟨fun p hp => ?_, fun p hp => hst.1 _ (by rw [← hf]; exact List.mem_map_of_mem hp), ?_, ?_⟩
 ·obtain ⟨i, hi⟩ := List.getElem?_of_mem hp
  rw [List.getElem?_zip_eq_some] at hi
  obtain ⟨q, hq⟩ := Option.isSome_iff_exists.1 (hok.1 p.2 (List.mem_of_getElem? hi.2))
  obtain ⟨v, hx⟩ := dfDec_inv hq
  have := hat i p.1 (dfKey q.1 q.2) (.ints .u64 4 v) (by simpa using hi.1) (by rw [hi.2, hx])
  exact ⟨q.1, q.2, v, hq, hx, this.1, this.2⟩
 ·have := hst.2
  rw [← hf] at this
  exact (List.pairwise_map (f := fun p : MapEntry × AV => p.1) (R := fun a b => a.born ≠ b.born)).1 this
 ·have := hok.2
  rw [← hsn, List.map_map] at this
  exact List.pairwise_map.1 this
theorem start_get (v0 v1 : Value) (act : Act) (h : act = { tmps := #[v0, v1] ++ Array.replicate (19 - (#[v0, v1] : Array Value).size) undef, defers := [] }) :
  act.tmps.getD 0 undef = v0 ∧ act.tmps.getD 1 undef = v1 ∧ act.tmps.size = 19 ∧ act.defers = [] := by
 subst h
 refine ⟨?_, ?_, by simp, rfl⟩
 ·simp [Array.getD_eq_getD_getElem?, Array.getElem?_append]
 ·simp [Array.getD_eq_getD_getElem?, Array.getElem?_append]
set_option maxHeartbeats 2000000 in
theorem df_fn (hmix : Tryd.prog.follows .mixedOrders = true) (a : List Int) (l : List AV) (hok : dfOk l = true) : FnC Tryd.prog kecG 32 [.own 0 0, .fn (.func 33) [] [.rptr (.ints .u8 20 a)]] [some (.mp l)] (.tup []) [some (.mp (l.filter fun x => !dfDrop a x))] := by
 intro E vs hbl m g ha
 have hsz : vs.size = 2 := ha.size
 obtain ⟨v0, v1, rfl⟩ : ∃ v0 v1, vs = #[v0, v1] := by
  match vs, hsz with
  | ⟨[x, y]⟩, _ => exact ⟨x, y, rfl⟩
 have h0 := ha.vr 0 _ v0 rfl rfl
 have hcv := ha.vr 1 _ v1 rfl rfl
 have hb0 : bget E.bl 0 = some (.mp l) := by rw [hbl]; rfl
 obtain ⟨es, c0, rfl, hh, hs, hst, hen, hat⟩ := own_map m hb0 h0
 have hf : (es.toList.zip l).map (·.1) = es.toList := List.map_fst_zip (by simp; omega)
 have hsn : (es.toList.zip l).map (·.2) = l := List.map_snd_zip (by simp; omega)
 have H := df_pf hs hst hat hok
 refine calls_of_wp Tryd.func32 dfShape ?_
 refine wp_seq (wp_region_list ?_)
 rw [dfO0_eq]
 have hM := dfM0_op
 have hR := dfR0_op
 simp only [Prod.mk.injEq] at hM hR
 generalize hact : ({ tmps := #[.map (some (E.loc 0).1), v1] ++ Array.replicate (Tryd.f32.ntmps - (#[.map (some (E.loc 0).1), v1] : Array Value).size) undef, defers := [] } : Act) = act
 have hN : Tryd.f32.ntmps = 19 := by kernel_rfl
 rw [hN] at hact
 obtain ⟨a0, a1, asz, adf⟩ := start_get (.map (some (E.loc 0).1)) v1 act hact.symm
 have a0 : act.eval (.tmp 0) = .map (some (E.loc 0).1) := a0
 refine wpList_first hM.2.2 (v := .map (some (E.loc 0).1)) (W' := E.w) (by simp only [execOp, hM.1, a0, Sem.run_pure]) ?_
 rw [hM.2.1]
 have e6 : (act.put (some 6) (.map (some (E.loc 0).1))).eval (.tmp 6) = .map (some (E.loc 0).1) := put_eval (by rw [asz]; decide)
 refine wpList_first hR.2.2 (v := .pointer (some ⟨E.w.heap.size, 0, none⟩)) (W' := E.w.alloc (.mapIter (some (E.loc 0).1) c0 #[] c0)) (by simp only [execOp, hR.1, e6, Sem.run_bind, run_range_map E.w 60 79 27 _ es c0 dfUnder hh, Result.andThen_ok, Sem.run_pure]) ?_
 rw [hR.2.1]
 refine wpList_nil ?_
 show Code.wp _ _ _ _ _
 refine wp_block (wp_loop_rounds (dfMu (es.toList.zip l) #[] + 1) ?_)
 have hB : RowKit.Below E.w.heap.size E.w (E.w.alloc (.mapIter (some (E.loc 0).1) c0 #[] c0)) := (RowKit.Below.refl _ _).alloc (Nat.le_refl _) _
 have g1 : Go E { E with w := E.w.alloc (.mapIter (some (E.loc 0).1) c0 #[] c0) } := Go.below m hB
 have h1 : (1 : Nat) ≤ E.bl.length := by rw [hbl]; exact Nat.le_refl 1
 have hall : dfF a (es.toList.zip l) #[] = es.toList.zip l := List.filter_eq_self.2 fun p _ => by simp
 refine df_rounds hmix 0 (c0 := c0) (cv := v1) m g (Nat.le_refl _) hcv H (fun E' act' gl' m' b' k' => ?_) _ #[] _ _ ⟨g1.toL h1, g1.mem, ?_, rfl, ?_, ?_⟩ ⟨?_, ?_, ?_, ?_, ?_⟩ (Nat.lt_succ_self _)
 ·simp only [Exit.inBlock, if_true, bodyPost]
  refine ⟨k'.df, .tuple #[], by rw [show results Tryd.f32 act'.tmps = pure (.tuple #[]) by kernel_rfl]; rfl, .tuple #[], rfl, E', rfl, ?_, GoL.toGo (by rw [hbl]; exact gl') m', .tup _ _ _ rfl fun j x c h => by simp at h⟩
  rw [b']
  congr 3
  conv => rhs; rw [← hsn]
  rw [List.filter_map]
  rfl
 ·rw [hall, hsn]; exact hbl
 ·rw [hall, hf]
  exact (hB.block _ (Array.getElem?_eq_some_iff.1 hh).1).trans hh
 ·show (E.w.heap.push _)[E.w.heap.size]? = _
  simp
 ·rw [act_put_get, if_neg (by simp), act_put_get, if_neg (by simp)]; exact a0
 ·rw [act_put_get, if_neg (by simp), act_put_get, if_neg (by simp)]; exact a1
 ·exact put_eval (by rw [act_put_size, asz]; decide)
 ·rw [act_put_size, act_put_size, asz]
 ·rw [act_put_defers, act_put_defers, adf]
end Go.Abs
end
theorem Fa.ok (hmix : HM) (n : Nat) (t) (u) (h : Fa.m n t = some u) : FnOK Tryd.prog kecG 32 (Fa.shape t).1 (Fa.shape t).2 (Fa.res u).1 (Fa.res u).2 := by
  unfold Fa.m at h
  split at h
  · rename_i hk
    cases h
    exact (df_fn hmix t.1 t.2 hk).ok Tryd.func32 (by decide) (by kernel_rfl)
  · cases h
theorem Fa.s (hmix : HM) (n : Nat) : CalleeS Tryd.prog kecG 32 (Fa.c n) :=
  CalleeS.of (res := Fa.res) (shape := Fa.shape) (fun R u K => rfl) (fun args lent t h => by
    unfold Fa.pat at h
    split at h
    · cases h; rfl
    · cases h) fun t u h => Fa.ok hmix n t u h
theorem Fp.run : runS (Fp.C n) (Fp.A n) n Tryd.f18 (Fp.shape t) = (Fp.m n t).map Fp.res :=
  (show _ = Fp.g (fun a0 a1 a2 a3 => Fp.res (a0, a1, a2, a3)) n t.1 t.2.1 t.2.2.1 t.2.2.2.1 t.w from by kernel_rfl).trans (by
    unfold Fp.m Fp.g
    exact (bindO_map fun r2 => (bindO_map fun r4 => rfl)))
theorem Fp.s (hmix : HM) (n : Nat) : CalleeS Tryd.prog kecG 18 (Fp.c n) :=
  .mkF (res := Fp.res) (shape := Fp.shape) (C := Fp.C n) (A := Fp.A n) (fun R u K => rfl) (fun _ _ _ h => by unfold Fp.pat at h; split at h <;> cases h; rfl) rfl (.cons (Fg.s hmix n) (.cons (Fa.s hmix n) .nil)) hmix Tryd.func18 (by kernel_rfl) (lp := []) (by kernel_rfl) .nil
  (nj rfl) (by decide) (fun _ => rfl) rfl (fun _ => by show 2 ≤ Tryd.f18.ntmps; decide) (fun _ => Fp.run)
theorem Fz.run : runS (Fz.C n) (Fz.A n) n Tryd.f19 (Fz.shape t) = (Fz.m n t).map Fz.res :=
  (show _ = Fz.g (fun a0 a1 a2 a3 => Fz.res (a0, a1, a2, a3)) n t.1 t.2.1 t.2.2.1 t.2.2.2 from by kernel_rfl).trans (by
    unfold Fz.m Fz.g
    exact rfl)
theorem Fz.s (hmix : HM) (n : Nat) : CalleeS Tryd.prog kecG 19 (Fz.c n) :=
  .mkF (res := Fz.res) (shape := Fz.shape) (C := Fz.C n) (A := Fz.A n) (fun R u K => rfl) (fun _ _ _ h => by unfold Fz.pat at h; split at h <;> cases h; rfl) rfl .nil hmix Tryd.func19 (by kernel_rfl) (lp := []) (by kernel_rfl) .nil
  (nj rfl) (by decide) (fun _ => rfl) rfl (fun _ => by show 1 ≤ Tryd.f19.ntmps; decide) (fun _ => Fz.run)
noncomputable abbrev Fbm.R0 (n : Nat) := roundOf (Fbm.C n) (Fbm.A n) n Fbm.b0
noncomputable abbrev Fbm.R1 (n : Nat) := roundOf (Fbm.C n) (Fbm.A n) n Fbm.b1
def Fbm.l8_0.T {α : Type} (mk0 : Int → Int → LA → Int → Int → LA → LA → α) (n : Nat) (f : Ty13 → Option α) (t : Ty13) : Option α := Fbm.l8_0.r mk0 n (fun y0 y1 y2 y3 y4 y5 y6 y7 y8 y9 y10 y11 y12 y13 y14 => f (y0, y1, y2, y3, y4, y5, y6, y7, y8, y9, y10, y11, y12, y13, y14)) t.1 t.2.1 t.2.2.1 t.2.2.2.1 t.w.1 t.w.2.1 t.w.2.2.1 t.w.2.2.2.1 t.x.1 t.x.2.1 t.x.2.2.1 t.x.2.2.2.1 t.x.w.1 t.x.w.2.1 t.x.w.2.2
theorem Fbm.l8_0.rmap : (Fbm.l8_0.T (fun a0 a1 a2 a3 a4 a5 a6 => (a0, a1, a2, a3, a4, a5, a6)) n f t).map Fbm.l8_0.res = Fbm.l8_0.T (fun a0 a1 a2 a3 a4 a5 a6 => Fbm.l8_0.res (a0, a1, a2, a3, a4, a5, a6)) n (fun y => (f y).map Fbm.l8_0.res) t := by
  unfold Fbm.l8_0.T Fbm.l8_0.r
  exact Eq.symm (ite_map (ite_map (ite_map (bindO_map fun r10 => (bindO_map fun r12 => (bindO_map fun r14 => (bindO_map fun r16 => rfl)))) rfl) rfl) rfl)
theorem Fbm.l8_0.pat_shape : ∀ st t, Fbm.l8_0.pat st = some t → st = Fbm.l8_0.shape t := fun _ _ h => by unfold Fbm.l8_0.pat at h; split at h <;> cases h; rfl
theorem Fbm.l8_0.round : Fbm.R1 n rc (Fbm.l8_0.shape t) = Fbm.l8_0.T (fun a0 a1 a2 a3 a4 a5 a6 => Fbm.l8_0.res (a0, a1, a2, a3, a4, a5, a6)) n (fun y => rc (Fbm.l8_0.shape y)) t := by kernel_rfl
theorem Fbm.l8_0.loop (n m : Nat) (t : Ty13) : loopOf (Fbm.R1 n) m (Fbm.l8_0.shape t) = (Fbm.l8_0.m n m t).map Fbm.l8_0.res :=
  loop_map (fun _ _ => Fbm.l8_0.rmap) (fun _ _ => Fbm.l8_0.round) (fun _ => rfl) (fun _ _ => by kernel_rfl) m t
def Fbm.l3_0.T {α : Type} (mk0 : Int → Int → LA → LA → α) (n : Nat) (f : Ty24 → Option α) (t : Ty24) : Option α := Fbm.l3_0.r mk0 n (fun y0 y1 y2 y3 y4 y5 y6 => f (y0, y1, y2, y3, y4, y5, y6)) t.1 t.2.1 t.2.2.1 t.2.2.2.1 t.w.1 t.w.2.1 t.w.2.2
theorem Fbm.l3_0.rmap : (Fbm.l3_0.T (fun a0 a1 a2 a3 => (a0, a1, a2, a3)) n f t).map Fbm.l3_0.res = Fbm.l3_0.T (fun a0 a1 a2 a3 => Fbm.l3_0.res (a0, a1, a2, a3)) n (fun y => (f y).map Fbm.l3_0.res) t := by
  unfold Fbm.l3_0.T Fbm.l3_0.r
  exact Eq.symm (ite_map (ite_map (ite_map (bindO_map fun r10 => (bindO_map fun r12 => (bindO_map fun r14 => (bindO_map fun r16 => (bindO_map fun r18 => (bindO_map fun r20 => (bindO_map fun r22 => (bindO_map fun r24 => (bindO_map fun r26 => (bindO_map fun r28 => rfl)))))))))) rfl) rfl) rfl)
theorem Fbm.l3_0.pat_shape : ∀ st t, Fbm.l3_0.pat st = some t → st = Fbm.l3_0.shape t := fun _ _ h => by unfold Fbm.l3_0.pat at h; split at h <;> cases h; rfl
theorem Fbm.l3_0.round : Fbm.R0 n rc (Fbm.l3_0.shape t) = Fbm.l3_0.T (fun a0 a1 a2 a3 => Fbm.l3_0.res (a0, a1, a2, a3)) n (fun y => rc (Fbm.l3_0.shape y)) t := by kernel_rfl
theorem Fbm.l3_0.loop (n m : Nat) (t : Ty24) : loopOf (Fbm.R0 n) m (Fbm.l3_0.shape t) = (Fbm.l3_0.m n m t).map Fbm.l3_0.res :=
  loop_map (fun _ _ => Fbm.l3_0.rmap) (fun _ _ => Fbm.l3_0.round) (fun _ => rfl) (fun _ _ => by kernel_rfl) m t
theorem Fbm.run : runS (Fbm.C n) (Fbm.A n) n Tryd.f9 (Fbm.shape t) = (Fbm.m n t).map Fbm.res :=
  (show _ = Fbm.g (fun a0 a1 a2 a3 => Fbm.res (a0, a1, a2, a3)) n t from by kernel_rfl).trans (by
    unfold Fbm.m Fbm.g
    exact (bindO_map fun r2 => (bindO_map fun r4 => rfl)))
theorem Fbm.s (hmix : HM) (n : Nat) : CalleeS Tryd.prog kecG 9 (Fbm.c n) :=
  .mkF (res := Fbm.res) (shape := Fbm.shape) (C := Fbm.C n) (A := Fbm.A n) (fun R u K => rfl) (fun _ _ _ h => by unfold Fbm.pat at h; split at h <;> cases h; rfl) rfl (.cons (Fp.s hmix n) (.cons (Fz.s hmix n) .nil)) hmix Tryd.func9 (by kernel_rfl) (lp := [Fbm.b0, Fbm.b1]) (by kernel_rfl) (.cons (show (Fbm.A n).loop (key Fbm.b0) = some (.mk' Fbm.l3_0.pat (Fbm.l3_0.m n n) (resKl Fbm.l3_0.res)) by kernel_rfl) (LoopS.of (res := Fbm.l3_0.res) (fun R u K => rfl) Fbm.l3_0.pat_shape fun t => Fbm.l3_0.loop n n t)
  (.cons (show (Fbm.A n).loop (key Fbm.b1) = some (.mk' Fbm.l8_0.pat (Fbm.l8_0.m n n) (resKl Fbm.l8_0.res)) by kernel_rfl) (LoopS.of (res := Fbm.l8_0.res) (fun R u K => rfl) Fbm.l8_0.pat_shape fun t => Fbm.l8_0.loop n n t)
  .nil))
  (nj rfl) (by decide) (fun _ => rfl) rfl (fun _ => by show 1 ≤ Tryd.f9.ntmps; decide) (fun _ => Fbm.run)
theorem Fat.run : runS (Fat.C n) (Fat.A n) n Tryd.f34 (Fat.shape t) = (Fat.m n t).map Fat.res :=
  (show _ = Fat.g (fun a0 => Fat.res a0) n t.1 t.2.1 t.2.2.1 t.2.2.2.1 t.w.1 t.w.2.1 t.w.2.2 from by kernel_rfl).trans (by
    unfold Fat.m Fat.g
    exact (ite_map rfl (ite_map rfl (ite_map rfl (ite_map rfl rfl)))))
theorem Fat.s (hmix : HM) (n : Nat) : CalleeS Tryd.prog kecG 34 (Fat.c n) :=
  .mkF (res := Fat.res) (shape := Fat.shape) (C := Fat.C n) (A := Fat.A n) (fun R u K => rfl) (fun _ _ _ h => by unfold Fat.pat at h; split at h <;> cases h; rfl) rfl .nil hmix Tryd.func34 (by kernel_rfl) (lp := []) (by kernel_rfl) .nil
  (nj rfl) (by decide) (fun _ => rfl) rfl (fun _ => by show 1 ≤ Tryd.f34.ntmps; decide) (fun _ => Fat.run)
noncomputable abbrev Fau.R0 (n : Nat) := roundOf (Fau.C n) (Fau.A n) n Fau.b0
def Fau.l3_0.T {α : Type} (mk0 : LI → α) (n : Nat) (f : (Int × (Int × (LA × (LA × LI)))) → Option α) (t : (Int × (Int × (LA × (LA × LI))))) : Option α := Fau.l3_0.r mk0 n (fun y0 y1 y2 y3 y4 => f (y0, y1, y2, y3, y4)) t.1 t.2.1 t.2.2.1 t.2.2.2.1 t.w
theorem Fau.l3_0.rmap : (Fau.l3_0.T (fun a0 => a0) n f t).map Fau.l3_0.res = Fau.l3_0.T (fun a0 => Fau.l3_0.res a0) n (fun y => (f y).map Fau.l3_0.res) t := by
  unfold Fau.l3_0.T Fau.l3_0.r
  exact Eq.symm (ite_map (ite_map (ite_map (bindO_map fun r10 => (bindO_map fun r12 => (bindO_map fun r14 => (bindO_map fun r16 => (bindO_map fun r18 => (bindO_map fun r20 => (bindO_map fun r22 => (bindO_map fun r24 => (ite_map rfl (ite_map rfl (ite_map (ite_map (ite_map (bindO_map fun r36 => (bindO_map fun r38 => (bindO_map fun r40 => (bindO_map fun r42 => (bindO_map fun r44 => (bindO_map fun r46 => (bindO_map fun r48 => (bindO_map fun r50 => (bindO_map fun r52 => (ite_map (ite_map (ite_map (bindO_map fun r60 => (bindO_map fun r62 => (bindO_map fun r64 => (bindO_map fun r66 => (bindO_map fun r68 => (bindO_map fun r70 => (bindO_map fun r72 => (bindO_map fun r74 => (ite_map (ite_map (ite_map (bindO_map fun r82 => (bindO_map fun r84 => (bindO_map fun r86 => (bindO_map fun r88 => (bindO_map fun r90 => (bindO_map fun r92 => (bindO_map fun r94 => (bindO_map fun r96 => (ite_map rfl (ite_map rfl rfl)))))))))) rfl) rfl) (ite_map rfl rfl)))))))))) rfl) rfl) (ite_map rfl rfl))))))))))) rfl) rfl) (ite_map rfl rfl)))))))))))) rfl) rfl) rfl)
theorem Fau.l3_0.pat_shape : ∀ st t, Fau.l3_0.pat st = some t → st = Fau.l3_0.shape t := fun _ _ h => by unfold Fau.l3_0.pat at h; split at h <;> cases h; rfl
theorem Fau.l3_0.round : Fau.R0 n rc (Fau.l3_0.shape t) = Fau.l3_0.T (fun a0 => Fau.l3_0.res a0) n (fun y => rc (Fau.l3_0.shape y)) t := by kernel_rfl
theorem Fau.l3_0.loop (n m : Nat) (t : (Int × (Int × (LA × (LA × LI))))) : loopOf (Fau.R0 n) m (Fau.l3_0.shape t) = (Fau.l3_0.m n m t).map Fau.l3_0.res :=
  loop_map (fun _ _ => Fau.l3_0.rmap) (fun _ _ => Fau.l3_0.round) (fun _ => rfl) (fun _ _ => by kernel_rfl) m t
theorem Fau.run : runS (Fau.C n) (Fau.A n) n Tryd.f20 (Fau.shape t) = (Fau.m n t).map Fau.res :=
  (show _ = Fau.g (fun a0 => Fau.res a0) n t from by kernel_rfl).trans (by
    unfold Fau.m Fau.g
    exact (bindO_map fun r2 => rfl))
theorem Fau.s (hmix : HM) (n : Nat) : CalleeS Tryd.prog kecG 20 (Fau.c n) :=
  .mkF (res := Fau.res) (shape := Fau.shape) (C := Fau.C n) (A := Fau.A n) (fun R u K => rfl) (fun _ _ _ h => by unfold Fau.pat at h; split at h <;> cases h; rfl) rfl (.cons (Fat.s hmix n) .nil) hmix Tryd.func20 (by kernel_rfl) (lp := [Fau.b0]) (by kernel_rfl) (.cons (show (Fau.A n).loop (key Fau.b0) = some (.mk' Fau.l3_0.pat (Fau.l3_0.m n n) (resKl Fau.l3_0.res)) by kernel_rfl) (LoopS.of (res := Fau.l3_0.res) (fun R u K => rfl) Fau.l3_0.pat_shape fun t => Fau.l3_0.loop n n t)
  .nil)
  (nj rfl) (by decide) (fun _ => rfl) rfl (fun _ => by show 1 ≤ Tryd.f20.ntmps; decide) (fun _ => Fau.run)
theorem Ff.run : runS (Ff.C n) (Ff.A n) n Tryd.f35 (Ff.shape t) = (Ff.m n t).map Ff.res :=
  (show _ = Ff.g (fun a0 => Ff.res a0) n t.1 t.2.1 t.2.2 from by kernel_rfl).trans (by
    unfold Ff.m Ff.g
    exact (ite_map (ite_map rfl rfl) rfl))
theorem Ff.s (hmix : HM) (n : Nat) : CalleeS Tryd.prog kecG 35 (Ff.c n) :=
  .mkF (res := Ff.res) (shape := Ff.shape) (C := Ff.C n) (A := Ff.A n) (fun R u K => rfl) (fun _ _ _ h => by unfold Ff.pat at h; split at h <;> cases h; rfl) rfl .nil hmix Tryd.func35 (by kernel_rfl) (lp := []) (by kernel_rfl) .nil
  (nj rfl) (by decide) (fun _ => rfl) rfl (fun _ => by show 3 ≤ Tryd.f35.ntmps; decide) (fun _ => Ff.run)
theorem Fj.run : runS (Fj.C n) (Fj.A n) n Tryd.f36 (Fj.shape t) = (Fj.m n t).map Fj.res :=
  (show _ = Fj.g (fun a0 => Fj.res a0) n t.1 t.2.1 t.2.2.1 t.2.2.2.1 t.w.1 t.w.2.1 t.w.2.2.1 t.w.2.2.2.1 t.x.1 t.x.2.1 t.x.2.2.1 t.x.2.2.2.1 t.x.w.1 t.x.w.2.1 t.x.w.2.2.1 t.x.w.2.2.2.1 t.y.1 t.y.2.1 t.y.2.2.1 t.y.2.2.2.1 t.y.w.1 t.y.w.2.1 t.y.w.2.2.1 t.y.w.2.2.2.1 t.y.x.1 t.y.x.2.1 t.y.x.2.2.1 t.y.x.2.2.2.1 t.y.x.w.1 t.y.x.w.2.1 t.y.x.w.2.2.1 t.y.x.w.2.2.2.1 t.y.y from by kernel_rfl).trans (by
    unfold Fj.m Fj.g
    exact (ite_map rfl (ite_map rfl (ite_map rfl (ite_map rfl (ite_map rfl (ite_map rfl (ite_map rfl (ite_map rfl (ite_map rfl (ite_map rfl (ite_map rfl (ite_map rfl rfl)))))))))))))
theorem Fj.s (hmix : HM) (n : Nat) : CalleeS Tryd.prog kecG 36 (Fj.c n) :=
  .mkF (res := Fj.res) (shape := Fj.shape) (C := Fj.C n) (A := Fj.A n) (fun R u K => rfl) (fun _ _ _ h => by unfold Fj.pat at h; split at h <;> cases h; rfl) rfl .nil hmix Tryd.func36 (by kernel_rfl) (lp := []) (by kernel_rfl) .nil
  (nj rfl) (by decide) (fun _ => rfl) rfl (fun _ => by show 1 ≤ Tryd.f36.ntmps; decide) (fun _ => Fj.run)
noncomputable abbrev Fk.R0 (n : Nat) := roundOf (Fk.C n) (Fk.A n) n Fk.b0
def Fk.l2_0.T {α : Type} (mk0 : Int → α) (mk1 : α) (n : Nat) (f : (Int × (Int × (Int × LI))) → Option α) (t : (Int × (Int × (Int × LI)))) : Option α := Fk.l2_0.r mk0 mk1 n (fun y0 y1 y2 y3 => f (y0, y1, y2, y3)) t.1 t.2.1 t.2.2.1 t.2.2.2
theorem Fk.l2_0.rmap : (Fk.l2_0.T (fun a0 => (.inl a0)) (.inr ()) n f t).map Fk.l2_0.res = Fk.l2_0.T (fun a0 => Fk.l2_0.res (.inl a0)) (Fk.l2_0.res (.inr ())) n (fun y => (f y).map Fk.l2_0.res) t := by
  unfold Fk.l2_0.T Fk.l2_0.r
  exact Eq.symm (ite_map (ite_map (ite_map (ite_map rfl rfl) rfl) rfl) rfl)
theorem Fk.l2_0.pat_shape : ∀ st t, Fk.l2_0.pat st = some t → st = Fk.l2_0.shape t := fun _ _ h => by unfold Fk.l2_0.pat at h; split at h <;> cases h; rfl
theorem Fk.l2_0.round : Fk.R0 n rc (Fk.l2_0.shape t) = Fk.l2_0.T (fun a0 => Fk.l2_0.res (.inl a0)) (Fk.l2_0.res (.inr ())) n (fun y => rc (Fk.l2_0.shape y)) t := by kernel_rfl
theorem Fk.l2_0.loop (n m : Nat) (t : (Int × (Int × (Int × LI)))) : loopOf (Fk.R0 n) m (Fk.l2_0.shape t) = (Fk.l2_0.m n m t).map Fk.l2_0.res :=
  loop_map (fun _ _ => Fk.l2_0.rmap) (fun _ _ => Fk.l2_0.round) (fun _ => rfl) (fun _ _ => by kernel_rfl) m t
theorem Fk.run : runS (Fk.C n) (Fk.A n) n Tryd.f52 (Fk.shape t) = (Fk.m n t).map Fk.res :=
  (show _ = Fk.g (fun a0 => Fk.res a0) n t.1 t.2 from by kernel_rfl).trans (by
    unfold Fk.m Fk.g
    exact (bindO_map fun r2 => match r2 with | (.inl r2) => rfl | (.inr r2) => rfl))
theorem Fk.s (hmix : HM) (n : Nat) : CalleeS Tryd.prog kecG 52 (Fk.c n) :=
  .mkF (res := Fk.res) (shape := Fk.shape) (C := Fk.C n) (A := Fk.A n) (fun R u K => rfl) (fun _ _ _ h => by unfold Fk.pat at h; split at h <;> cases h; rfl) rfl .nil hmix Tryd.func52 (by kernel_rfl) (lp := [Fk.b0]) (by kernel_rfl) (.cons (show (Fk.A n).loop (key Fk.b0) = some (.mk' Fk.l2_0.pat (Fk.l2_0.m n n) Fk.l2_0.resK) by kernel_rfl) (LoopS.of (res := Fk.l2_0.res) (fun R u K => by rcases u with u | u <;> rfl) Fk.l2_0.pat_shape fun t => Fk.l2_0.loop n n t)
  .nil)
  (nj rfl) (by decide) (fun _ => rfl) rfl (fun _ => by show 2 ≤ Tryd.f52.ntmps; decide) (fun _ => Fk.run)
theorem Fe.run : runS (Fe.C n) (Fe.A n) n Tryd.f37 (Fe.shape t) = (Fe.m n t).map Fe.res :=
  (show _ = Fe.g (fun a0 => Fe.res a0) n t.1 t.2 from by kernel_rfl).trans (by
    unfold Fe.m Fe.g
    exact (bindO_map fun r2 => rfl))
theorem Fe.s (hmix : HM) (n : Nat) : CalleeS Tryd.prog kecG 37 (Fe.c n) :=
  .mkF (res := Fe.res) (shape := Fe.shape) (C := Fe.C n) (A := Fe.A n) (fun R u K => rfl) (fun _ _ _ h => by unfold Fe.pat at h; split at h <;> cases h; rfl) rfl (.cons (Fk.s hmix n) .nil) hmix Tryd.func37 (by kernel_rfl) (lp := []) (by kernel_rfl) .nil
  (nj rfl) (by decide) (fun _ => rfl) rfl (fun _ => by show 2 ≤ Tryd.f37.ntmps; decide) (fun _ => Fe.run)
theorem Fi.run : runS (Fi.C n) (Fi.A n) n Tryd.f54 (Fi.shape t) = (Fi.m n t).map Fi.res :=
  (show _ = Fi.g (fun a0 => Fi.res a0) n t.1 t.2.1 t.2.2.1 t.2.2.2.1 t.w.1 t.w.2.1 t.w.2.2 from by kernel_rfl).trans (by
    unfold Fi.m Fi.g
    exact (ite_map rfl rfl))
theorem Fi.s (hmix : HM) (n : Nat) : CalleeS Tryd.prog kecG 54 (Fi.c n) :=
  .mkF (res := Fi.res) (shape := Fi.shape) (C := Fi.C n) (A := Fi.A n) (fun R u K => rfl) (fun _ _ _ h => by unfold Fi.pat at h; split at h <;> cases h; rfl) rfl .nil hmix Tryd.func54 (by kernel_rfl) (lp := []) (by kernel_rfl) .nil
  (nj rfl) (by decide) (fun _ => rfl) rfl (fun _ => by show 1 ≤ Tryd.f54.ntmps; decide) (fun _ => Fi.run)
theorem Fas.run : runS (Fas.C n) (Fas.A n) n Tryd.f62 (Fas.shape t) = (Fas.m n t).map Fas.res :=
  (show _ = Fas.g (fun a0 => Fas.res a0) n t.1 t.2 from by kernel_rfl).trans (by
    unfold Fas.m Fas.g
    exact rfl)
theorem Fas.s (hmix : HM) (n : Nat) : CalleeS Tryd.prog kecG 62 (Fas.c n) :=
  .mkF (res := Fas.res) (shape := Fas.shape) (C := Fas.C n) (A := Fas.A n) (fun R u K => rfl) (fun _ _ _ h => by unfold Fas.pat at h; split at h <;> cases h; rfl) rfl .nil hmix Tryd.func62 (by kernel_rfl) (lp := []) (by kernel_rfl) .nil
  (nj rfl) (by decide) (fun _ => rfl) rfl (fun _ => by show 2 ≤ Tryd.f62.ntmps; decide) (fun _ => Fas.run)
theorem Faf.run : runS (Faf.C n) (Faf.A n) n Tryd.f77 (Faf.shape t) = (Faf.m n t).map Faf.res :=
  (show _ = Faf.g (fun a0 => Faf.res a0) n t.1 t.2 from by kernel_rfl).trans (by
    unfold Faf.m Faf.g
    exact (ite_map (ite_map (bindO_map fun r6 => rfl) rfl) rfl))
theorem Faf.s (hmix : HM) (n : Nat) : CalleeS Tryd.prog kecG 77 (Faf.c n) :=
  .mkF (res := Faf.res) (shape := Faf.shape) (C := Faf.C n) (A := Faf.A n) (fun R u K => rfl) (fun _ _ _ h => by unfold Faf.pat at h; split at h <;> cases h; rfl) rfl (.cons (Fas.s hmix n) .nil) hmix Tryd.func77 (by kernel_rfl) (lp := []) (by kernel_rfl) .nil
  (nj rfl) (by decide) (fun _ => rfl) rfl (fun _ => by show 2 ≤ Tryd.f77.ntmps; decide) (fun _ => Faf.run)
theorem Fba.ok (hmix : HM) (n : Nat) (t) (u) (h : Fba.m n t = some u) : FnOK Tryd.prog kecG 66 (Fba.shape t).1 (Fba.shape t).2 (Fba.res u).1 (Fba.res u).2 :=
  xSub64_ok Tryd.func66 (by kernel_rfl) (by kernel_rfl) (by kernel_rfl) (show Go.Extern.find Tryd.f66 = some sub64Entry by kernel_rfl) t u h
theorem Fba.s (hmix : HM) (n : Nat) : CalleeS Tryd.prog kecG 66 (Fba.c n) :=
  CalleeS.of (res := Fba.res) (shape := Fba.shape) (fun R u K => rfl) (fun args lent t h => by
    unfold Fba.pat at h
    split at h
    · cases h; rfl
    · cases h) fun t u h => Fba.ok hmix n t u h
noncomputable abbrev Fbr.R0 (n : Nat) := roundOf (Fbr.C n) (Fbr.A n) n Fbr.b0
def Fbr.l4_0.T {α : Type} (mk0 : Int → LI → LI → α) (n : Nat) (f : (Int × (Int × (LI × (LI × (LI × LI))))) → Option α) (t : (Int × (Int × (LI × (LI × (LI × LI)))))) : Option α := Fbr.l4_0.r mk0 n (fun y0 y1 y2 y3 y4 y5 => f (y0, y1, y2, y3, y4, y5)) t.1 t.2.1 t.2.2.1 t.2.2.2.1 t.w.1 t.w.2
theorem Fbr.l4_0.rmap : (Fbr.l4_0.T (fun a0 a1 a2 => (a0, a1, a2)) n f t).map Fbr.l4_0.res = Fbr.l4_0.T (fun a0 a1 a2 => Fbr.l4_0.res (a0, a1, a2)) n (fun y => (f y).map Fbr.l4_0.res) t := by
  unfold Fbr.l4_0.T Fbr.l4_0.r
  exact Eq.symm (ite_map (ite_map (ite_map (ite_map (ite_map (bindO_map fun r14 => (ite_map (ite_map rfl rfl) rfl)) rfl) rfl) rfl) rfl) rfl)
theorem Fbr.l4_0.pat_shape : ∀ st t, Fbr.l4_0.pat st = some t → st = Fbr.l4_0.shape t := fun _ _ h => by unfold Fbr.l4_0.pat at h; split at h <;> cases h; rfl
theorem Fbr.l4_0.round : Fbr.R0 n rc (Fbr.l4_0.shape t) = Fbr.l4_0.T (fun a0 a1 a2 => Fbr.l4_0.res (a0, a1, a2)) n (fun y => rc (Fbr.l4_0.shape y)) t := by kernel_rfl
theorem Fbr.l4_0.loop (n m : Nat) (t : (Int × (Int × (LI × (LI × (LI × LI)))))) : loopOf (Fbr.R0 n) m (Fbr.l4_0.shape t) = (Fbr.l4_0.m n m t).map Fbr.l4_0.res :=
  loop_map (fun _ _ => Fbr.l4_0.rmap) (fun _ _ => Fbr.l4_0.round) (fun _ => rfl) (fun _ _ => by kernel_rfl) m t
theorem Fbr.run : runS (Fbr.C n) (Fbr.A n) n Tryd.f46 (Fbr.shape t) = (Fbr.m n t).map Fbr.res :=
  (show _ = Fbr.g (fun a0 a1 => Fbr.res (a0, a1)) n t.1 t.2 from by kernel_rfl).trans (by
    unfold Fbr.m Fbr.g
    exact (bindO_map fun r2 => rfl))
theorem Fbr.s (hmix : HM) (n : Nat) : CalleeS Tryd.prog kecG 46 (Fbr.c n) :=
  .mkF (res := Fbr.res) (shape := Fbr.shape) (C := Fbr.C n) (A := Fbr.A n) (fun R u K => rfl) (fun _ _ _ h => by unfold Fbr.pat at h; split at h <;> cases h; rfl) rfl (.cons (Fba.s hmix n) .nil) hmix Tryd.func46 (by kernel_rfl) (lp := [Fbr.b0]) (by kernel_rfl) (.cons (show (Fbr.A n).loop (key Fbr.b0) = some (.mk' Fbr.l4_0.pat (Fbr.l4_0.m n n) (resKl Fbr.l4_0.res)) by kernel_rfl) (LoopS.of (res := Fbr.l4_0.res) (fun R u K => rfl) Fbr.l4_0.pat_shape fun t => Fbr.l4_0.loop n n t)
  .nil)
  (nj rfl) (by decide) (fun _ => rfl) rfl (fun _ => by show 2 ≤ Tryd.f46.ntmps; decide) (fun _ => Fbr.run)
theorem Faz.run : runS (Faz.C n) (Faz.A n) n Tryd.f56 (Faz.shape t) = (Faz.m n t).map Faz.res :=
  (show _ = Faz.g (fun a0 a1 => Faz.res (a0, a1)) n t from by kernel_rfl).trans (by
    unfold Faz.m Faz.g
    exact (ite_map rfl rfl))
theorem Faz.s (hmix : HM) (n : Nat) : CalleeS Tryd.prog kecG 56 (Faz.c n) :=
  .mkF (res := Faz.res) (shape := Faz.shape) (C := Faz.C n) (A := Faz.A n) (fun R u K => rfl) (fun _ _ _ h => by unfold Faz.pat at h; split at h <;> cases h; rfl) rfl .nil hmix Tryd.func56 (by kernel_rfl) (lp := []) (by kernel_rfl) .nil
  (nj rfl) (by decide) (fun _ => rfl) rfl (fun _ => by show 1 ≤ Tryd.f56.ntmps; decide) (fun _ => Faz.run)
theorem Fag.run : runS (Fag.C n) (Fag.A n) n Tryd.f76 (Fag.shape t) = (Fag.m n t).map Fag.res :=
  (show _ = Fag.g (fun a0 => Fag.res a0) n t.1 t.2.1 t.2.2.1 t.2.2.2.1 t.w.1 t.w.2.1 t.w.2.2.1 t.w.2.2.2.1 t.x from by kernel_rfl).trans (by
    unfold Fag.m Fag.g
    exact (ite_map rfl (ite_map rfl (bindO_map fun r6 => (ite_map rfl (bindO_map fun r10 => (bindO_map fun r12 => (ite_map rfl rfl))))))))
theorem Fag.s (hmix : HM) (n : Nat) : CalleeS Tryd.prog kecG 76 (Fag.c n) :=
  .mkF (res := Fag.res) (shape := Fag.shape) (C := Fag.C n) (A := Fag.A n) (fun R u K => rfl) (fun _ _ _ h => by unfold Fag.pat at h; split at h <;> cases h; rfl) rfl (.cons (Faf.s hmix n) (.cons (Fbr.s hmix n) (.cons (Faz.s hmix n) .nil))) hmix Tryd.func76 (by kernel_rfl) (lp := []) (by kernel_rfl) .nil
  (nj rfl) (by decide) (fun _ => rfl) rfl (fun _ => by show 3 ≤ Tryd.f76.ntmps; decide) (fun _ => Fag.run)
noncomputable abbrev Fc.R0 (n : Nat) := roundOf (Fc.C n) (Fc.A n) n Fc.b0
def Fc.l2_0.T {α : Type} (mk0 : Int → α) (mk1 : α) (n : Nat) (f : (Int × (Int × LA)) → Option α) (t : (Int × (Int × LA))) : Option α := Fc.l2_0.r mk0 mk1 n (fun y0 y1 y2 => f (y0, y1, y2)) t.1 t.2.1 t.2.2
theorem Fc.l2_0.rmap : (Fc.l2_0.T (fun a0 => (.inl a0)) (.inr ()) n f t).map Fc.l2_0.res = Fc.l2_0.T (fun a0 => Fc.l2_0.res (.inl a0)) (Fc.l2_0.res (.inr ())) n (fun y => (f y).map Fc.l2_0.res) t := by
  unfold Fc.l2_0.T Fc.l2_0.r
  exact Eq.symm (ite_map (ite_map (ite_map (bindO_map fun r10 => (bindO_map fun r12 => (bindO_map fun r14 => (bindO_map fun r16 => (bindO_map fun r18 => (bindO_map fun r20 => (bindO_map fun r22 => (bindO_map fun r24 => (bindO_map fun r26 => (ite_map rfl rfl)))))))))) rfl) rfl) rfl)
theorem Fc.l2_0.pat_shape : ∀ st t, Fc.l2_0.pat st = some t → st = Fc.l2_0.shape t := fun _ _ h => by unfold Fc.l2_0.pat at h; split at h <;> cases h; rfl
theorem Fc.l2_0.round : Fc.R0 n rc (Fc.l2_0.shape t) = Fc.l2_0.T (fun a0 => Fc.l2_0.res (.inl a0)) (Fc.l2_0.res (.inr ())) n (fun y => rc (Fc.l2_0.shape y)) t := by kernel_rfl
theorem Fc.l2_0.loop (n m : Nat) (t : (Int × (Int × LA))) : loopOf (Fc.R0 n) m (Fc.l2_0.shape t) = (Fc.l2_0.m n m t).map Fc.l2_0.res :=
  loop_map (fun _ _ => Fc.l2_0.rmap) (fun _ _ => Fc.l2_0.round) (fun _ => rfl) (fun _ _ => by kernel_rfl) m t
theorem Fc.run : runS (Fc.C n) (Fc.A n) n Tryd.f53 (Fc.shape t) = (Fc.m n t).map Fc.res :=
  (show _ = Fc.g (fun a0 => Fc.res a0) n t from by kernel_rfl).trans (by
    unfold Fc.m Fc.g
    exact (bindO_map fun r2 => match r2 with | (.inl r2) => rfl | (.inr r2) => rfl))
theorem Fc.s (hmix : HM) (n : Nat) : CalleeS Tryd.prog kecG 53 (Fc.c n) :=
  .mkF (res := Fc.res) (shape := Fc.shape) (C := Fc.C n) (A := Fc.A n) (fun R u K => rfl) (fun _ _ _ h => by unfold Fc.pat at h; split at h <;> cases h; rfl) rfl (.cons (Fi.s hmix n) (.cons (Fag.s hmix n) .nil)) hmix Tryd.func53 (by kernel_rfl) (lp := [Fc.b0]) (by kernel_rfl) (.cons (show (Fc.A n).loop (key Fc.b0) = some (.mk' Fc.l2_0.pat (Fc.l2_0.m n n) Fc.l2_0.resK) by kernel_rfl) (LoopS.of (res := Fc.l2_0.res) (fun R u K => by rcases u with u | u <;> rfl) Fc.l2_0.pat_shape fun t => Fc.l2_0.loop n n t)
  .nil)
  (nj rfl) (by decide) (fun _ => rfl) rfl (fun _ => by show 2 ≤ Tryd.f53.ntmps; decide) (fun _ => Fc.run)
noncomputable abbrev Fd.R0 (n : Nat) := roundOf (Fd.C n) (Fd.A n) n Fd.b0
def Fd.l2_0.T {α : Type} (mk0 : Int → α) (mk1 : α) (n : Nat) (f : (Int × (Int × (LI × (LI × LA)))) → Option α) (t : (Int × (Int × (LI × (LI × LA))))) : Option α := Fd.l2_0.r mk0 mk1 n (fun y0 y1 y2 y3 y4 => f (y0, y1, y2, y3, y4)) t.1 t.2.1 t.2.2.1 t.2.2.2.1 t.w
theorem Fd.l2_0.rmap : (Fd.l2_0.T (fun a0 => (.inl a0)) (.inr ()) n f t).map Fd.l2_0.res = Fd.l2_0.T (fun a0 => Fd.l2_0.res (.inl a0)) (Fd.l2_0.res (.inr ())) n (fun y => (f y).map Fd.l2_0.res) t := by
  unfold Fd.l2_0.T Fd.l2_0.r
  exact Eq.symm (ite_map (ite_map (ite_map (bindO_map fun r10 => (bindO_map fun r12 => (bindO_map fun r14 => (bindO_map fun r16 => (bindO_map fun r18 => (bindO_map fun r20 => (bindO_map fun r22 => (bindO_map fun r24 => (bindO_map fun r26 => (ite_map rfl rfl)))))))))) rfl) rfl) rfl)
theorem Fd.l2_0.pat_shape : ∀ st t, Fd.l2_0.pat st = some t → st = Fd.l2_0.shape t := fun _ _ h => by unfold Fd.l2_0.pat at h; split at h <;> cases h; rfl
theorem Fd.l2_0.round : Fd.R0 n rc (Fd.l2_0.shape t) = Fd.l2_0.T (fun a0 => Fd.l2_0.res (.inl a0)) (Fd.l2_0.res (.inr ())) n (fun y => rc (Fd.l2_0.shape y)) t := by kernel_rfl
theorem Fd.l2_0.loop (n m : Nat) (t : (Int × (Int × (LI × (LI × LA))))) : loopOf (Fd.R0 n) m (Fd.l2_0.shape t) = (Fd.l2_0.m n m t).map Fd.l2_0.res :=
  loop_map (fun _ _ => Fd.l2_0.rmap) (fun _ _ => Fd.l2_0.round) (fun _ => rfl) (fun _ _ => by kernel_rfl) m t
theorem Fd.run : runS (Fd.C n) (Fd.A n) n Tryd.f53 (Fd.shape t) = (Fd.m n t).map Fd.res :=
  (show _ = Fd.g (fun a0 => Fd.res a0) n t.1 t.2.1 t.2.2 from by kernel_rfl).trans (by
    unfold Fd.m Fd.g
    exact (bindO_map fun r2 => match r2 with | (.inl r2) => rfl | (.inr r2) => rfl))
theorem Fd.s (hmix : HM) (n : Nat) : CalleeS Tryd.prog kecG 53 (Fd.c n) :=
  .mkF (res := Fd.res) (shape := Fd.shape) (C := Fd.C n) (A := Fd.A n) (fun R u K => rfl) (fun _ _ _ h => by unfold Fd.pat at h; split at h <;> cases h; rfl) rfl (.cons (Fi.s hmix n) (.cons (Fag.s hmix n) .nil)) hmix Tryd.func53 (by kernel_rfl) (lp := [Fd.b0]) (by kernel_rfl) (.cons (show (Fd.A n).loop (key Fd.b0) = some (.mk' Fd.l2_0.pat (Fd.l2_0.m n n) Fd.l2_0.resK) by kernel_rfl) (LoopS.of (res := Fd.l2_0.res) (fun R u K => by rcases u with u | u <;> rfl) Fd.l2_0.pat_shape fun t => Fd.l2_0.loop n n t)
  .nil)
  (nj rfl) (by decide) (fun _ => rfl) rfl (fun _ => by show 2 ≤ Tryd.f53.ntmps; decide) (fun _ => Fd.run)
section
theorem zslicesIndexFuncquaestorapiEventquaestorapiEvent.s (hmix : Tryd.prog.follows .mixedOrders = true) (n : Nat) : CalleeS Tryd.prog kecG 53 (zslicesIndexFuncquaestorapiEventquaestorapiEvent.c n) := .pick (Fc.s hmix n) (Fd.s hmix n)
end
noncomputable abbrev Fay.R0 (n : Nat) := roundOf (Fay.C n) (Fay.A n) n Fay.b0
def Fay.l3_0.T {α : Type} (mk0 : LI → α) (n : Nat) (f : (Int × (LI × LI)) → Option α) (t : (Int × (LI × LI))) : Option α := Fay.l3_0.r mk0 n (fun y0 y1 y2 => f (y0, y1, y2)) t.1 t.2.1 t.2.2
theorem Fay.l3_0.rmap : (Fay.l3_0.T (fun a0 => a0) n f t).map Fay.l3_0.res = Fay.l3_0.T (fun a0 => Fay.l3_0.res a0) n (fun y => (f y).map Fay.l3_0.res) t := by
  unfold Fay.l3_0.T Fay.l3_0.r
  exact Eq.symm (ite_map (ite_map (ite_map (ite_map (ite_map (ite_map rfl rfl) rfl) rfl) rfl) rfl) rfl)
theorem Fay.l3_0.pat_shape : ∀ st t, Fay.l3_0.pat st = some t → st = Fay.l3_0.shape t := fun _ _ h => by unfold Fay.l3_0.pat at h; split at h <;> cases h; rfl
theorem Fay.l3_0.round : Fay.R0 n rc (Fay.l3_0.shape t) = Fay.l3_0.T (fun a0 => Fay.l3_0.res a0) n (fun y => rc (Fay.l3_0.shape y)) t := by kernel_rfl
theorem Fay.l3_0.loop (n m : Nat) (t : (Int × (LI × LI))) : loopOf (Fay.R0 n) m (Fay.l3_0.shape t) = (Fay.l3_0.m n m t).map Fay.l3_0.res :=
  loop_map (fun _ _ => Fay.l3_0.rmap) (fun _ _ => Fay.l3_0.round) (fun _ => rfl) (fun _ _ => by kernel_rfl) m t
theorem Fay.run : runS (Fay.C n) (Fay.A n) n Tryd.f73 (Fay.shape t) = (Fay.m n t).map Fay.res :=
  (show _ = Fay.g (fun a0 => Fay.res a0) n t from by kernel_rfl).trans (by
    unfold Fay.m Fay.g
    exact (bindO_map fun r2 => rfl))
theorem Fay.s (hmix : HM) (n : Nat) : CalleeS Tryd.prog kecG 73 (Fay.c n) :=
  .mkF (res := Fay.res) (shape := Fay.shape) (C := Fay.C n) (A := Fay.A n) (fun R u K => rfl) (fun _ _ _ h => by unfold Fay.pat at h; split at h <;> cases h; rfl) rfl .nil hmix Tryd.func73 (by kernel_rfl) (lp := [Fay.b0]) (by kernel_rfl) (.cons (show (Fay.A n).loop (key Fay.b0) = some (.mk' Fay.l3_0.pat (Fay.l3_0.m n n) (resKl Fay.l3_0.res)) by kernel_rfl) (LoopS.of (res := Fay.l3_0.res) (fun R u K => rfl) Fay.l3_0.pat_shape fun t => Fay.l3_0.loop n n t)
  .nil)
  (nj rfl) (by decide) (fun _ => rfl) rfl (fun _ => by show 1 ≤ Tryd.f73.ntmps; decide) (fun _ => Fay.run)
theorem Fbf.run : runS (Fbf.C n) (Fbf.A n) n Tryd.f71 (Fbf.shape t) = (Fbf.m n t).map Fbf.res :=
  (show _ = Fbf.g (fun a0 => Fbf.res a0) n t from by kernel_rfl).trans (by
    unfold Fbf.m Fbf.g
    exact (bindO_map fun r2 => (ite_map (ite_map rfl rfl) rfl)))
theorem Fbf.s (hmix : HM) (n : Nat) : CalleeS Tryd.prog kecG 71 (Fbf.c n) :=
  .mkF (res := Fbf.res) (shape := Fbf.shape) (C := Fbf.C n) (A := Fbf.A n) (fun R u K => rfl) (fun _ _ _ h => by unfold Fbf.pat at h; split at h <;> cases h; rfl) rfl (.cons (Fay.s hmix n) .nil) hmix Tryd.func71 (by kernel_rfl) (lp := []) (by kernel_rfl) .nil
  (nj rfl) (by decide) (fun _ => rfl) rfl (fun _ => by show 1 ≤ Tryd.f71.ntmps; decide) (fun _ => Fbf.run)
theorem Ft.run : runS (Ft.C n) (Ft.A n) n Tryd.f55 (Ft.shape t) = (Ft.m n t).map Ft.res :=
  (show _ = Ft.g (fun a0 => Ft.res a0) n t.1 t.2.1 t.2.2.1 t.2.2.2.1 t.w.1 t.w.2.1 t.w.2.2.1 t.w.2.2.2.1 t.x.1 t.x.2.1 t.x.2.2.1 t.x.2.2.2.1 t.x.w.1 t.x.w.2.1 t.x.w.2.2.1 t.x.w.2.2.2.1 t.y.1 t.y.2.1 t.y.2.2.1 t.y.2.2.2.1 t.y.w.1 t.y.w.2.1 t.y.w.2.2.1 t.y.w.2.2.2.1 t.y.x.1 t.y.x.2.1 t.y.x.2.2.1 t.y.x.2.2.2.1 t.y.x.w.1 t.y.x.w.2.1 t.y.x.w.2.2.1 t.y.x.w.2.2.2.1 t.y.y from by kernel_rfl).trans (by
    unfold Ft.m Ft.g
    exact (bindO_map fun r2 => rfl))
theorem Ft.s (hmix : HM) (n : Nat) : CalleeS Tryd.prog kecG 55 (Ft.c n) :=
  .mkF (res := Ft.res) (shape := Ft.shape) (C := Ft.C n) (A := Ft.A n) (fun R u K => rfl) (fun _ _ _ h => by unfold Ft.pat at h; split at h <;> cases h; rfl) rfl (.cons (Fbf.s hmix n) .nil) hmix Tryd.func55 (by kernel_rfl) (lp := []) (by kernel_rfl) .nil
  (nj rfl) (by decide) (fun _ => rfl) rfl (fun _ => by show 1 ≤ Tryd.f55.ntmps; decide) (fun _ => Ft.run)
theorem Fu.run : runS (Fu.C n) (Fu.A n) n Tryd.f38 (Fu.shape t) = (Fu.m n t).map Fu.res :=
  (show _ = Fu.g (fun a0 => Fu.res a0) n t.1 t.2.1 t.2.2.1 t.2.2.2.1 t.w.1 t.w.2.1 t.w.2.2.1 t.w.2.2.2.1 t.x.1 t.x.2.1 t.x.2.2.1 t.x.2.2.2.1 t.x.w.1 t.x.w.2.1 t.x.w.2.2.1 t.x.w.2.2.2.1 t.y.1 t.y.2.1 t.y.2.2.1 t.y.2.2.2.1 t.y.w.1 t.y.w.2.1 t.y.w.2.2.1 t.y.w.2.2.2.1 t.y.x.1 t.y.x.2.1 t.y.x.2.2.1 t.y.x.2.2.2.1 t.y.x.w.1 t.y.x.w.2.1 t.y.x.w.2.2.1 t.y.x.w.2.2.2.1 t.y.y from by kernel_rfl).trans (by
    unfold Fu.m Fu.g
    exact (ite_map (ite_map rfl (bindO_map fun r6 => (ite_map rfl (ite_map rfl (bindO_map fun r12 => rfl))))) (bindO_map fun r4 => (ite_map rfl (ite_map rfl (bindO_map fun r10 => rfl))))))
theorem Fu.s (hmix : HM) (n : Nat) : CalleeS Tryd.prog kecG 38 (Fu.c n) :=
  .mkF (res := Fu.res) (shape := Fu.shape) (C := Fu.C n) (A := Fu.A n) (fun R u K => rfl) (fun _ _ _ h => by unfold Fu.pat at h; split at h <;> cases h; rfl) rfl (.cons (zslicesIndexFuncquaestorapiEventquaestorapiEvent.s hmix n) (.cons (Fi.s hmix n) (.cons (Ft.s hmix n) .nil))) hmix Tryd.func38 (by kernel_rfl) (lp := []) (by kernel_rfl) .nil
  (nj rfl) (by decide) (fun _ => rfl) rfl (fun _ => by show 1 ≤ Tryd.f38.ntmps; decide) (fun _ => Fu.run)
noncomputable abbrev Fbg.R0 (n : Nat) := roundOf (Fbg.C n) (Fbg.A n) n Fbg.b0
def Fbg.l4_0.T {α : Type} (mk0 : LI → LI → α) (n : Nat) (f : (Int × (Int × (LI × (LI × LI)))) → Option α) (t : (Int × (Int × (LI × (LI × LI))))) : Option α := Fbg.l4_0.r mk0 n (fun y0 y1 y2 y3 y4 => f (y0, y1, y2, y3, y4)) t.1 t.2.1 t.2.2.1 t.2.2.2.1 t.w
theorem Fbg.l4_0.rmap : (Fbg.l4_0.T (fun a0 a1 => (a0, a1)) n f t).map Fbg.l4_0.res = Fbg.l4_0.T (fun a0 a1 => Fbg.l4_0.res (a0, a1)) n (fun y => (f y).map Fbg.l4_0.res) t := by
  unfold Fbg.l4_0.T Fbg.l4_0.r
  exact Eq.symm (ite_map (ite_map (ite_map (ite_map (ite_map (ite_map (ite_map (ite_map rfl rfl) rfl) rfl) rfl) rfl) rfl) rfl) rfl)
theorem Fbg.l4_0.pat_shape : ∀ st t, Fbg.l4_0.pat st = some t → st = Fbg.l4_0.shape t := fun _ _ h => by unfold Fbg.l4_0.pat at h; split at h <;> cases h; rfl
theorem Fbg.l4_0.round : Fbg.R0 n rc (Fbg.l4_0.shape t) = Fbg.l4_0.T (fun a0 a1 => Fbg.l4_0.res (a0, a1)) n (fun y => rc (Fbg.l4_0.shape y)) t := by kernel_rfl
theorem Fbg.l4_0.loop (n m : Nat) (t : (Int × (Int × (LI × (LI × LI))))) : loopOf (Fbg.R0 n) m (Fbg.l4_0.shape t) = (Fbg.l4_0.m n m t).map Fbg.l4_0.res :=
  loop_map (fun _ _ => Fbg.l4_0.rmap) (fun _ _ => Fbg.l4_0.round) (fun _ => rfl) (fun _ _ => by kernel_rfl) m t
theorem Fbg.run : runS (Fbg.C n) (Fbg.A n) n Tryd.f72 (Fbg.shape t) = (Fbg.m n t).map Fbg.res :=
  (show _ = Fbg.g (fun a0 => Fbg.res a0) n t from by kernel_rfl).trans (by
    unfold Fbg.m Fbg.g
    exact (ite_map (ite_map (bindO_map fun r6 => rfl) rfl) rfl))
theorem Fbg.s (hmix : HM) (n : Nat) : CalleeS Tryd.prog kecG 72 (Fbg.c n) :=
  .mkF (res := Fbg.res) (shape := Fbg.shape) (C := Fbg.C n) (A := Fbg.A n) (fun R u K => rfl) (fun _ _ _ h => by unfold Fbg.pat at h; split at h <;> cases h; rfl) rfl .nil hmix Tryd.func72 (by kernel_rfl) (lp := [Fbg.b0]) (by kernel_rfl) (.cons (show (Fbg.A n).loop (key Fbg.b0) = some (.mk' Fbg.l4_0.pat (Fbg.l4_0.m n n) (resKl Fbg.l4_0.res)) by kernel_rfl) (LoopS.of (res := Fbg.l4_0.res) (fun R u K => rfl) Fbg.l4_0.pat_shape fun t => Fbg.l4_0.loop n n t)
  .nil)
  (nj rfl) (by decide) (fun _ => rfl) rfl (fun _ => by show 1 ≤ Tryd.f72.ntmps; decide) (fun _ => Fbg.run)
theorem Fbh.run : runS (Fbh.C n) (Fbh.A n) n Tryd.f57 (Fbh.shape t) = (Fbh.m n t).map Fbh.res :=
  (show _ = Fbh.g (fun a0 => Fbh.res a0) n t from by kernel_rfl).trans (by
    unfold Fbh.m Fbh.g
    exact (bindO_map fun r2 => rfl))
theorem Fbh.s (hmix : HM) (n : Nat) : CalleeS Tryd.prog kecG 57 (Fbh.c n) :=
  .mkF (res := Fbh.res) (shape := Fbh.shape) (C := Fbh.C n) (A := Fbh.A n) (fun R u K => rfl) (fun _ _ _ h => by unfold Fbh.pat at h; split at h <;> cases h; rfl) rfl (.cons (Fbg.s hmix n) .nil) hmix Tryd.func57 (by kernel_rfl) (lp := []) (by kernel_rfl) .nil
  (nj rfl) (by decide) (fun _ => rfl) rfl (fun _ => by show 1 ≤ Tryd.f57.ntmps; decide) (fun _ => Fbh.run)
theorem Fv.run : runS (Fv.C n) (Fv.A n) n Tryd.f61 (Fv.shape t) = (Fv.m n t).map Fv.res :=
  (show _ = Fv.g (fun a0 => Fv.res a0) n t.1 t.2.1 t.2.2.1 t.2.2.2.1 t.w.1 t.w.2.1 t.w.2.2.1 t.w.2.2.2.1 t.x.1 t.x.2.1 t.x.2.2.1 t.x.2.2.2.1 t.x.w.1 t.x.w.2.1 t.x.w.2.2.1 t.x.w.2.2.2.1 t.y.1 t.y.2.1 t.y.2.2.1 t.y.2.2.2.1 t.y.w.1 t.y.w.2.1 t.y.w.2.2.1 t.y.w.2.2.2.1 t.y.x.1 t.y.x.2.1 t.y.x.2.2.1 t.y.x.2.2.2.1 t.y.x.w.1 t.y.x.w.2.1 t.y.x.w.2.2.1 t.y.x.w.2.2.2.1 t.y.y from by kernel_rfl).trans (by
    unfold Fv.m Fv.g
    exact (ite_map rfl (ite_map rfl (ite_map rfl (ite_map rfl rfl)))))
theorem Fv.s (hmix : HM) (n : Nat) : CalleeS Tryd.prog kecG 61 (Fv.c n) :=
  .mkF (res := Fv.res) (shape := Fv.shape) (C := Fv.C n) (A := Fv.A n) (fun R u K => rfl) (fun _ _ _ h => by unfold Fv.pat at h; split at h <;> cases h; rfl) rfl .nil hmix Tryd.func61 (by kernel_rfl) (lp := []) (by kernel_rfl) .nil
  (nj rfl) (by decide) (fun _ => rfl) rfl (fun _ => by show 1 ≤ Tryd.f61.ntmps; decide) (fun _ => Fv.run)
theorem Fw.run : runS (Fw.C n) (Fw.A n) n Tryd.f58 (Fw.shape t) = (Fw.m n t).map Fw.res :=
  (show _ = Fw.g (fun a0 => Fw.res a0) n t.1 t.2.1 t.2.2.1 t.2.2.2.1 t.w.1 t.w.2.1 t.w.2.2.1 t.w.2.2.2.1 t.x.1 t.x.2.1 t.x.2.2.1 t.x.2.2.2.1 t.x.w.1 t.x.w.2.1 t.x.w.2.2.1 t.x.w.2.2.2.1 t.y.1 t.y.2.1 t.y.2.2.1 t.y.2.2.2.1 t.y.w.1 t.y.w.2.1 t.y.w.2.2.1 t.y.w.2.2.2.1 t.y.x.1 t.y.x.2.1 t.y.x.2.2.1 t.y.x.2.2.2.1 t.y.x.w.1 t.y.x.w.2.1 t.y.x.w.2.2.1 t.y.x.w.2.2.2.1 t.y.y from by kernel_rfl).trans (by
    unfold Fw.m Fw.g
    exact (ite_map rfl (ite_map rfl (ite_map rfl (bindO_map fun r8 => rfl)))))
theorem Fw.s (hmix : HM) (n : Nat) : CalleeS Tryd.prog kecG 58 (Fw.c n) :=
  .mkF (res := Fw.res) (shape := Fw.shape) (C := Fw.C n) (A := Fw.A n) (fun R u K => rfl) (fun _ _ _ h => by unfold Fw.pat at h; split at h <;> cases h; rfl) rfl (.cons (Fv.s hmix n) .nil) hmix Tryd.func58 (by kernel_rfl) (lp := []) (by kernel_rfl) .nil
  (nj rfl) (by decide) (fun _ => rfl) rfl (fun _ => by show 1 ≤ Tryd.f58.ntmps; decide) (fun _ => Fw.run)
theorem Fbi.run : runS (Fbi.C n) (Fbi.A n) n Tryd.f44 (Fbi.shape t) = (Fbi.m n t).map Fbi.res :=
  (show _ = Fbi.g (fun a0 => Fbi.res a0) n  from by kernel_rfl).trans (by
    unfold Fbi.m Fbi.g
    exact rfl)
theorem Fbi.s (hmix : HM) (n : Nat) : CalleeS Tryd.prog kecG 44 (Fbi.c n) :=
  .mkF (res := Fbi.res) (shape := Fbi.shape) (C := Fbi.C n) (A := Fbi.A n) (fun R u K => rfl) (fun _ _ _ h => by unfold Fbi.pat at h; split at h <;> cases h; rfl) rfl .nil hmix Tryd.func44 (by kernel_rfl) (lp := []) (by kernel_rfl) .nil
  (nj rfl) (by decide) (fun _ => rfl) rfl (fun _ => by show 0 ≤ Tryd.f44.ntmps; decide) (fun _ => Fbi.run)
theorem Fl.run : runS (Fl.C n) (Fl.A n) n Tryd.f59 (Fl.shape t) = (Fl.m n t).map Fl.res :=
  (show _ = Fl.g (fun a0 => Fl.res a0) n t.1 t.2.1 t.2.2.1 t.2.2.2.1 t.w.1 t.w.2.1 t.w.2.2.1 t.w.2.2.2.1 t.x.1 t.x.2.1 t.x.2.2.1 t.x.2.2.2.1 t.x.w.1 t.x.w.2.1 t.x.w.2.2.1 t.x.w.2.2.2.1 t.y.1 t.y.2.1 t.y.2.2.1 t.y.2.2.2.1 t.y.w.1 t.y.w.2.1 t.y.w.2.2.1 t.y.w.2.2.2.1 t.y.x.1 t.y.x.2.1 t.y.x.2.2.1 t.y.x.2.2.2.1 t.y.x.w.1 t.y.x.w.2.1 t.y.x.w.2.2.1 t.y.x.w.2.2.2.1 t.y.y from by kernel_rfl).trans (by
    unfold Fl.m Fl.g
    exact (bindO_map fun r2 => (bindO_map fun r4 => rfl)))
theorem Fl.s (hmix : HM) (n : Nat) : CalleeS Tryd.prog kecG 59 (Fl.c n) :=
  .mkF (res := Fl.res) (shape := Fl.shape) (C := Fl.C n) (A := Fl.A n) (fun R u K => rfl) (fun _ _ _ h => by unfold Fl.pat at h; split at h <;> cases h; rfl) rfl (.cons (Ft.s hmix n) (.cons (Fbi.s hmix n) .nil)) hmix Tryd.func59 (by kernel_rfl) (lp := []) (by kernel_rfl) .nil
  (nj rfl) (by decide) (fun _ => rfl) rfl (fun _ => by show 1 ≤ Tryd.f59.ntmps; decide) (fun _ => Fl.run)
theorem Fac.run : runS (Fac.C n) (Fac.A n) n Tryd.f60 (Fac.shape t) = (Fac.m n t).map Fac.res :=
  (show _ = Fac.g (fun a0 => Fac.res a0) n t.1 t.2.1 t.2.2.1 t.2.2.2.1 t.w from by kernel_rfl).trans (by
    unfold Fac.m Fac.g
    exact (bindO_map fun r2 => (bindO_map fun r4 => (bindO_map fun r6 => (bindO_map fun r8 => (bindO_map fun r10 => rfl))))))
theorem Fac.s (hmix : HM) (n : Nat) : CalleeS Tryd.prog kecG 60 (Fac.c n) :=
  .mkF (res := Fac.res) (shape := Fac.shape) (C := Fac.C n) (A := Fac.A n) (fun R u K => rfl) (fun _ _ _ h => by unfold Fac.pat at h; split at h <;> cases h; rfl) rfl .nil hmix Tryd.func60 (by kernel_rfl) (lp := []) (by kernel_rfl) .nil
  (nj rfl) (by decide) (fun _ => rfl) rfl (fun _ => by show 2 ≤ Tryd.f60.ntmps; decide) (fun _ => Fac.run)
theorem Fx.run : runS (Fx.C n) (Fx.A n) n Tryd.f39 (Fx.shape t) = (Fx.m n t).map Fx.res :=
  (show _ = Fx.g (fun a0 => Fx.res a0) n t.1 t.2.1 t.2.2.1 t.2.2.2.1 t.w.1 t.w.2.1 t.w.2.2.1 t.w.2.2.2.1 t.x.1 t.x.2.1 t.x.2.2.1 t.x.2.2.2.1 t.x.w.1 t.x.w.2.1 t.x.w.2.2.1 t.x.w.2.2.2.1 t.y.1 t.y.2.1 t.y.2.2.1 t.y.2.2.2.1 t.y.w.1 t.y.w.2.1 t.y.w.2.2.1 t.y.w.2.2.2.1 t.y.x.1 t.y.x.2.1 t.y.x.2.2.1 t.y.x.2.2.2.1 t.y.x.w.1 t.y.x.w.2.1 t.y.x.w.2.2.1 t.y.x.w.2.2.2.1 t.y.y from by kernel_rfl).trans (by
    unfold Fx.m Fx.g
    exact (bindO_map fun r2 => (bindO_map fun r4 => (bindO_map fun r6 => (bindO_map fun r8 => (ite_map (bindO_map fun r12 => (ite_map (bindO_map fun r16 => (bindO_map fun r18 => (ite_map (ite_map (ite_map rfl rfl) rfl) rfl))) rfl)) rfl))))))
theorem Fx.s (hmix : HM) (n : Nat) : CalleeS Tryd.prog kecG 39 (Fx.c n) :=
  .mkF (res := Fx.res) (shape := Fx.shape) (C := Fx.C n) (A := Fx.A n) (fun R u K => rfl) (fun _ _ _ h => by unfold Fx.pat at h; split at h <;> cases h; rfl) rfl (.cons (Ft.s hmix n) (.cons (Fbh.s hmix n) (.cons (Faz.s hmix n) (.cons (Fw.s hmix n) (.cons (Fl.s hmix n) (.cons (Fac.s hmix n) .nil)))))) hmix Tryd.func39 (by kernel_rfl) (lp := []) (by kernel_rfl) .nil
  (nj rfl) (by decide) (fun _ => rfl) rfl (fun _ => by show 1 ≤ Tryd.f39.ntmps; decide) (fun _ => Fx.run)
theorem Fad.run : runS (Fad.C n) (Fad.A n) n Tryd.f40 (Fad.shape t) = (Fad.m n t).map Fad.res :=
  (show _ = Fad.g (fun a0 => Fad.res a0) n t.1 t.2.1 t.2.2.1 t.2.2.2.1 t.w.1 t.w.2.1 t.w.2.2.1 t.w.2.2.2.1 t.x.1 t.x.2.1 t.x.2.2.1 t.x.2.2.2.1 t.x.w.1 t.x.w.2.1 t.x.w.2.2.1 t.x.w.2.2.2.1 t.y.1 t.y.2.1 t.y.2.2.1 t.y.2.2.2.1 t.y.w.1 t.y.w.2.1 t.y.w.2.2.1 t.y.w.2.2.2.1 t.y.x.1 t.y.x.2.1 t.y.x.2.2.1 t.y.x.2.2.2.1 t.y.x.w.1 t.y.x.w.2.1 t.y.x.w.2.2.1 t.y.x.w.2.2.2.1 t.y.y from by kernel_rfl).trans (by
    unfold Fad.m Fad.g
    exact (ite_map (ite_map (bindO_map fun r6 => rfl) rfl) (ite_map (ite_map (bindO_map fun r8 => rfl) rfl) rfl)))
theorem Fad.s (hmix : HM) (n : Nat) : CalleeS Tryd.prog kecG 40 (Fad.c n) :=
  .mkF (res := Fad.res) (shape := Fad.shape) (C := Fad.C n) (A := Fad.A n) (fun R u K => rfl) (fun _ _ _ h => by unfold Fad.pat at h; split at h <;> cases h; rfl) rfl (.cons (Fl.s hmix n) .nil) hmix Tryd.func40 (by kernel_rfl) (lp := []) (by kernel_rfl) .nil
  (nj rfl) (by decide) (fun _ => rfl) rfl (fun _ => by show 1 ≤ Tryd.f40.ntmps; decide) (fun _ => Fad.run)
theorem Fq.run : runS (Fq.C n) (Fq.A n) n Tryd.f94 (Fq.shape t) = (Fq.m n t).map Fq.res :=
  (show _ = Fq.g (fun a0 => Fq.res a0) n t.1 t.2 from by kernel_rfl).trans (by
    unfold Fq.m Fq.g
    exact (ite_map rfl rfl))
theorem Fq.s (hmix : HM) (n : Nat) : CalleeS Tryd.prog kecG 94 (Fq.c n) :=
  .mkF (res := Fq.res) (shape := Fq.shape) (C := Fq.C n) (A := Fq.A n) (fun R u K => rfl) (fun _ _ _ h => by unfold Fq.pat at h; split at h <;> cases h; rfl) rfl .nil hmix Tryd.func94 (by kernel_rfl) (lp := []) (by kernel_rfl) .nil
  (nj rfl) (by decide) (fun _ => rfl) rfl (fun _ => by show 2 ≤ Tryd.f94.ntmps; decide) (fun _ => Fq.run)
noncomputable abbrev Fh.R0 (n : Nat) := roundOf (Fh.C n) (Fh.A n) n Fh.b0
noncomputable abbrev Fh.R1 (n : Nat) := roundOf (Fh.C n) (Fh.A n) n Fh.b1
def Fh.l2_0.T {α : Type} (mk0 : LI → LI → α) (n : Nat) (f : (Int × (LI × LI)) → Option α) (t : (Int × (LI × LI))) : Option α := Fh.l2_0.r mk0 n (fun y0 y1 y2 => f (y0, y1, y2)) t.1 t.2.1 t.2.2
theorem Fh.l2_0.rmap : (Fh.l2_0.T (fun a0 a1 => (a0, a1)) n f t).map Fh.l2_0.res = Fh.l2_0.T (fun a0 a1 => Fh.l2_0.res (a0, a1)) n (fun y => (f y).map Fh.l2_0.res) t := by
  unfold Fh.l2_0.T Fh.l2_0.r
  exact Eq.symm (ite_map (ite_map (ite_map (ite_map (ite_map (ite_map (ite_map rfl rfl) rfl) rfl) rfl) rfl) rfl) rfl)
theorem Fh.l2_0.pat_shape : ∀ st t, Fh.l2_0.pat st = some t → st = Fh.l2_0.shape t := fun _ _ h => by unfold Fh.l2_0.pat at h; split at h <;> cases h; rfl
theorem Fh.l2_0.round : Fh.R0 n rc (Fh.l2_0.shape t) = Fh.l2_0.T (fun a0 a1 => Fh.l2_0.res (a0, a1)) n (fun y => rc (Fh.l2_0.shape y)) t := by kernel_rfl
theorem Fh.l2_0.loop (n m : Nat) (t : (Int × (LI × LI))) : loopOf (Fh.R0 n) m (Fh.l2_0.shape t) = (Fh.l2_0.m n m t).map Fh.l2_0.res :=
  loop_map (fun _ _ => Fh.l2_0.rmap) (fun _ _ => Fh.l2_0.round) (fun _ => rfl) (fun _ _ => by kernel_rfl) m t
def Fh.l7_0.T {α : Type} (mk0 : LI → α) (n : Nat) (f : (Int × (LI × LI)) → Option α) (t : (Int × (LI × LI))) : Option α := Fh.l7_0.r mk0 n (fun y0 y1 y2 => f (y0, y1, y2)) t.1 t.2.1 t.2.2
theorem Fh.l7_0.rmap : (Fh.l7_0.T (fun a0 => a0) n f t).map Fh.l7_0.res = Fh.l7_0.T (fun a0 => Fh.l7_0.res a0) n (fun y => (f y).map Fh.l7_0.res) t := by
  unfold Fh.l7_0.T Fh.l7_0.r
  exact Eq.symm (ite_map (ite_map (ite_map (ite_map (ite_map (ite_map (ite_map (bindO_map fun r18 => (ite_map (ite_map rfl rfl) rfl)) rfl) rfl) rfl) rfl) rfl) rfl) rfl)
theorem Fh.l7_0.pat_shape : ∀ st t, Fh.l7_0.pat st = some t → st = Fh.l7_0.shape t := fun _ _ h => by unfold Fh.l7_0.pat at h; split at h <;> cases h; rfl
theorem Fh.l7_0.round : Fh.R1 n rc (Fh.l7_0.shape t) = Fh.l7_0.T (fun a0 => Fh.l7_0.res a0) n (fun y => rc (Fh.l7_0.shape y)) t := by kernel_rfl
theorem Fh.l7_0.loop (n m : Nat) (t : (Int × (LI × LI))) : loopOf (Fh.R1 n) m (Fh.l7_0.shape t) = (Fh.l7_0.m n m t).map Fh.l7_0.res :=
  loop_map (fun _ _ => Fh.l7_0.rmap) (fun _ _ => Fh.l7_0.round) (fun _ => rfl) (fun _ _ => by kernel_rfl) m t
theorem Fh.run : runS (Fh.C n) (Fh.A n) n Tryd.f91 (Fh.shape t) = (Fh.m n t).map Fh.res :=
  (show _ = Fh.g (fun a0 => Fh.res a0) n t from by kernel_rfl).trans (by
    unfold Fh.m Fh.g
    exact (bindO_map fun r2 => (bindO_map fun r4 => rfl)))
theorem Fh.s (hmix : HM) (n : Nat) : CalleeS Tryd.prog kecG 91 (Fh.c n) :=
  .mkF (res := Fh.res) (shape := Fh.shape) (C := Fh.C n) (A := Fh.A n) (fun R u K => rfl) (fun _ _ _ h => by unfold Fh.pat at h; split at h <;> cases h; rfl) rfl (.cons (Fq.s hmix n) .nil) hmix Tryd.func91 (by kernel_rfl) (lp := [Fh.b0, Fh.b1]) (by kernel_rfl) (.cons (show (Fh.A n).loop (key Fh.b0) = some (.mk' Fh.l2_0.pat (Fh.l2_0.m n n) (resKl Fh.l2_0.res)) by kernel_rfl) (LoopS.of (res := Fh.l2_0.res) (fun R u K => rfl) Fh.l2_0.pat_shape fun t => Fh.l2_0.loop n n t)
  (.cons (show (Fh.A n).loop (key Fh.b1) = some (.mk' Fh.l7_0.pat (Fh.l7_0.m n n) (resKl Fh.l7_0.res)) by kernel_rfl) (LoopS.of (res := Fh.l7_0.res) (fun R u K => rfl) Fh.l7_0.pat_shape fun t => Fh.l7_0.loop n n t)
  .nil))
  (nj rfl) (by decide) (fun _ => rfl) rfl (fun _ => by show 1 ≤ Tryd.f91.ntmps; decide) (fun _ => Fh.run)
noncomputable abbrev Fr.R0 (n : Nat) := roundOf (Fr.C n) (Fr.A n) n Fr.b0
def Fr.l2_0.T {α : Type} (mk0 : LI → α) (n : Nat) (f : (Int × (Int × LI)) → Option α) (t : (Int × (Int × LI))) : Option α := Fr.l2_0.r mk0 n (fun y0 y1 y2 => f (y0, y1, y2)) t.1 t.2.1 t.2.2
theorem Fr.l2_0.rmap : (Fr.l2_0.T (fun a0 => a0) n f t).map Fr.l2_0.res = Fr.l2_0.T (fun a0 => Fr.l2_0.res a0) n (fun y => (f y).map Fr.l2_0.res) t := by
  unfold Fr.l2_0.T Fr.l2_0.r
  exact Eq.symm (ite_map (ite_map (ite_map (ite_map (ite_map (ite_map (ite_map (ite_map (ite_map (bindO_map fun r22 => (ite_map (ite_map rfl rfl) rfl)) rfl) rfl) rfl) rfl) rfl) rfl) rfl) rfl) rfl)
theorem Fr.l2_0.pat_shape : ∀ st t, Fr.l2_0.pat st = some t → st = Fr.l2_0.shape t := fun _ _ h => by unfold Fr.l2_0.pat at h; split at h <;> cases h; rfl
theorem Fr.l2_0.round : Fr.R0 n rc (Fr.l2_0.shape t) = Fr.l2_0.T (fun a0 => Fr.l2_0.res a0) n (fun y => rc (Fr.l2_0.shape y)) t := by kernel_rfl
theorem Fr.l2_0.loop (n m : Nat) (t : (Int × (Int × LI))) : loopOf (Fr.R0 n) m (Fr.l2_0.shape t) = (Fr.l2_0.m n m t).map Fr.l2_0.res :=
  loop_map (fun _ _ => Fr.l2_0.rmap) (fun _ _ => Fr.l2_0.round) (fun _ => rfl) (fun _ _ => by kernel_rfl) m t
theorem Fr.run : runS (Fr.C n) (Fr.A n) n Tryd.f92 (Fr.shape t) = (Fr.m n t).map Fr.res :=
  (show _ = Fr.g (fun a0 => Fr.res a0) n t from by kernel_rfl).trans (by
    unfold Fr.m Fr.g
    exact (bindO_map fun r2 => rfl))
theorem Fr.s (hmix : HM) (n : Nat) : CalleeS Tryd.prog kecG 92 (Fr.c n) :=
  .mkF (res := Fr.res) (shape := Fr.shape) (C := Fr.C n) (A := Fr.A n) (fun R u K => rfl) (fun _ _ _ h => by unfold Fr.pat at h; split at h <;> cases h; rfl) rfl (.cons (Fq.s hmix n) .nil) hmix Tryd.func92 (by kernel_rfl) (lp := [Fr.b0]) (by kernel_rfl) (.cons (show (Fr.A n).loop (key Fr.b0) = some (.mk' Fr.l2_0.pat (Fr.l2_0.m n n) (resKl Fr.l2_0.res)) by kernel_rfl) (LoopS.of (res := Fr.l2_0.res) (fun R u K => rfl) Fr.l2_0.pat_shape fun t => Fr.l2_0.loop n n t)
  .nil)
  (nj rfl) (by decide) (fun _ => rfl) rfl (fun _ => by show 1 ≤ Tryd.f92.ntmps; decide) (fun _ => Fr.run)
noncomputable abbrev Faa.R0 (n : Nat) := roundOf (Faa.C n) (Faa.A n) n Faa.b0
noncomputable abbrev Faa.R1 (n : Nat) := roundOf (Faa.C n) (Faa.A n) n Faa.b1
def Faa.l5_0.T {α : Type} (mk0 : Int → LI → α) (n : Nat) (f : (Int × (Int × (LI × LI))) → Option α) (t : (Int × (Int × (LI × LI)))) : Option α := Faa.l5_0.r mk0 n (fun y0 y1 y2 y3 => f (y0, y1, y2, y3)) t.1 t.2.1 t.2.2.1 t.2.2.2
theorem Faa.l5_0.rmap : (Faa.l5_0.T (fun a0 a1 => (a0, a1)) n f t).map Faa.l5_0.res = Faa.l5_0.T (fun a0 a1 => Faa.l5_0.res (a0, a1)) n (fun y => (f y).map Faa.l5_0.res) t := by
  unfold Faa.l5_0.T Faa.l5_0.r
  exact Eq.symm (ite_map (ite_map (ite_map (ite_map (ite_map (ite_map (ite_map (ite_map (ite_map rfl rfl) rfl) rfl) rfl) rfl) rfl) rfl) rfl) rfl)
theorem Faa.l5_0.pat_shape : ∀ st t, Faa.l5_0.pat st = some t → st = Faa.l5_0.shape t := fun _ _ h => by unfold Faa.l5_0.pat at h; split at h <;> cases h; rfl
theorem Faa.l5_0.round : Faa.R1 n rc (Faa.l5_0.shape t) = Faa.l5_0.T (fun a0 a1 => Faa.l5_0.res (a0, a1)) n (fun y => rc (Faa.l5_0.shape y)) t := by kernel_rfl
theorem Faa.l5_0.loop (n m : Nat) (t : (Int × (Int × (LI × LI)))) : loopOf (Faa.R1 n) m (Faa.l5_0.shape t) = (Faa.l5_0.m n m t).map Faa.l5_0.res :=
  loop_map (fun _ _ => Faa.l5_0.rmap) (fun _ _ => Faa.l5_0.round) (fun _ => rfl) (fun _ _ => by kernel_rfl) m t
def Faa.l1_0.T {α : Type} (mk0 : LI → α) (n : Nat) (f : (Int × LI) → Option α) (t : (Int × LI)) : Option α := Faa.l1_0.r mk0 n (fun y0 y1 => f (y0, y1)) t.1 t.2
theorem Faa.l1_0.rmap : (Faa.l1_0.T (fun a0 => a0) n f t).map Faa.l1_0.res = Faa.l1_0.T (fun a0 => Faa.l1_0.res a0) n (fun y => (f y).map Faa.l1_0.res) t := by
  unfold Faa.l1_0.T Faa.l1_0.r
  exact Eq.symm (ite_map (ite_map (ite_map (ite_map (ite_map (ite_map (bindO_map fun r16 => rfl) rfl) rfl) rfl) rfl) rfl) rfl)
theorem Faa.l1_0.pat_shape : ∀ st t, Faa.l1_0.pat st = some t → st = Faa.l1_0.shape t := fun _ _ h => by unfold Faa.l1_0.pat at h; split at h <;> cases h; rfl
theorem Faa.l1_0.round : Faa.R0 n rc (Faa.l1_0.shape t) = Faa.l1_0.T (fun a0 => Faa.l1_0.res a0) n (fun y => rc (Faa.l1_0.shape y)) t := by kernel_rfl
theorem Faa.l1_0.loop (n m : Nat) (t : (Int × LI)) : loopOf (Faa.R0 n) m (Faa.l1_0.shape t) = (Faa.l1_0.m n m t).map Faa.l1_0.res :=
  loop_map (fun _ _ => Faa.l1_0.rmap) (fun _ _ => Faa.l1_0.round) (fun _ => rfl) (fun _ _ => by kernel_rfl) m t
theorem Faa.run : runS (Faa.C n) (Faa.A n) n Tryd.f93 (Faa.shape t) = (Faa.m n t).map Faa.res :=
  (show _ = Faa.g (fun a0 => Faa.res a0) n t from by kernel_rfl).trans (by
    unfold Faa.m Faa.g
    exact (bindO_map fun r2 => rfl))
theorem Faa.s (hmix : HM) (n : Nat) : CalleeS Tryd.prog kecG 93 (Faa.c n) :=
  .mkF (res := Faa.res) (shape := Faa.shape) (C := Faa.C n) (A := Faa.A n) (fun R u K => rfl) (fun _ _ _ h => by unfold Faa.pat at h; split at h <;> cases h; rfl) rfl .nil hmix Tryd.func93 (by kernel_rfl) (lp := [Faa.b0, Faa.b1]) (by kernel_rfl) (.cons (show (Faa.A n).loop (key Faa.b0) = some (.mk' Faa.l1_0.pat (Faa.l1_0.m n n) (resKl Faa.l1_0.res)) by kernel_rfl) (LoopS.of (res := Faa.l1_0.res) (fun R u K => rfl) Faa.l1_0.pat_shape fun t => Faa.l1_0.loop n n t)
  (.cons (show (Faa.A n).loop (key Faa.b1) = some (.mk' Faa.l5_0.pat (Faa.l5_0.m n n) (resKl Faa.l5_0.res)) by kernel_rfl) (LoopS.of (res := Faa.l5_0.res) (fun R u K => rfl) Faa.l5_0.pat_shape fun t => Faa.l5_0.loop n n t)
  .nil))
  (nj rfl) (by decide) (fun _ => rfl) rfl (fun _ => by show 1 ≤ Tryd.f93.ntmps; decide) (fun _ => Faa.run)
noncomputable abbrev Fab.R0 (n : Nat) := roundOf (Fab.C n) (Fab.A n) n Fab.b0
def Fab.l1_0.T {α : Type} (mk0 : LI → α) (n : Nat) (f : (Int × LI) → Option α) (t : (Int × LI)) : Option α := Fab.l1_0.r mk0 n (fun y0 y1 => f (y0, y1)) t.1 t.2
theorem Fab.l1_0.rmap : (Fab.l1_0.T (fun a0 => a0) n f t).map Fab.l1_0.res = Fab.l1_0.T (fun a0 => Fab.l1_0.res a0) n (fun y => (f y).map Fab.l1_0.res) t := by
  unfold Fab.l1_0.T Fab.l1_0.r
  exact Eq.symm (ite_map (bindO_map fun r6 => (bindO_map fun r8 => (bindO_map fun r10 => (ite_map (ite_map rfl rfl) rfl)))) rfl)
theorem Fab.l1_0.pat_shape : ∀ st t, Fab.l1_0.pat st = some t → st = Fab.l1_0.shape t := fun _ _ h => by unfold Fab.l1_0.pat at h; split at h <;> cases h; rfl
theorem Fab.l1_0.round : Fab.R0 n rc (Fab.l1_0.shape t) = Fab.l1_0.T (fun a0 => Fab.l1_0.res a0) n (fun y => rc (Fab.l1_0.shape y)) t := by kernel_rfl
theorem Fab.l1_0.loop (n m : Nat) (t : (Int × LI)) : loopOf (Fab.R0 n) m (Fab.l1_0.shape t) = (Fab.l1_0.m n m t).map Fab.l1_0.res :=
  loop_map (fun _ _ => Fab.l1_0.rmap) (fun _ _ => Fab.l1_0.round) (fun _ => rfl) (fun _ _ => by kernel_rfl) m t
theorem Fab.run : runS (Fab.C n) (Fab.A n) n Tryd.f87 (Fab.shape t) = (Fab.m n t).map Fab.res :=
  (show _ = Fab.g (fun a0 => Fab.res a0) n t from by kernel_rfl).trans (by
    unfold Fab.m Fab.g
    exact (bindO_map fun r2 => rfl))
theorem Fab.s (hmix : HM) (n : Nat) : CalleeS Tryd.prog kecG 87 (Fab.c n) :=
  .mkF (res := Fab.res) (shape := Fab.shape) (C := Fab.C n) (A := Fab.A n) (fun R u K => rfl) (fun _ _ _ h => by unfold Fab.pat at h; split at h <;> cases h; rfl) rfl (.cons (Fh.s hmix n) (.cons (Fr.s hmix n) (.cons (Faa.s hmix n) .nil))) hmix Tryd.func87 (by kernel_rfl) (lp := [Fab.b0]) (by kernel_rfl) (.cons (show (Fab.A n).loop (key Fab.b0) = some (.mk' Fab.l1_0.pat (Fab.l1_0.m n n) (resKl Fab.l1_0.res)) by kernel_rfl) (LoopS.of (res := Fab.l1_0.res) (fun R u K => rfl) Fab.l1_0.pat_shape fun t => Fab.l1_0.loop n n t)
  .nil)
  (nj rfl) (by decide) (fun _ => rfl) rfl (fun _ => by show 1 ≤ Tryd.f87.ntmps; decide) (fun _ => Fab.run)
noncomputable abbrev Fs.R0 (n : Nat) := roundOf (Fs.C n) (Fs.A n) n Fs.b0
def Fs.l1_0.T {α : Type} (mk0 : LI → α) (n : Nat) (f : (Int × (Int × (LI × LI))) → Option α) (t : (Int × (Int × (LI × LI)))) : Option α := Fs.l1_0.r mk0 n (fun y0 y1 y2 y3 => f (y0, y1, y2, y3)) t.1 t.2.1 t.2.2.1 t.2.2.2
theorem Fs.l1_0.rmap : (Fs.l1_0.T (fun a0 => a0) n f t).map Fs.l1_0.res = Fs.l1_0.T (fun a0 => Fs.l1_0.res a0) n (fun y => (f y).map Fs.l1_0.res) t := by
  unfold Fs.l1_0.T Fs.l1_0.r
  exact Eq.symm (ite_map (ite_map (ite_map (ite_map (ite_map (ite_map (ite_map (ite_map rfl rfl) rfl) rfl) rfl) rfl) rfl) rfl) rfl)
theorem Fs.l1_0.pat_shape : ∀ st t, Fs.l1_0.pat st = some t → st = Fs.l1_0.shape t := fun _ _ h => by unfold Fs.l1_0.pat at h; split at h <;> cases h; rfl
theorem Fs.l1_0.round : Fs.R0 n rc (Fs.l1_0.shape t) = Fs.l1_0.T (fun a0 => Fs.l1_0.res a0) n (fun y => rc (Fs.l1_0.shape y)) t := by kernel_rfl
theorem Fs.l1_0.loop (n m : Nat) (t : (Int × (Int × (LI × LI)))) : loopOf (Fs.R0 n) m (Fs.l1_0.shape t) = (Fs.l1_0.m n m t).map Fs.l1_0.res :=
  loop_map (fun _ _ => Fs.l1_0.rmap) (fun _ _ => Fs.l1_0.round) (fun _ => rfl) (fun _ _ => by kernel_rfl) m t
theorem Fs.run : runS (Fs.C n) (Fs.A n) n Tryd.f83 (Fs.shape t) = (Fs.m n t).map Fs.res :=
  (show _ = Fs.g (fun a0 => Fs.res a0) n t.1 t.2 from by kernel_rfl).trans (by
    unfold Fs.m Fs.g
    exact (bindO_map fun r2 => (bindO_map fun r4 => rfl)))
theorem Fs.s (hmix : HM) (n : Nat) : CalleeS Tryd.prog kecG 83 (Fs.c n) :=
  .mkF (res := Fs.res) (shape := Fs.shape) (C := Fs.C n) (A := Fs.A n) (fun R u K => rfl) (fun _ _ _ h => by unfold Fs.pat at h; split at h <;> cases h; rfl) rfl (.cons (Fab.s hmix n) .nil) hmix Tryd.func83 (by kernel_rfl) (lp := [Fs.b0]) (by kernel_rfl) (.cons (show (Fs.A n).loop (key Fs.b0) = some (.mk' Fs.l1_0.pat (Fs.l1_0.m n n) (resKl Fs.l1_0.res)) by kernel_rfl) (LoopS.of (res := Fs.l1_0.res) (fun R u K => rfl) Fs.l1_0.pat_shape fun t => Fs.l1_0.loop n n t)
  .nil)
  (nj rfl) (by decide) (fun _ => rfl) rfl (fun _ => by show 2 ≤ Tryd.f83.ntmps; decide) (fun _ => Fs.run)
