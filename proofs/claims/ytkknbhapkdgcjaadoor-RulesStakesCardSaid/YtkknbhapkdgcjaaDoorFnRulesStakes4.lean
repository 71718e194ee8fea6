/- What the program's functions compute, as plain functions, each with its proof: the function does just that. Condition: the plain function has an answer. -/
import Derived.Test.YtkknbhapkdgcjaaDoorAbsP8
import Derived.Test.YtkknbhapkdgcjaaDoorProg
import Derived.Test.YtkknbhapkdgcjaaDoorFnRulesStakes1
import Derived.Test.YtkknbhapkdgcjaaDoorFnRulesStakes3
import Derived.Test.YtkknbhapkdgcjaaDoorFnRulesStakes2
import Derived.WalkKit
set_option linter.unusedVariables false
set_option linter.unusedSimpArgs false
set_option maxRecDepth 100000
open Go Go.Abs Go.Proofs
set_option autoImplicit true
set_option relaxedAutoImplicit true
noncomputable section
noncomputable def Faw.C (n : Nat) : Ctx := ⟨Tryd.prog, kecG, lookC [(48, Fcc.c n), (47, Fck.c n)], fun _ => false⟩
noncomputable def Faw.A (n : Nat) : Ann := ⟨Tryd.f25.ntmps, 0, noNL, [], [none], fun k => match k with
 | _ => none, noNL, lookJ []⟩
def Faw.g {α : Type} (mk0 : LI → Int → Int → α) (n : Nat) (vd vk : LA) (wb wd : Int) (a1 : LI) : Option α :=
 bindO (Fcc.m n (a1, 2)) fun r2 =>
 bindO (Fck.m n (vd, vk, wb, wd, r2)) fun r4 =>
 bindO (Fcc.m n (a1, 1)) fun r6 =>
 bindO (Fck.m n (vd, vk, wb, wd, r6)) fun r8 =>
 some (mk0 r8 (List.getD r4 1 0) (List.getD r4 0 0))
def Faw.m (n : Nat) (t : (LA × (LA × (Int × (Int × LI))))) : Option (LI × (Int × Int)) := Faw.g (fun a0 a1 a2 => (a0, a1, a2)) n t.1 t.2.1 t.2.2.1 t.2.2.2.1 t.w
def Faw.pat : List AV → Blks → Option (LA × (LA × (Int × (Int × LI))))
 | [(.rptr (.agg [(.robjs 72 27 vd), (.robjs 72 27 vk), .snil, .snil, (.int .i64 wb), .snil, .snil, (.int .i64 wd), .snil, .snil])), (.ints .u8 20 a1)], [] => some (vd, vk, wb, wd, a1)
 | _, _ => none
def Faw.shape (t : (LA × (LA × (Int × (Int × LI))))) : List AV × Blks := ([(.rptr (.agg [(.robjs 72 27 t.1), (.robjs 72 27 t.2.1), .snil, .snil, (.int .i64 t.2.2.1), .snil, .snil, (.int .i64 t.2.2.2.1), .snil, .snil])), (.ints .u8 20 t.w)], [])
def Faw.res : (LI × (Int × Int)) → AV × Blks
 | u => ((.agg [(.ints .u64 4 u.1), (.int .u64 u.2.1), (.int .u64 u.2.2)]), [])
def Faw.c (n : Nat) : Abs.Callee := .mk' [] [none, none] Faw.pat (Faw.m n) (resKof Faw.res)
noncomputable def Far.C (n : Nat) : Ctx := ⟨Tryd.prog, kecG, lookC [(11, Fao.c n), (22, Faq.c n), (24, Fbn.c n), (23, Fbx.c n)], fun t => t == 6008000 || t == 6008007⟩
def Far.live : NL := fun k => match k with
 | 3 => ([6, 3, 0, 5, 4], [5, 4])
 | _ => ([], [])
def Far.l3_0.r {α : Type} (mk0 : Bool → Bool → Bool → Bool → Bool → Bool → Bool → Bool → α) (n : Nat) (rc : Int → LA → LA → Int → Int → LI → LI → Bool → LI → LI → LI → Int → Int → Int → LI → LI → Bool → LI → Int → Int → LI → LI → Bool → Bool → Bool → Bool → Bool → Bool → Bool → Bool → Option α)  (x0 : Int) (x1 x2 : LA) (x3 x4 : Int) (x5 x6 : LI) (x7 : Bool) (x8 x9 x10 : LI) (x11 x12 x13 : Int) (x14 x15 : LI) (x16 : Bool) (x17 : LI) (x18 x19 : Int) (x20 x21 : LI) (x22 x23 : Bool) (x24 x25 : Bool) (x26 x27 : Bool) (x28 x29 : Bool) : Option α :=
 if (decide (x0 ≤ 3)) = true then
 bindO (Fao.m n (x5, x6, x7, x8, x9, x10, x11, x12, x13, x14, x15, x16, x17, x18, x19, x20, x21, x0)) fun r6 =>
 if r6.2 = true then
 bindO (Faq.m n (x1, x2, x3, x4, r6.1)) fun r10 =>
 if x0 = 1 then
 bindO (Fbn.m n 1000000000000000000) fun r14 =>
 bindO (Fbx.m n (r10.1, r14)) fun r16 =>
 if (decide (r16 ≥ 0)) = true then
 if (decide (r10.2.1 ≥ 86400)) = true then
 rc 2 x1 x2 x3 x4 x5 x6 x7 x8 x9 x10 x11 x12 x13 x14 x15 x16 x17 x18 x19 x20 x21 x22 (r10.2.2 == 0) x24 x25 x26 x27 x28 x29
 else
 rc 2 x1 x2 x3 x4 x5 x6 x7 x8 x9 x10 x11 x12 x13 x14 x15 x16 x17 x18 x19 x20 x21 x22 false x24 x25 x26 x27 x28 x29
 else
 rc 2 x1 x2 x3 x4 x5 x6 x7 x8 x9 x10 x11 x12 x13 x14 x15 x16 x17 x18 x19 x20 x21 x22 false x24 x25 x26 x27 x28 x29
 else
 if x0 = 2 then
 bindO (Fbn.m n 1000000000000000000) fun r16 =>
 bindO (Fbx.m n (r10.1, r16)) fun r18 =>
 if (decide (r18 ≥ 0)) = true then
 if (decide (r10.2.1 ≥ 86400)) = true then
 rc 3 x1 x2 x3 x4 x5 x6 x7 x8 x9 x10 x11 x12 x13 x14 x15 x16 x17 x18 x19 x20 x21 x22 x23 (r10.2.2 == 0) x25 x26 x27 x28 x29
 else
 rc 3 x1 x2 x3 x4 x5 x6 x7 x8 x9 x10 x11 x12 x13 x14 x15 x16 x17 x18 x19 x20 x21 x22 x23 false x25 x26 x27 x28 x29
 else
 rc 3 x1 x2 x3 x4 x5 x6 x7 x8 x9 x10 x11 x12 x13 x14 x15 x16 x17 x18 x19 x20 x21 x22 x23 false x25 x26 x27 x28 x29
 else
 if x0 = 3 then
 bindO (Fbn.m n 1000000000000000000) fun r18 =>
 bindO (Fbx.m n (r10.1, r18)) fun r20 =>
 if (decide (r20 ≥ 0)) = true then
 if (decide (r10.2.1 ≥ 86400)) = true then
 rc 4 x1 x2 x3 x4 x5 x6 x7 x8 x9 x10 x11 x12 x13 x14 x15 x16 x17 x18 x19 x20 x21 x22 x23 x24 (r10.2.2 == 0) x26 x27 x28 x29
 else
 rc 4 x1 x2 x3 x4 x5 x6 x7 x8 x9 x10 x11 x12 x13 x14 x15 x16 x17 x18 x19 x20 x21 x22 x23 x24 false x26 x27 x28 x29
 else
 rc 4 x1 x2 x3 x4 x5 x6 x7 x8 x9 x10 x11 x12 x13 x14 x15 x16 x17 x18 x19 x20 x21 x22 x23 x24 false x26 x27 x28 x29
 else
 none
 else
 rc (IntKind.wrap .u8 (x0 + 1)) x1 x2 x3 x4 x5 x6 x7 x8 x9 x10 x11 x12 x13 x14 x15 x16 x17 x18 x19 x20 x21 x22 x23 x24 x25 x26 x27 x28 x29
 else
 some (mk0 x22 x23 x24 x25 x26 x27 x28 x29)
def Far.l3_0.g {α : Type} (mk0 : Bool → Bool → Bool → Bool → Bool → Bool → Bool → Bool → α) (n : Nat) : Nat → Int → LA → LA → Int → Int → LI → LI → Bool → LI → LI → LI → Int → Int → Int → LI → LI → Bool → LI → Int → Int → LI → LI → Bool → Bool → Bool → Bool → Bool → Bool → Bool → Bool → Option α
 | 0, _, _, _, _, _, _, _, _, _, _, _, _, _, _, _, _, _, _, _, _, _, _, _, _, _, _, _, _, _, _ => none
 | m + 1, x0, x1, x2, x3, x4, x5, x6, x7, x8, x9, x10, x11, x12, x13, x14, x15, x16, x17, x18, x19, x20, x21, x22, x23, x24, x25, x26, x27, x28, x29 => Far.l3_0.r mk0 n (fun y0 y1 y2 y3 y4 y5 y6 y7 y8 y9 y10 y11 y12 y13 y14 y15 y16 y17 y18 y19 y20 y21 y22 y23 y24 y25 y26 y27 y28 y29 => Far.l3_0.g mk0 n m y0 y1 y2 y3 y4 y5 y6 y7 y8 y9 y10 y11 y12 y13 y14 y15 y16 y17 y18 y19 y20 y21 y22 y23 y24 y25 y26 y27 y28 y29)  x0 x1 x2 x3 x4 x5 x6 x7 x8 x9 x10 x11 x12 x13 x14 x15 x16 x17 x18 x19 x20 x21 x22 x23 x24 x25 x26 x27 x28 x29
def Far.l3_0.m (n m : Nat) (t : Ty5) : Option Ty21 := Far.l3_0.g (fun a0 a1 a2 a3 a4 a5 a6 a7 => (a0, a1, a2, a3, a4, a5, a6, a7)) n m t.1 t.2.1 t.2.2.1 t.2.2.2.1 t.w.1 t.w.2.1 t.w.2.2.1 t.w.2.2.2.1 t.x.1 t.x.2.1 t.x.2.2.1 t.x.2.2.2.1 t.x.w.1 t.x.w.2.1 t.x.w.2.2.1 t.x.w.2.2.2.1 t.y.1 t.y.2.1 t.y.2.2.1 t.y.2.2.2.1 t.y.w.1 t.y.w.2.1 t.y.w.2.2.1 t.y.w.2.2.2.1 t.y.x.1 t.y.x.2.1 t.y.x.2.2.1 t.y.x.2.2.2.1 t.y.x.w.1 t.y.x.w.2
def Far.l3_0.pat : St → Option Ty5
 | (St.mk [(.int .u8 x0), (.ptr 0 []), (.rptr (.agg [(.rmap x1), (.rmap x2), (.rmap []), (.rmap []), (.rmap []), (.rmap []), (.int .i64 x3), .snil, .snil, .snil, (.int .i64 x4)])), (.ptr 1 []), (.ptr 2 [])] [(some (.var (.agg [(.ints .u8 20 x5), (.ints .u64 4 x6), (.bool x7), (.ints .u8 20 x8), (.rints .u8 x9), (.rints .u8 x10), (.int .u64 x11), (.int .u64 x12), (.int .u64 x13), (.ints .u64 4 x14), (.ints .u64 4 x15), (.bool x16), (.ints .u8 20 x17), (.int .u64 x18), (.int .u64 x19), (.rints .u8 x20), (.rints .u8 x21)]))), (some (.var (.agg [(.bool x22), (.bool x23), (.bool x24), (.bool x25)]))), (some (.var (.agg [(.bool x26), (.bool x27), (.bool x28), (.bool x29)])))]) => some (x0, x1, x2, x3, x4, x5, x6, x7, x8, x9, x10, x11, x12, x13, x14, x15, x16, x17, x18, x19, x20, x21, x22, x23, x24, x25, x26, x27, x28, x29)
 | _ => none
def Far.l3_0.shape (t : Ty5) : St := (St.mk [(.int .u8 t.1), (.ptr 0 []), (.rptr (.agg [(.rmap t.2.1), (.rmap t.2.2.1), (.rmap []), (.rmap []), (.rmap []), (.rmap []), (.int .i64 t.2.2.2.1), .snil, .snil, .snil, (.int .i64 t.w.1)])), (.ptr 1 []), (.ptr 2 [])] [(some (.var (.agg [(.ints .u8 20 t.w.2.1), (.ints .u64 4 t.w.2.2.1), (.bool t.w.2.2.2.1), (.ints .u8 20 t.x.1), (.rints .u8 t.x.2.1), (.rints .u8 t.x.2.2.1), (.int .u64 t.x.2.2.2.1), (.int .u64 t.x.w.1), (.int .u64 t.x.w.2.1), (.ints .u64 4 t.x.w.2.2.1), (.ints .u64 4 t.x.w.2.2.2.1), (.bool t.y.1), (.ints .u8 20 t.y.2.1), (.int .u64 t.y.2.2.1), (.int .u64 t.y.2.2.2.1), (.rints .u8 t.y.w.1), (.rints .u8 t.y.w.2.1)]))), (some (.var (.agg [(.bool t.y.w.2.2.1), (.bool t.y.w.2.2.2.1), (.bool t.y.x.1), (.bool t.y.x.2.1)]))), (some (.var (.agg [(.bool t.y.x.2.2.1), (.bool t.y.x.2.2.2.1), (.bool t.y.x.w.1), (.bool t.y.x.w.2)])))])
def Far.l3_0.res : Ty21 → Ex × St
 | u => ((.exit 0), (St.mk [(.ptr 0 []), (.ptr 1 [])] [(some (.var (.agg [(.bool u.1), (.bool u.2.1), (.bool u.2.2.1), (.bool u.2.2.2.1)]))), (some (.var (.agg [(.bool u.w.1), (.bool u.w.2.1), (.bool u.w.2.2.1), (.bool u.w.2.2.2)])))]))
noncomputable def Far.A (n : Nat) : Ann := ⟨Tryd.f13.ntmps, 0, Far.live, [], [none], fun k => match k with
 | 3 => some (.mk' Far.l3_0.pat (Far.l3_0.m n n) (resKl Far.l3_0.res))
 | _ => none, noNL, lookJ []⟩
noncomputable def Far.b0 : Code := (loopsIn (Tryd.f13.body.getD .skip)).getD 0 .skip
def Far.g {α : Type} (mk0 : Bool → Bool → Bool → Bool → α) (n : Nat) (vd vk : LA) (wa wc : Int) (we wf : LI) (wg : Bool) (wh wi wj : LI) (wk wl wm : Int) (wn wo : LI) (wp : Bool) (wq : LI) (wr ws : Int) (wt wu : LI) : Option α :=
 bindO (Far.l3_0.m n n (1, vd, vk, wa, wc, we, wf, wg, wh, wi, wj, wk, wl, wm, wn, wo, wp, wq, wr, ws, wt, wu, false, false, false, false, false, false, false, false)) fun r2 =>
 some (mk0 r2.1 r2.2.1 r2.2.2.1 r2.2.2.2.1)
def Far.m (n : Nat) (t : Ty9) : Option (Bool × (Bool × (Bool × Bool))) := Far.g (fun a0 a1 a2 a3 => (a0, a1, a2, a3)) n t.1 t.2.1 t.2.2.1 t.2.2.2.1 t.w.1 t.w.2.1 t.w.2.2.1 t.w.2.2.2.1 t.x.1 t.x.2.1 t.x.2.2.1 t.x.2.2.2.1 t.x.w.1 t.x.w.2.1 t.x.w.2.2.1 t.x.w.2.2.2.1 t.y.1 t.y.2.1 t.y.2.2.1 t.y.2.2.2.1 t.y.w
def Far.pat : List AV → Blks → Option Ty9
 | [(.rptr (.agg [(.rmap vd), (.rmap vk), (.rmap []), (.rmap []), (.rmap []), (.rmap []), (.int .i64 wa), .snil, .snil, .snil, (.int .i64 wc)])), (.agg [(.ints .u8 20 we), (.ints .u64 4 wf), (.bool wg), (.ints .u8 20 wh), (.rints .u8 wi), (.rints .u8 wj), (.int .u64 wk), (.int .u64 wl), (.int .u64 wm), (.ints .u64 4 wn), (.ints .u64 4 wo), (.bool wp), (.ints .u8 20 wq), (.int .u64 wr), (.int .u64 ws), (.rints .u8 wt), (.rints .u8 wu)])], [] => some (vd, vk, wa, wc, we, wf, wg, wh, wi, wj, wk, wl, wm, wn, wo, wp, wq, wr, ws, wt, wu)
 | _, _ => none
def Far.shape (t : Ty9) : List AV × Blks := ([(.rptr (.agg [(.rmap t.1), (.rmap t.2.1), (.rmap []), (.rmap []), (.rmap []), (.rmap []), (.int .i64 t.2.2.1), .snil, .snil, .snil, (.int .i64 t.2.2.2.1)])), (.agg [(.ints .u8 20 t.w.1), (.ints .u64 4 t.w.2.1), (.bool t.w.2.2.1), (.ints .u8 20 t.w.2.2.2.1), (.rints .u8 t.x.1), (.rints .u8 t.x.2.1), (.int .u64 t.x.2.2.1), (.int .u64 t.x.2.2.2.1), (.int .u64 t.x.w.1), (.ints .u64 4 t.x.w.2.1), (.ints .u64 4 t.x.w.2.2.1), (.bool t.x.w.2.2.2.1), (.ints .u8 20 t.y.1), (.int .u64 t.y.2.1), (.int .u64 t.y.2.2.1), (.rints .u8 t.y.2.2.2.1), (.rints .u8 t.y.w)])], [])
def Far.res : (Bool × (Bool × (Bool × Bool))) → AV × Blks
 | u => ((.agg [(.bool u.1), (.bool u.2.1), (.bool u.2.2.1), (.bool u.2.2.2)]), [])
def Far.c (n : Nat) : Abs.Callee := .mk' [] [none, (some (.agg [none, none, none, none, (some (.ints .u8)), (some (.ints .u8)), none, none, none, none, none, none, none, none, none, (some (.ints .u8)), (some (.ints .u8))]))] Far.pat (Far.m n) (resKof Far.res)
noncomputable def Fbd.C (n : Nat) : Ctx := ⟨Tryd.prog, kecG, lookC [], fun _ => false⟩
noncomputable def Fbd.A (n : Nat) : Ann := ⟨Tryd.f12.ntmps, 0, noNL, [], [none, none], fun k => match k with
 | _ => none, noNL, lookJ []⟩
def Fbd.g {α : Type} (mk0 : LI → Bool → α) (n : Nat) (vd vk : LI) (vc : Bool) (wv wb ww : LI) (wa wd wz : Int) (w0 wc : LI) (wx : Bool) (wy : LI) (w1 w2 : Int) (w3 w4 : LI) (a1 : Int) : Option α :=
 if (a1 == 1) = true then
 some (mk0 vd true)
 else
 if (a1 == 2) = true then
 if vc = true then
 some (mk0 wv true)
 else
 some (mk0 ([0, 0, 0, 0, 0, 0, 0, 0, 0, 0, 0, 0, 0, 0, 0, 0, 0, 0, 0, 0] : List Int) false)
 else
 if (a1 == 3) = true then
 if wx = true then
 some (mk0 wy true)
 else
 some (mk0 ([0, 0, 0, 0, 0, 0, 0, 0, 0, 0, 0, 0, 0, 0, 0, 0, 0, 0, 0, 0] : List Int) false)
 else
 some (mk0 ([0, 0, 0, 0, 0, 0, 0, 0, 0, 0, 0, 0, 0, 0, 0, 0, 0, 0, 0, 0] : List Int) false)
def Fbd.m (n : Nat) (t : Ty11) : Option (LI × Bool) := Fbd.g (fun a0 a1 => (a0, a1)) n t.1 t.2.1 t.2.2.1 t.2.2.2.1 t.w.1 t.w.2.1 t.w.2.2.1 t.w.2.2.2.1 t.x.1 t.x.2.1 t.x.2.2.1 t.x.2.2.2.1 t.x.w.1 t.x.w.2.1 t.x.w.2.2.1 t.x.w.2.2.2.1 t.y.1 t.y.2
def Fbd.pat : List AV → Blks → Option Ty11
 | [(.agg [(.ints .u8 20 vd), (.ints .u64 4 vk), (.bool vc), (.ints .u8 20 wv), (.rints .u8 wb), (.rints .u8 ww), (.int .u64 wa), (.int .u64 wd), (.int .u64 wz), (.ints .u64 4 w0), (.ints .u64 4 wc), (.bool wx), (.ints .u8 20 wy), (.int .u64 w1), (.int .u64 w2), (.rints .u8 w3), (.rints .u8 w4)]), (.int .u8 a1)], [] => some (vd, vk, vc, wv, wb, ww, wa, wd, wz, w0, wc, wx, wy, w1, w2, w3, w4, a1)
 | _, _ => none
def Fbd.shape (t : Ty11) : List AV × Blks := ([(.agg [(.ints .u8 20 t.1), (.ints .u64 4 t.2.1), (.bool t.2.2.1), (.ints .u8 20 t.2.2.2.1), (.rints .u8 t.w.1), (.rints .u8 t.w.2.1), (.int .u64 t.w.2.2.1), (.int .u64 t.w.2.2.2.1), (.int .u64 t.x.1), (.ints .u64 4 t.x.2.1), (.ints .u64 4 t.x.2.2.1), (.bool t.x.2.2.2.1), (.ints .u8 20 t.x.w.1), (.int .u64 t.x.w.2.1), (.int .u64 t.x.w.2.2.1), (.rints .u8 t.x.w.2.2.2.1), (.rints .u8 t.y.1)]), (.int .u8 t.y.2)], [])
def Fbd.res : (LI × Bool) → AV × Blks
 | u => ((.tup [(.ints .u8 20 u.1), (.bool u.2)]), [])
def Fbd.c (n : Nat) : Abs.Callee := .mk' [] [(some (.agg [none, none, none, none, (some (.ints .u8)), (some (.ints .u8)), none, none, none, none, none, none, none, none, none, (some (.ints .u8)), (some (.ints .u8))])), none] Fbd.pat (Fbd.m n) (resKof Fbd.res)
noncomputable def Fbe.C (n : Nat) : Ctx := ⟨Tryd.prog, kecG, lookC [(12, Fbd.c n), (25, Faw.c n), (27, Fcb.c n), (26, Fcf.c n)], fun t => t == 6007000 || t == 6007007⟩
def Fbe.live : NL := fun k => match k with
 | 3 => ([6, 3, 0, 5, 4], [5, 4])
 | _ => ([], [])
def Fbe.l3_0.r {α : Type} (mk0 : Bool → Bool → Bool → Bool → Bool → Bool → Bool → Bool → α) (n : Nat) (rc : Int → LA → LA → Int → Int → LI → LI → Bool → LI → LI → LI → Int → Int → Int → LI → LI → Bool → LI → Int → Int → LI → LI → Bool → Bool → Bool → Bool → Bool → Bool → Bool → Bool → Option α)  (x0 : Int) (x1 x2 : LA) (x3 x4 : Int) (x5 x6 : LI) (x7 : Bool) (x8 x9 x10 : LI) (x11 x12 x13 : Int) (x14 x15 : LI) (x16 : Bool) (x17 : LI) (x18 x19 : Int) (x20 x21 : LI) (x22 x23 : Bool) (x24 x25 : Bool) (x26 x27 : Bool) (x28 x29 : Bool) : Option α :=
 if (decide (x0 ≤ 3)) = true then
 bindO (Fbd.m n (x5, x6, x7, x8, x9, x10, x11, x12, x13, x14, x15, x16, x17, x18, x19, x20, x21, x0)) fun r6 =>
 bindO (Faw.m n (x1, x2, x3, x4, r6.1)) fun r8 =>
 if x0 = 1 then
 if r6.2 = true then
 bindO (Fcb.m n 1000000000000000000) fun r14 =>
 bindO (Fcf.m n (r8.1, r14)) fun r16 =>
 if (decide (r16 ≥ 0)) = true then
 if (decide (r8.2.1 ≥ 86400)) = true then
 rc 2 x1 x2 x3 x4 x5 x6 x7 x8 x9 x10 x11 x12 x13 x14 x15 x16 x17 x18 x19 x20 x21 x22 (r8.2.2 == 0) x24 x25 x26 x27 x28 x29
 else
 rc 2 x1 x2 x3 x4 x5 x6 x7 x8 x9 x10 x11 x12 x13 x14 x15 x16 x17 x18 x19 x20 x21 x22 false x24 x25 x26 x27 x28 x29
 else
 rc 2 x1 x2 x3 x4 x5 x6 x7 x8 x9 x10 x11 x12 x13 x14 x15 x16 x17 x18 x19 x20 x21 x22 false x24 x25 x26 x27 x28 x29
 else
 rc 2 x1 x2 x3 x4 x5 x6 x7 x8 x9 x10 x11 x12 x13 x14 x15 x16 x17 x18 x19 x20 x21 x22 false x24 x25 x26 x27 x28 x29
 else
 if x0 = 2 then
 if r6.2 = true then
 bindO (Fcb.m n 1000000000000000000) fun r16 =>
 bindO (Fcf.m n (r8.1, r16)) fun r18 =>
 if (decide (r18 ≥ 0)) = true then
 if (decide (r8.2.1 ≥ 86400)) = true then
 rc 3 x1 x2 x3 x4 x5 x6 x7 x8 x9 x10 x11 x12 x13 x14 x15 x16 x17 x18 x19 x20 x21 x22 x23 (r8.2.2 == 0) x25 x26 x27 x28 x29
 else
 rc 3 x1 x2 x3 x4 x5 x6 x7 x8 x9 x10 x11 x12 x13 x14 x15 x16 x17 x18 x19 x20 x21 x22 x23 false x25 x26 x27 x28 x29
 else
 rc 3 x1 x2 x3 x4 x5 x6 x7 x8 x9 x10 x11 x12 x13 x14 x15 x16 x17 x18 x19 x20 x21 x22 x23 false x25 x26 x27 x28 x29
 else
 rc 3 x1 x2 x3 x4 x5 x6 x7 x8 x9 x10 x11 x12 x13 x14 x15 x16 x17 x18 x19 x20 x21 x22 x23 false x25 x26 x27 x28 x29
 else
 if x0 = 3 then
 if r6.2 = true then
 bindO (Fcb.m n 1000000000000000000) fun r18 =>
 bindO (Fcf.m n (r8.1, r18)) fun r20 =>
 if (decide (r20 ≥ 0)) = true then
 if (decide (r8.2.1 ≥ 86400)) = true then
 rc 4 x1 x2 x3 x4 x5 x6 x7 x8 x9 x10 x11 x12 x13 x14 x15 x16 x17 x18 x19 x20 x21 x22 x23 x24 (r8.2.2 == 0) x26 x27 x28 x29
 else
 rc 4 x1 x2 x3 x4 x5 x6 x7 x8 x9 x10 x11 x12 x13 x14 x15 x16 x17 x18 x19 x20 x21 x22 x23 x24 false x26 x27 x28 x29
 else
 rc 4 x1 x2 x3 x4 x5 x6 x7 x8 x9 x10 x11 x12 x13 x14 x15 x16 x17 x18 x19 x20 x21 x22 x23 x24 false x26 x27 x28 x29
 else
 rc 4 x1 x2 x3 x4 x5 x6 x7 x8 x9 x10 x11 x12 x13 x14 x15 x16 x17 x18 x19 x20 x21 x22 x23 x24 false x26 x27 x28 x29
 else
 none
 else
 some (mk0 x22 x23 x24 x25 x26 x27 x28 x29)
def Fbe.l3_0.g {α : Type} (mk0 : Bool → Bool → Bool → Bool → Bool → Bool → Bool → Bool → α) (n : Nat) : Nat → Int → LA → LA → Int → Int → LI → LI → Bool → LI → LI → LI → Int → Int → Int → LI → LI → Bool → LI → Int → Int → LI → LI → Bool → Bool → Bool → Bool → Bool → Bool → Bool → Bool → Option α
 | 0, _, _, _, _, _, _, _, _, _, _, _, _, _, _, _, _, _, _, _, _, _, _, _, _, _, _, _, _, _, _ => none
 | m + 1, x0, x1, x2, x3, x4, x5, x6, x7, x8, x9, x10, x11, x12, x13, x14, x15, x16, x17, x18, x19, x20, x21, x22, x23, x24, x25, x26, x27, x28, x29 => Fbe.l3_0.r mk0 n (fun y0 y1 y2 y3 y4 y5 y6 y7 y8 y9 y10 y11 y12 y13 y14 y15 y16 y17 y18 y19 y20 y21 y22 y23 y24 y25 y26 y27 y28 y29 => Fbe.l3_0.g mk0 n m y0 y1 y2 y3 y4 y5 y6 y7 y8 y9 y10 y11 y12 y13 y14 y15 y16 y17 y18 y19 y20 y21 y22 y23 y24 y25 y26 y27 y28 y29)  x0 x1 x2 x3 x4 x5 x6 x7 x8 x9 x10 x11 x12 x13 x14 x15 x16 x17 x18 x19 x20 x21 x22 x23 x24 x25 x26 x27 x28 x29
def Fbe.l3_0.m (n m : Nat) (t : Ty5) : Option Ty21 := Fbe.l3_0.g (fun a0 a1 a2 a3 a4 a5 a6 a7 => (a0, a1, a2, a3, a4, a5, a6, a7)) n m t.1 t.2.1 t.2.2.1 t.2.2.2.1 t.w.1 t.w.2.1 t.w.2.2.1 t.w.2.2.2.1 t.x.1 t.x.2.1 t.x.2.2.1 t.x.2.2.2.1 t.x.w.1 t.x.w.2.1 t.x.w.2.2.1 t.x.w.2.2.2.1 t.y.1 t.y.2.1 t.y.2.2.1 t.y.2.2.2.1 t.y.w.1 t.y.w.2.1 t.y.w.2.2.1 t.y.w.2.2.2.1 t.y.x.1 t.y.x.2.1 t.y.x.2.2.1 t.y.x.2.2.2.1 t.y.x.w.1 t.y.x.w.2
def Fbe.l3_0.pat : St → Option Ty5
 | (St.mk [(.int .u8 x0), (.ptr 0 []), (.rptr (.agg [(.robjs 72 27 x1), (.robjs 72 27 x2), .snil, .snil, (.int .i64 x3), .snil, .snil, (.int .i64 x4), .snil, .snil])), (.ptr 1 []), (.ptr 2 [])] [(some (.var (.agg [(.ints .u8 20 x5), (.ints .u64 4 x6), (.bool x7), (.ints .u8 20 x8), (.rints .u8 x9), (.rints .u8 x10), (.int .u64 x11), (.int .u64 x12), (.int .u64 x13), (.ints .u64 4 x14), (.ints .u64 4 x15), (.bool x16), (.ints .u8 20 x17), (.int .u64 x18), (.int .u64 x19), (.rints .u8 x20), (.rints .u8 x21)]))), (some (.var (.agg [(.bool x22), (.bool x23), (.bool x24), (.bool x25)]))), (some (.var (.agg [(.bool x26), (.bool x27), (.bool x28), (.bool x29)])))]) => some (x0, x1, x2, x3, x4, x5, x6, x7, x8, x9, x10, x11, x12, x13, x14, x15, x16, x17, x18, x19, x20, x21, x22, x23, x24, x25, x26, x27, x28, x29)
 | _ => none
def Fbe.l3_0.shape (t : Ty5) : St := (St.mk [(.int .u8 t.1), (.ptr 0 []), (.rptr (.agg [(.robjs 72 27 t.2.1), (.robjs 72 27 t.2.2.1), .snil, .snil, (.int .i64 t.2.2.2.1), .snil, .snil, (.int .i64 t.w.1), .snil, .snil])), (.ptr 1 []), (.ptr 2 [])] [(some (.var (.agg [(.ints .u8 20 t.w.2.1), (.ints .u64 4 t.w.2.2.1), (.bool t.w.2.2.2.1), (.ints .u8 20 t.x.1), (.rints .u8 t.x.2.1), (.rints .u8 t.x.2.2.1), (.int .u64 t.x.2.2.2.1), (.int .u64 t.x.w.1), (.int .u64 t.x.w.2.1), (.ints .u64 4 t.x.w.2.2.1), (.ints .u64 4 t.x.w.2.2.2.1), (.bool t.y.1), (.ints .u8 20 t.y.2.1), (.int .u64 t.y.2.2.1), (.int .u64 t.y.2.2.2.1), (.rints .u8 t.y.w.1), (.rints .u8 t.y.w.2.1)]))), (some (.var (.agg [(.bool t.y.w.2.2.1), (.bool t.y.w.2.2.2.1), (.bool t.y.x.1), (.bool t.y.x.2.1)]))), (some (.var (.agg [(.bool t.y.x.2.2.1), (.bool t.y.x.2.2.2.1), (.bool t.y.x.w.1), (.bool t.y.x.w.2)])))])
def Fbe.l3_0.res : Ty21 → Ex × St
 | u => ((.exit 0), (St.mk [(.ptr 0 []), (.ptr 1 [])] [(some (.var (.agg [(.bool u.1), (.bool u.2.1), (.bool u.2.2.1), (.bool u.2.2.2.1)]))), (some (.var (.agg [(.bool u.w.1), (.bool u.w.2.1), (.bool u.w.2.2.1), (.bool u.w.2.2.2)])))]))
noncomputable def Fbe.A (n : Nat) : Ann := ⟨Tryd.f14.ntmps, 0, Fbe.live, [], [none], fun k => match k with
 | 3 => some (.mk' Fbe.l3_0.pat (Fbe.l3_0.m n n) (resKl Fbe.l3_0.res))
 | _ => none, noNL, lookJ []⟩
noncomputable def Fbe.b0 : Code := (loopsIn (Tryd.f14.body.getD .skip)).getD 0 .skip
def Fbe.g {α : Type} (mk0 : Bool → Bool → Bool → Bool → α) (n : Nat) (vd vk : LA) (wb wd : Int) (we wf : LI) (wg : Bool) (wh wi wj : LI) (wk wl wm : Int) (wn wo : LI) (wp : Bool) (wq : LI) (wr ws : Int) (wt wu : LI) : Option α :=
 bindO (Fbe.l3_0.m n n (1, vd, vk, wb, wd, we, wf, wg, wh, wi, wj, wk, wl, wm, wn, wo, wp, wq, wr, ws, wt, wu, false, false, false, false, false, false, false, false)) fun r2 =>
 some (mk0 r2.1 r2.2.1 r2.2.2.1 r2.2.2.2.1)
def Fbe.m (n : Nat) (t : Ty9) : Option (Bool × (Bool × (Bool × Bool))) := Fbe.g (fun a0 a1 a2 a3 => (a0, a1, a2, a3)) n t.1 t.2.1 t.2.2.1 t.2.2.2.1 t.w.1 t.w.2.1 t.w.2.2.1 t.w.2.2.2.1 t.x.1 t.x.2.1 t.x.2.2.1 t.x.2.2.2.1 t.x.w.1 t.x.w.2.1 t.x.w.2.2.1 t.x.w.2.2.2.1 t.y.1 t.y.2.1 t.y.2.2.1 t.y.2.2.2.1 t.y.w
def Fbe.pat : List AV → Blks → Option Ty9
 | [(.rptr (.agg [(.robjs 72 27 vd), (.robjs 72 27 vk), .snil, .snil, (.int .i64 wb), .snil, .snil, (.int .i64 wd), .snil, .snil])), (.agg [(.ints .u8 20 we), (.ints .u64 4 wf), (.bool wg), (.ints .u8 20 wh), (.rints .u8 wi), (.rints .u8 wj), (.int .u64 wk), (.int .u64 wl), (.int .u64 wm), (.ints .u64 4 wn), (.ints .u64 4 wo), (.bool wp), (.ints .u8 20 wq), (.int .u64 wr), (.int .u64 ws), (.rints .u8 wt), (.rints .u8 wu)])], [] => some (vd, vk, wb, wd, we, wf, wg, wh, wi, wj, wk, wl, wm, wn, wo, wp, wq, wr, ws, wt, wu)
 | _, _ => none
def Fbe.shape (t : Ty9) : List AV × Blks := ([(.rptr (.agg [(.robjs 72 27 t.1), (.robjs 72 27 t.2.1), .snil, .snil, (.int .i64 t.2.2.1), .snil, .snil, (.int .i64 t.2.2.2.1), .snil, .snil])), (.agg [(.ints .u8 20 t.w.1), (.ints .u64 4 t.w.2.1), (.bool t.w.2.2.1), (.ints .u8 20 t.w.2.2.2.1), (.rints .u8 t.x.1), (.rints .u8 t.x.2.1), (.int .u64 t.x.2.2.1), (.int .u64 t.x.2.2.2.1), (.int .u64 t.x.w.1), (.ints .u64 4 t.x.w.2.1), (.ints .u64 4 t.x.w.2.2.1), (.bool t.x.w.2.2.2.1), (.ints .u8 20 t.y.1), (.int .u64 t.y.2.1), (.int .u64 t.y.2.2.1), (.rints .u8 t.y.2.2.2.1), (.rints .u8 t.y.w)])], [])
def Fbe.res : (Bool × (Bool × (Bool × Bool))) → AV × Blks
 | u => ((.agg [(.bool u.1), (.bool u.2.1), (.bool u.2.2.1), (.bool u.2.2.2)]), [])
def Fbe.c (n : Nat) : Abs.Callee := .mk' [] [none, (some (.agg [none, none, none, none, (some (.ints .u8)), (some (.ints .u8)), none, none, none, none, none, none, none, none, none, (some (.ints .u8)), (some (.ints .u8))]))] Fbe.pat (Fbe.m n) (resKof Fbe.res)
noncomputable def Fax.C (n : Nat) : Ctx := ⟨Tryd.prog, kecG, lookC [(20, Fau.c n), (21, Fo.c n)], fun t => t == 6005000 || t == 6005011⟩
def Fax.live : NL := fun k => match k with
 | 3 => ([10, 0, 5, 7, 6, 9], [9])
 | 8 => ([49, 48, 47, 11, 12, 9, 10, 0, 5, 7, 6], [10, 0, 5, 7, 6, 9])
 | 11 => ([61, 60, 59, 9, 10, 13, 49, 48, 47, 11, 12, 0, 5, 7, 6], [49, 48, 47, 11, 12, 9, 10, 0, 5, 7, 6])
 | _ => ([], [])
def Fax.l11_0.r {α : Type} (mk0 : Int → Int → LA → Int → LA → LA → Int → Int → LA → LA → Int → Int → LI → LI → Bool → LI → LI → LI → Int → Int → Int → LI → LI → Bool → LI → Int → Int → LI → LI → Int → Bool → Bool → LA → LI → LA → LI → LI → Bool → LI → LI → LI → Int → Int → Int → LI → LI → Bool → LI → Int → Int → LI → LI → Bool → Bool → Bool → Bool → LA → LA → LA → LA → α) (n : Nat) (rc : Int → Int → Int → Int → Int → Int → LA → LA → LA → Int → Int → LI → LA → LA → LA → Int → Int → LI → LI → Bool → LI → LI → LI → Int → Int → Int → LI → LI → Bool → LI → Int → Int → LI → LI → Int → Bool → Bool → LA → LI → LI → LI → Bool → LI → LI → LI → Int → Int → Int → LI → LI → Bool → LI → Int → Int → LI → LI → Bool → Bool → Bool → Bool → LA → LA → LA → LA → Option α)  (x0 x1 : Int) (x2 x3 : Int) (x4 x5 : Int) (x6 x7 x8 : LA) (x9 x10 : Int) (x11 : LI) (x12 x13 x14 : LA) (x15 x16 : Int) (x17 x18 : LI) (x19 : Bool) (x20 x21 x22 : LI) (x23 x24 x25 : Int) (x26 x27 : LI) (x28 : Bool) (x29 : LI) (x30 x31 : Int) (x32 x33 : LI) (x34 : Int) (x35 x36 : Bool) (x37 : LA) (x38 x39 x40 : LI) (x41 : Bool) (x42 x43 x44 : LI) (x45 x46 x47 : Int) (x48 x49 : LI) (x50 : Bool) (x51 : LI) (x52 x53 : Int) (x54 x55 : LI) (x56 x57 : Bool) (x58 x59 : Bool) (x60 x61 : LA) (x62 x63 : LA) : Option α :=
 if (decide (x0 < x1)) = true then
 if 0 ≤ x0 then
 if x0 < (x11.length : Int) then
 if ((((List.length x12) + 1) * 16) ≤ 70368744177664 ∧ ((List.length x12) + 1) ≤ 9223372036854775807) then
 rc (IntKind.wrap .i64 (x0 + 1)) x1 x2 x3 x4 x5 x6 x7 x8 x9 x10 x11 (x12 ++ [(AV.agg [(AV.int .u8 (List.getD x11 (Int.toNat x0) 0)), (AV.int .u8 x2), (AV.int .i64 x3)])]) x13 x14 x15 x16 x17 x18 x19 x20 x21 x22 x23 x24 x25 x26 x27 x28 x29 x30 x31 x32 x33 x34 x35 x36 x37 x38 x39 x40 x41 x42 x43 x44 x45 x46 x47 x48 x49 x50 x51 x52 x53 x54 x55 x56 x57 x58 x59 x60 x61 x62 x63
 else
 none
 else
 none
 else
 none
 else
 some (mk0 x4 x5 x6 x2 x7 x8 x9 x10 x13 x14 x15 x16 x17 x18 x19 x20 x21 x22 x23 x24 x25 x26 x27 x28 x29 x30 x31 x32 x33 x34 x35 x36 x37 x38 x12 x39 x40 x41 x42 x43 x44 x45 x46 x47 x48 x49 x50 x51 x52 x53 x54 x55 x56 x57 x58 x59 x60 x61 x62 x63)
def Fax.l11_0.g {α : Type} (mk0 : Int → Int → LA → Int → LA → LA → Int → Int → LA → LA → Int → Int → LI → LI → Bool → LI → LI → LI → Int → Int → Int → LI → LI → Bool → LI → Int → Int → LI → LI → Int → Bool → Bool → LA → LI → LA → LI → LI → Bool → LI → LI → LI → Int → Int → Int → LI → LI → Bool → LI → Int → Int → LI → LI → Bool → Bool → Bool → Bool → LA → LA → LA → LA → α) (n : Nat) : Nat → Int → Int → Int → Int → Int → Int → LA → LA → LA → Int → Int → LI → LA → LA → LA → Int → Int → LI → LI → Bool → LI → LI → LI → Int → Int → Int → LI → LI → Bool → LI → Int → Int → LI → LI → Int → Bool → Bool → LA → LI → LI → LI → Bool → LI → LI → LI → Int → Int → Int → LI → LI → Bool → LI → Int → Int → LI → LI → Bool → Bool → Bool → Bool → LA → LA → LA → LA → Option α
 | 0, _, _, _, _, _, _, _, _, _, _, _, _, _, _, _, _, _, _, _, _, _, _, _, _, _, _, _, _, _, _, _, _, _, _, _, _, _, _, _, _, _, _, _, _, _, _, _, _, _, _, _, _, _, _, _, _, _, _, _, _, _, _, _, _ => none
 | m + 1, x0, x1, x2, x3, x4, x5, x6, x7, x8, x9, x10, x11, x12, x13, x14, x15, x16, x17, x18, x19, x20, x21, x22, x23, x24, x25, x26, x27, x28, x29, x30, x31, x32, x33, x34, x35, x36, x37, x38, x39, x40, x41, x42, x43, x44, x45, x46, x47, x48, x49, x50, x51, x52, x53, x54, x55, x56, x57, x58, x59, x60, x61, x62, x63 => Fax.l11_0.r mk0 n (fun y0 y1 y2 y3 y4 y5 y6 y7 y8 y9 y10 y11 y12 y13 y14 y15 y16 y17 y18 y19 y20 y21 y22 y23 y24 y25 y26 y27 y28 y29 y30 y31 y32 y33 y34 y35 y36 y37 y38 y39 y40 y41 y42 y43 y44 y45 y46 y47 y48 y49 y50 y51 y52 y53 y54 y55 y56 y57 y58 y59 y60 y61 y62 y63 => Fax.l11_0.g mk0 n m y0 y1 y2 y3 y4 y5 y6 y7 y8 y9 y10 y11 y12 y13 y14 y15 y16 y17 y18 y19 y20 y21 y22 y23 y24 y25 y26 y27 y28 y29 y30 y31 y32 y33 y34 y35 y36 y37 y38 y39 y40 y41 y42 y43 y44 y45 y46 y47 y48 y49 y50 y51 y52 y53 y54 y55 y56 y57 y58 y59 y60 y61 y62 y63)  x0 x1 x2 x3 x4 x5 x6 x7 x8 x9 x10 x11 x12 x13 x14 x15 x16 x17 x18 x19 x20 x21 x22 x23 x24 x25 x26 x27 x28 x29 x30 x31 x32 x33 x34 x35 x36 x37 x38 x39 x40 x41 x42 x43 x44 x45 x46 x47 x48 x49 x50 x51 x52 x53 x54 x55 x56 x57 x58 x59 x60 x61 x62 x63
def Fax.l11_0.m (n m : Nat) (t : Ty0) : Option Ty1 := Fax.l11_0.g (fun a0 a1 a2 a3 a4 a5 a6 a7 a8 a9 a10 a11 a12 a13 a14 a15 a16 a17 a18 a19 a20 a21 a22 a23 a24 a25 a26 a27 a28 a29 a30 a31 a32 a33 a34 a35 a36 a37 a38 a39 a40 a41 a42 a43 a44 a45 a46 a47 a48 a49 a50 a51 a52 a53 a54 a55 a56 a57 a58 a59 => (a0, a1, a2, a3, a4, a5, a6, a7, a8, a9, a10, a11, a12, a13, a14, a15, a16, a17, a18, a19, a20, a21, a22, a23, a24, a25, a26, a27, a28, a29, a30, a31, a32, a33, a34, a35, a36, a37, a38, a39, a40, a41, a42, a43, a44, a45, a46, a47, a48, a49, a50, a51, a52, a53, a54, a55, a56, a57, a58, a59)) n m t.1 t.2.1 t.2.2.1 t.2.2.2.1 t.w.1 t.w.2.1 t.w.2.2.1 t.w.2.2.2.1 t.x.1 t.x.2.1 t.x.2.2.1 t.x.2.2.2.1 t.x.w.1 t.x.w.2.1 t.x.w.2.2.1 t.x.w.2.2.2.1 t.y.1 t.y.2.1 t.y.2.2.1 t.y.2.2.2.1 t.y.w.1 t.y.w.2.1 t.y.w.2.2.1 t.y.w.2.2.2.1 t.y.x.1 t.y.x.2.1 t.y.x.2.2.1 t.y.x.2.2.2.1 t.y.x.w.1 t.y.x.w.2.1 t.y.x.w.2.2.1 t.y.x.w.2.2.2.1 t.y.y.1 t.y.y.2.1 t.y.y.2.2.1 t.y.y.2.2.2.1 t.y.y.w.1 t.y.y.w.2.1 t.y.y.w.2.2.1 t.y.y.w.2.2.2.1 t.y.y.x.1 t.y.y.x.2.1 t.y.y.x.2.2.1 t.y.y.x.2.2.2.1 t.y.y.x.w.1 t.y.y.x.w.2.1 t.y.y.x.w.2.2.1 t.y.y.x.w.2.2.2.1 t.y.y.y.1 t.y.y.y.2.1 t.y.y.y.2.2.1 t.y.y.y.2.2.2.1 t.y.y.y.w.1 t.y.y.y.w.2.1 t.y.y.y.w.2.2.1 t.y.y.y.w.2.2.2.1 t.y.y.y.x.1 t.y.y.y.x.2.1 t.y.y.y.x.2.2.1 t.y.y.y.x.2.2.2.1 t.y.y.y.x.w.1 t.y.y.y.x.w.2.1 t.y.y.y.x.w.2.2.1 t.y.y.y.x.w.2.2.2
def Fax.l11_0.p0 : AV → Option Int
 | (.int .i64 x0) => some x0
 | _ => none
def Fax.l11_0.p1 : AV → Option Int
 | (.int .i64 x1) => some x1
 | _ => none
def Fax.l11_0.p2 : AV → Option Unit
 | (.own 0 1) => some ()
 | _ => none
def Fax.l11_0.p3 : AV → Option Unit
 | (.own 1 3) => some ()
 | _ => none
def Fax.l11_0.p4 : AV → Option Int
 | (.int .u8 x2) => some x2
 | _ => none
def Fax.l11_0.p5 : AV → Option Int
 | (.int .i64 x3) => some x3
 | _ => none
def Fax.l11_0.p6 : AV → Option Int
 | (.int .i64 x4) => some x4
 | _ => none
def Fax.l11_0.p7 : AV → Option Int
 | (.int .i64 x5) => some x5
 | _ => none
def Fax.l11_0.p8 : AV → Option LA
 | (.robjs 47 32 x6) => some x6
 | _ => none
def Fax.l11_0.p9 : AV → Option Unit
 | (.ptr 2 []) => some ()
 | _ => none
def Fax.l11_0.p10 : AV → Option Unit
 | (.own 3 1) => some ()
 | _ => none
def Fax.l11_0.p11 : AV → Option (LA × (LA × (Int × Int)))
 | (.rptr (.agg [(.rmap x7), (.rmap x8), (.rmap []), (.rmap []), (.rmap []), (.rmap []), (.int .i64 x9), .snil, .snil, .snil, (.int .i64 x10)])) => some (x7, x8, x9, x10)
 | _ => none
def Fax.l11_0.p12 : AV → Option Unit
 | (.ptr 4 []) => some ()
 | _ => none
def Fax.l11_0.p13 : AV → Option Unit
 | (.ptr 5 []) => some ()
 | _ => none
def Fax.l11_0.p14 : AV → Option Unit
 | (.ptr 6 []) => some ()
 | _ => none
def Fax.l11_0.p15 : Option Blk → Option LI
 | (some (.ints .u8 x11)) => some x11
 | _ => none
def Fax.l11_0.p16 : Option Blk → Option LA
 | (some (.objs 41 3 x12)) => some x12
 | _ => none
def Fax.l11_0.p17 : Option Blk → Option Ty8
 | (some (.var (.agg [(.rptr (.agg [(.rmap x13), (.rmap x14), (.rmap []), (.rmap []), (.rmap []), (.rmap []), (.int .i64 x15), .snil, .snil, .snil, (.int .i64 x16)])), (.agg [(.ints .u8 20 x17), (.ints .u64 4 x18), (.bool x19), (.ints .u8 20 x20), (.rints .u8 x21), (.rints .u8 x22), (.int .u64 x23), (.int .u64 x24), (.int .u64 x25), (.ints .u64 4 x26), (.ints .u64 4 x27), (.bool x28), (.ints .u8 20 x29), (.int .u64 x30), (.int .u64 x31), (.rints .u8 x32), (.rints .u8 x33)]), (.int .u8 x34), (.bool x35), (.bool x36), (.robjs 47 32 x37)]))) => some (x13, x14, x15, x16, x17, x18, x19, x20, x21, x22, x23, x24, x25, x26, x27, x28, x29, x30, x31, x32, x33, x34, x35, x36, x37)
 | _ => none
def Fax.l11_0.p18 : Option Blk → Option LI
 | (some (.ints .i64 x38)) => some x38
 | _ => none
def Fax.l11_0.p19 : Option Blk → Option Ty12
 | (some (.var (.agg [(.ints .u8 20 x39), (.ints .u64 4 x40), (.bool x41), (.ints .u8 20 x42), (.rints .u8 x43), (.rints .u8 x44), (.int .u64 x45), (.int .u64 x46), (.int .u64 x47), (.ints .u64 4 x48), (.ints .u64 4 x49), (.bool x50), (.ints .u8 20 x51), (.int .u64 x52), (.int .u64 x53), (.rints .u8 x54), (.rints .u8 x55)]))) => some (x39, x40, x41, x42, x43, x44, x45, x46, x47, x48, x49, x50, x51, x52, x53, x54, x55)
 | _ => none
def Fax.l11_0.p20 : Option Blk → Option (Bool × (Bool × (Bool × Bool)))
 | (some (.var (.agg [(.bool x56), (.bool x57), (.bool x58), (.bool x59)]))) => some (x56, x57, x58, x59)
 | _ => none
def Fax.l11_0.p21 : Option Blk → Option (LA × (LA × (LA × LA)))
 | (some (.var (.agg [(.robjs 47 32 x60), (.robjs 47 32 x61), (.robjs 47 32 x62), (.robjs 47 32 x63)]))) => some (x60, x61, x62, x63)
 | _ => none
def Fax.l11_0.pat : St → Option Ty0
 | (St.mk [s0, s1, s2, s3, s4, s5, s6, s7, s8, s9, s10, s11, s12, s13, s14] [s15, s16, s17, s18, s19, s20, s21]) => bindO (Fax.l11_0.p0 s0) fun a0 => bindO (Fax.l11_0.p1 s1) fun a1 => bindO (Fax.l11_0.p2 s2) fun a2 => bindO (Fax.l11_0.p3 s3) fun a3 => bindO (Fax.l11_0.p4 s4) fun a4 => bindO (Fax.l11_0.p5 s5) fun a5 => bindO (Fax.l11_0.p6 s6) fun a6 => bindO (Fax.l11_0.p7 s7) fun a7 => bindO (Fax.l11_0.p8 s8) fun a8 => bindO (Fax.l11_0.p9 s9) fun a9 => bindO (Fax.l11_0.p10 s10) fun a10 => bindO (Fax.l11_0.p11 s11) fun a11 => bindO (Fax.l11_0.p12 s12) fun a12 => bindO (Fax.l11_0.p13 s13) fun a13 => bindO (Fax.l11_0.p14 s14) fun a14 => bindO (Fax.l11_0.p15 s15) fun a15 => bindO (Fax.l11_0.p16 s16) fun a16 => bindO (Fax.l11_0.p17 s17) fun a17 => bindO (Fax.l11_0.p18 s18) fun a18 => bindO (Fax.l11_0.p19 s19) fun a19 => bindO (Fax.l11_0.p20 s20) fun a20 => bindO (Fax.l11_0.p21 s21) fun a21 => some (a0, a1, a4, a5, a6, a7, a8, a11.1, a11.2.1, a11.2.2.1, a11.2.2.2, a15, a16, a17.1, a17.2.1, a17.2.2.1, a17.2.2.2.1, a17.2.2.2.2.1, a17.2.2.2.2.2.1, a17.2.2.2.2.2.2.1, a17.2.2.2.2.2.2.2.1, a17.2.2.2.2.2.2.2.2.1, a17.2.2.2.2.2.2.2.2.2.1, a17.2.2.2.2.2.2.2.2.2.2.1, a17.2.2.2.2.2.2.2.2.2.2.2.1, a17.2.2.2.2.2.2.2.2.2.2.2.2.1, a17.2.2.2.2.2.2.2.2.2.2.2.2.2.1, a17.2.2.2.2.2.2.2.2.2.2.2.2.2.2.1, a17.2.2.2.2.2.2.2.2.2.2.2.2.2.2.2.1, a17.2.2.2.2.2.2.2.2.2.2.2.2.2.2.2.2.1, a17.2.2.2.2.2.2.2.2.2.2.2.2.2.2.2.2.2.1, a17.2.2.2.2.2.2.2.2.2.2.2.2.2.2.2.2.2.2.1, a17.2.2.2.2.2.2.2.2.2.2.2.2.2.2.2.2.2.2.2.1, a17.2.2.2.2.2.2.2.2.2.2.2.2.2.2.2.2.2.2.2.2.1, a17.2.2.2.2.2.2.2.2.2.2.2.2.2.2.2.2.2.2.2.2.2.1, a17.2.2.2.2.2.2.2.2.2.2.2.2.2.2.2.2.2.2.2.2.2.2.1, a17.2.2.2.2.2.2.2.2.2.2.2.2.2.2.2.2.2.2.2.2.2.2.2.1, a17.2.2.2.2.2.2.2.2.2.2.2.2.2.2.2.2.2.2.2.2.2.2.2.2, a18, a19.1, a19.2.1, a19.2.2.1, a19.2.2.2.1, a19.2.2.2.2.1, a19.2.2.2.2.2.1, a19.2.2.2.2.2.2.1, a19.2.2.2.2.2.2.2.1, a19.2.2.2.2.2.2.2.2.1, a19.2.2.2.2.2.2.2.2.2.1, a19.2.2.2.2.2.2.2.2.2.2.1, a19.2.2.2.2.2.2.2.2.2.2.2.1, a19.2.2.2.2.2.2.2.2.2.2.2.2.1, a19.2.2.2.2.2.2.2.2.2.2.2.2.2.1, a19.2.2.2.2.2.2.2.2.2.2.2.2.2.2.1, a19.2.2.2.2.2.2.2.2.2.2.2.2.2.2.2.1, a19.2.2.2.2.2.2.2.2.2.2.2.2.2.2.2.2, a20.1, a20.2.1, a20.2.2.1, a20.2.2.2, a21.1, a21.2.1, a21.2.2.1, a21.2.2.2)
 | _ => none
def Fax.l11_0.shape (t : Ty0) : St := (St.mk [(.int .i64 t.1), (.int .i64 t.2.1), (.own 0 1), (.own 1 3), (.int .u8 t.2.2.1), (.int .i64 t.2.2.2.1), (.int .i64 t.w.1), (.int .i64 t.w.2.1), (.robjs 47 32 t.w.2.2.1), (.ptr 2 []), (.own 3 1), (.rptr (.agg [(.rmap t.w.2.2.2.1), (.rmap t.x.1), (.rmap []), (.rmap []), (.rmap []), (.rmap []), (.int .i64 t.x.2.1), .snil, .snil, .snil, (.int .i64 t.x.2.2.1)])), (.ptr 4 []), (.ptr 5 []), (.ptr 6 [])] [(some (.ints .u8 t.x.2.2.2.1)), (some (.objs 41 3 t.x.w.1)), (some (.var (.agg [(.rptr (.agg [(.rmap t.x.w.2.1), (.rmap t.x.w.2.2.1), (.rmap []), (.rmap []), (.rmap []), (.rmap []), (.int .i64 t.x.w.2.2.2.1), .snil, .snil, .snil, (.int .i64 t.y.1)])), (.agg [(.ints .u8 20 t.y.2.1), (.ints .u64 4 t.y.2.2.1), (.bool t.y.2.2.2.1), (.ints .u8 20 t.y.w.1), (.rints .u8 t.y.w.2.1), (.rints .u8 t.y.w.2.2.1), (.int .u64 t.y.w.2.2.2.1), (.int .u64 t.y.x.1), (.int .u64 t.y.x.2.1), (.ints .u64 4 t.y.x.2.2.1), (.ints .u64 4 t.y.x.2.2.2.1), (.bool t.y.x.w.1), (.ints .u8 20 t.y.x.w.2.1), (.int .u64 t.y.x.w.2.2.1), (.int .u64 t.y.x.w.2.2.2.1), (.rints .u8 t.y.y.1), (.rints .u8 t.y.y.2.1)]), (.int .u8 t.y.y.2.2.1), (.bool t.y.y.2.2.2.1), (.bool t.y.y.w.1), (.robjs 47 32 t.y.y.w.2.1)]))), (some (.ints .i64 t.y.y.w.2.2.1)), (some (.var (.agg [(.ints .u8 20 t.y.y.w.2.2.2.1), (.ints .u64 4 t.y.y.x.1), (.bool t.y.y.x.2.1), (.ints .u8 20 t.y.y.x.2.2.1), (.rints .u8 t.y.y.x.2.2.2.1), (.rints .u8 t.y.y.x.w.1), (.int .u64 t.y.y.x.w.2.1), (.int .u64 t.y.y.x.w.2.2.1), (.int .u64 t.y.y.x.w.2.2.2.1), (.ints .u64 4 t.y.y.y.1), (.ints .u64 4 t.y.y.y.2.1), (.bool t.y.y.y.2.2.1), (.ints .u8 20 t.y.y.y.2.2.2.1), (.int .u64 t.y.y.y.w.1), (.int .u64 t.y.y.y.w.2.1), (.rints .u8 t.y.y.y.w.2.2.1), (.rints .u8 t.y.y.y.w.2.2.2.1)]))), (some (.var (.agg [(.bool t.y.y.y.x.1), (.bool t.y.y.y.x.2.1), (.bool t.y.y.y.x.2.2.1), (.bool t.y.y.y.x.2.2.2.1)]))), (some (.var (.agg [(.robjs 47 32 t.y.y.y.x.w.1), (.robjs 47 32 t.y.y.y.x.w.2.1), (.robjs 47 32 t.y.y.y.x.w.2.2.1), (.robjs 47 32 t.y.y.y.x.w.2.2.2)])))])
def Fax.l11_0.res : Ty1 → Ex × St
 | u => ((.exit 4), (St.mk [(.int .i64 u.1), (.int .i64 u.2.1), (.robjs 47 32 u.2.2.1), (.ptr 0 []), (.own 1 1), (.own 2 3), (.int .u8 u.2.2.2.1), (.rptr (.agg [(.rmap u.w.1), (.rmap u.w.2.1), (.rmap []), (.rmap []), (.rmap []), (.rmap []), (.int .i64 u.w.2.2.1), .snil, .snil, .snil, (.int .i64 u.w.2.2.2.1)])), (.ptr 3 []), (.ptr 4 []), (.ptr 5 [])] [(some (.var (.agg [(.rptr (.agg [(.rmap u.x.1), (.rmap u.x.2.1), (.rmap []), (.rmap []), (.rmap []), (.rmap []), (.int .i64 u.x.2.2.1), .snil, .snil, .snil, (.int .i64 u.x.2.2.2.1)])), (.agg [(.ints .u8 20 u.x.w.1), (.ints .u64 4 u.x.w.2.1), (.bool u.x.w.2.2.1), (.ints .u8 20 u.x.w.2.2.2.1), (.rints .u8 u.y.1), (.rints .u8 u.y.2.1), (.int .u64 u.y.2.2.1), (.int .u64 u.y.2.2.2.1), (.int .u64 u.y.w.1), (.ints .u64 4 u.y.w.2.1), (.ints .u64 4 u.y.w.2.2.1), (.bool u.y.w.2.2.2.1), (.ints .u8 20 u.y.x.1), (.int .u64 u.y.x.2.1), (.int .u64 u.y.x.2.2.1), (.rints .u8 u.y.x.2.2.2.1), (.rints .u8 u.y.x.w.1)]), (.int .u8 u.y.x.w.2.1), (.bool u.y.x.w.2.2.1), (.bool u.y.x.w.2.2.2.1), (.robjs 47 32 u.y.y.1)]))), (some (.ints .i64 u.y.y.2.1)), (some (.objs 41 3 u.y.y.2.2.1)), (some (.var (.agg [(.ints .u8 20 u.y.y.2.2.2.1), (.ints .u64 4 u.y.y.w.1), (.bool u.y.y.w.2.1), (.ints .u8 20 u.y.y.w.2.2.1), (.rints .u8 u.y.y.w.2.2.2.1), (.rints .u8 u.y.y.x.1), (.int .u64 u.y.y.x.2.1), (.int .u64 u.y.y.x.2.2.1), (.int .u64 u.y.y.x.2.2.2.1), (.ints .u64 4 u.y.y.x.w.1), (.ints .u64 4 u.y.y.x.w.2.1), (.bool u.y.y.x.w.2.2.1), (.ints .u8 20 u.y.y.x.w.2.2.2.1), (.int .u64 u.y.y.y.1), (.int .u64 u.y.y.y.2.1), (.rints .u8 u.y.y.y.2.2.1), (.rints .u8 u.y.y.y.2.2.2.1)]))), (some (.var (.agg [(.bool u.y.y.y.w.1), (.bool u.y.y.y.w.2.1), (.bool u.y.y.y.w.2.2.1), (.bool u.y.y.y.w.2.2.2.1)]))), (some (.var (.agg [(.robjs 47 32 u.y.y.y.x.1), (.robjs 47 32 u.y.y.y.x.2.1), (.robjs 47 32 u.y.y.y.x.2.2.1), (.robjs 47 32 u.y.y.y.x.2.2.2)])))]))
def Fax.l8_0.r {α : Type} (mk0 : Int → LA → LA → Int → Int → LI → LI → Bool → LI → LI → LI → Int → Int → Int → LI → LI → Bool → LI → Int → Int → LI → LI → Bool → Bool → Bool → Bool → LA → LA → LA → LA → LA → α) (n : Nat) (rc : Int → Int → LA → Int → LA → LA → Int → Int → LA → LA → Int → Int → LI → LI → Bool → LI → LI → LI → Int → Int → Int → LI → LI → Bool → LI → Int → Int → LI → LI → Int → Bool → Bool → LA → LI → LA → LI → LI → Bool → LI → LI → LI → Int → Int → Int → LI → LI → Bool → LI → Int → Int → LI → LI → Bool → Bool → Bool → Bool → LA → LA → LA → LA → Option α)  (x0 x1 : Int) (x2 : LA) (x3 : Int) (x4 x5 : LA) (x6 x7 : Int) (x8 x9 : LA) (x10 x11 : Int) (x12 x13 : LI) (x14 : Bool) (x15 x16 x17 : LI) (x18 x19 x20 : Int) (x21 x22 : LI) (x23 : Bool) (x24 : LI) (x25 x26 : Int) (x27 x28 : LI) (x29 : Int) (x30 x31 : Bool) (x32 : LA) (x33 : LI) (x34 : LA) (x35 x36 : LI) (x37 : Bool) (x38 x39 x40 : LI) (x41 x42 x43 : Int) (x44 x45 : LI) (x46 : Bool) (x47 : LI) (x48 x49 : Int) (x50 x51 : LI) (x52 x53 : Bool) (x54 x55 : Bool) (x56 x57 : LA) (x58 x59 : LA) : Option α :=
 if (decide (x0 < x1)) = true then
 if 0 ≤ x0 then
 if x0 < (x2.length : Int) then
 bindO (tkAgg 7 (List.getD x2 (Int.toNat x0) AV.any)) fun r10 =>
 bindO (tkInt .u8 (List.getD r10 0 AV.any)) fun r12 =>
 bindO (tkInt .i64 (List.getD r10 1 AV.any)) fun r14 =>
 bindO (tkInts .u8 20 (List.getD r10 2 AV.any)) fun r16 =>
 bindO (tkInts .u64 4 (List.getD r10 3 AV.any)) fun r18 =>
 bindO (tkInts .u64 4 (List.getD r10 4 AV.any)) fun r20 =>
 bindO (tkRints .u8 (List.getD r10 5 AV.any)) fun r22 =>
 bindO (tkInt .u16 (List.getD r10 6 AV.any)) fun r24 =>
 bindO (Fo.m n (r12, r14, r16, r18, r20, r22, r24, x8, x9, x10, x11, x12, x13, x14, x15, x16, x17, x18, x19, x20, x21, x22, x23, x24, x25, x26, x27, x28, x29, x30, x31, x32, x0, x33)) fun r26 =>
 bindO (Fax.l11_0.m n n (0, (r26.length : Int), x3, x0, x0, x1, x2, x4, x5, x6, x7, r26, x34, x8, x9, x10, x11, x12, x13, x14, x15, x16, x17, x18, x19, x20, x21, x22, x23, x24, x25, x26, x27, x28, x29, x30, x31, x32, x33, x35, x36, x37, x38, x39, x40, x41, x42, x43, x44, x45, x46, x47, x48, x49, x50, x51, x52, x53, x54, x55, x56, x57, x58, x59)) fun r28 =>
 rc (IntKind.wrap .i64 (r28.1 + 1)) r28.2.1 r28.2.2.1 r28.2.2.2.1 r28.w.1 r28.w.2.1 r28.w.2.2.1 r28.w.2.2.2.1 r28.x.1 r28.x.2.1 r28.x.2.2.1 r28.x.2.2.2.1 r28.x.w.1 r28.x.w.2.1 r28.x.w.2.2.1 r28.x.w.2.2.2.1 r28.y.1 r28.y.2.1 r28.y.2.2.1 r28.y.2.2.2.1 r28.y.w.1 r28.y.w.2.1 r28.y.w.2.2.1 r28.y.w.2.2.2.1 r28.y.x.1 r28.y.x.2.1 r28.y.x.2.2.1 r28.y.x.2.2.2.1 r28.y.x.w.1 r28.y.x.w.2.1 r28.y.x.w.2.2.1 r28.y.x.w.2.2.2.1 r28.y.y.1 r28.y.y.2.1 r28.y.y.2.2.1 r28.y.y.2.2.2.1 r28.y.y.w.1 r28.y.y.w.2.1 r28.y.y.w.2.2.1 r28.y.y.w.2.2.2.1 r28.y.y.x.1 r28.y.y.x.2.1 r28.y.y.x.2.2.1 r28.y.y.x.2.2.2.1 r28.y.y.x.w.1 r28.y.y.x.w.2.1 r28.y.y.x.w.2.2.1 r28.y.y.x.w.2.2.2.1 r28.y.y.y.1 r28.y.y.y.2.1 r28.y.y.y.2.2.1 r28.y.y.y.2.2.2.1 r28.y.y.y.w.1 r28.y.y.y.w.2.1 r28.y.y.y.w.2.2.1 r28.y.y.y.w.2.2.2.1 r28.y.y.y.x.1 r28.y.y.y.x.2.1 r28.y.y.y.x.2.2.1 r28.y.y.y.x.2.2.2
 else
 none
 else
 none
 else
 some (mk0 x3 x4 x5 x6 x7 x35 x36 x37 x38 x39 x40 x41 x42 x43 x44 x45 x46 x47 x48 x49 x50 x51 x52 x53 x54 x55 x56 x57 x58 x59 x34)
def Fax.l8_0.g {α : Type} (mk0 : Int → LA → LA → Int → Int → LI → LI → Bool → LI → LI → LI → Int → Int → Int → LI → LI → Bool → LI → Int → Int → LI → LI → Bool → Bool → Bool → Bool → LA → LA → LA → LA → LA → α) (n : Nat) : Nat → Int → Int → LA → Int → LA → LA → Int → Int → LA → LA → Int → Int → LI → LI → Bool → LI → LI → LI → Int → Int → Int → LI → LI → Bool → LI → Int → Int → LI → LI → Int → Bool → Bool → LA → LI → LA → LI → LI → Bool → LI → LI → LI → Int → Int → Int → LI → LI → Bool → LI → Int → Int → LI → LI → Bool → Bool → Bool → Bool → LA → LA → LA → LA → Option α
 | 0, _, _, _, _, _, _, _, _, _, _, _, _, _, _, _, _, _, _, _, _, _, _, _, _, _, _, _, _, _, _, _, _, _, _, _, _, _, _, _, _, _, _, _, _, _, _, _, _, _, _, _, _, _, _, _, _, _, _, _, _ => none
 | m + 1, x0, x1, x2, x3, x4, x5, x6, x7, x8, x9, x10, x11, x12, x13, x14, x15, x16, x17, x18, x19, x20, x21, x22, x23, x24, x25, x26, x27, x28, x29, x30, x31, x32, x33, x34, x35, x36, x37, x38, x39, x40, x41, x42, x43, x44, x45, x46, x47, x48, x49, x50, x51, x52, x53, x54, x55, x56, x57, x58, x59 => Fax.l8_0.r mk0 n (fun y0 y1 y2 y3 y4 y5 y6 y7 y8 y9 y10 y11 y12 y13 y14 y15 y16 y17 y18 y19 y20 y21 y22 y23 y24 y25 y26 y27 y28 y29 y30 y31 y32 y33 y34 y35 y36 y37 y38 y39 y40 y41 y42 y43 y44 y45 y46 y47 y48 y49 y50 y51 y52 y53 y54 y55 y56 y57 y58 y59 => Fax.l8_0.g mk0 n m y0 y1 y2 y3 y4 y5 y6 y7 y8 y9 y10 y11 y12 y13 y14 y15 y16 y17 y18 y19 y20 y21 y22 y23 y24 y25 y26 y27 y28 y29 y30 y31 y32 y33 y34 y35 y36 y37 y38 y39 y40 y41 y42 y43 y44 y45 y46 y47 y48 y49 y50 y51 y52 y53 y54 y55 y56 y57 y58 y59)  x0 x1 x2 x3 x4 x5 x6 x7 x8 x9 x10 x11 x12 x13 x14 x15 x16 x17 x18 x19 x20 x21 x22 x23 x24 x25 x26 x27 x28 x29 x30 x31 x32 x33 x34 x35 x36 x37 x38 x39 x40 x41 x42 x43 x44 x45 x46 x47 x48 x49 x50 x51 x52 x53 x54 x55 x56 x57 x58 x59
def Fax.l8_0.m (n m : Nat) (t : Ty1) : Option Ty6 := Fax.l8_0.g (fun a0 a1 a2 a3 a4 a5 a6 a7 a8 a9 a10 a11 a12 a13 a14 a15 a16 a17 a18 a19 a20 a21 a22 a23 a24 a25 a26 a27 a28 a29 a30 => (a0, a1, a2, a3, a4, a5, a6, a7, a8, a9, a10, a11, a12, a13, a14, a15, a16, a17, a18, a19, a20, a21, a22, a23, a24, a25, a26, a27, a28, a29, a30)) n m t.1 t.2.1 t.2.2.1 t.2.2.2.1 t.w.1 t.w.2.1 t.w.2.2.1 t.w.2.2.2.1 t.x.1 t.x.2.1 t.x.2.2.1 t.x.2.2.2.1 t.x.w.1 t.x.w.2.1 t.x.w.2.2.1 t.x.w.2.2.2.1 t.y.1 t.y.2.1 t.y.2.2.1 t.y.2.2.2.1 t.y.w.1 t.y.w.2.1 t.y.w.2.2.1 t.y.w.2.2.2.1 t.y.x.1 t.y.x.2.1 t.y.x.2.2.1 t.y.x.2.2.2.1 t.y.x.w.1 t.y.x.w.2.1 t.y.x.w.2.2.1 t.y.x.w.2.2.2.1 t.y.y.1 t.y.y.2.1 t.y.y.2.2.1 t.y.y.2.2.2.1 t.y.y.w.1 t.y.y.w.2.1 t.y.y.w.2.2.1 t.y.y.w.2.2.2.1 t.y.y.x.1 t.y.y.x.2.1 t.y.y.x.2.2.1 t.y.y.x.2.2.2.1 t.y.y.x.w.1 t.y.y.x.w.2.1 t.y.y.x.w.2.2.1 t.y.y.x.w.2.2.2.1 t.y.y.y.1 t.y.y.y.2.1 t.y.y.y.2.2.1 t.y.y.y.2.2.2.1 t.y.y.y.w.1 t.y.y.y.w.2.1 t.y.y.y.w.2.2.1 t.y.y.y.w.2.2.2.1 t.y.y.y.x.1 t.y.y.y.x.2.1 t.y.y.y.x.2.2.1 t.y.y.y.x.2.2.2
def Fax.l8_0.p0 : AV → Option Int
 | (.int .i64 x0) => some x0
 | _ => none
def Fax.l8_0.p1 : AV → Option Int
 | (.int .i64 x1) => some x1
 | _ => none
def Fax.l8_0.p2 : AV → Option LA
 | (.robjs 47 32 x2) => some x2
 | _ => none
def Fax.l8_0.p3 : AV → Option Unit
 | (.ptr 0 []) => some ()
 | _ => none
def Fax.l8_0.p4 : AV → Option Unit
 | (.own 1 1) => some ()
 | _ => none
def Fax.l8_0.p5 : AV → Option Unit
 | (.own 2 3) => some ()
 | _ => none
def Fax.l8_0.p6 : AV → Option Int
 | (.int .u8 x3) => some x3
 | _ => none
def Fax.l8_0.p7 : AV → Option (LA × (LA × (Int × Int)))
 | (.rptr (.agg [(.rmap x4), (.rmap x5), (.rmap []), (.rmap []), (.rmap []), (.rmap []), (.int .i64 x6), .snil, .snil, .snil, (.int .i64 x7)])) => some (x4, x5, x6, x7)
 | _ => none
def Fax.l8_0.p8 : AV → Option Unit
 | (.ptr 3 []) => some ()
 | _ => none
def Fax.l8_0.p9 : AV → Option Unit
 | (.ptr 4 []) => some ()
 | _ => none
def Fax.l8_0.p10 : AV → Option Unit
 | (.ptr 5 []) => some ()
 | _ => none
def Fax.l8_0.p11 : Option Blk → Option Ty8
 | (some (.var (.agg [(.rptr (.agg [(.rmap x8), (.rmap x9), (.rmap []), (.rmap []), (.rmap []), (.rmap []), (.int .i64 x10), .snil, .snil, .snil, (.int .i64 x11)])), (.agg [(.ints .u8 20 x12), (.ints .u64 4 x13), (.bool x14), (.ints .u8 20 x15), (.rints .u8 x16), (.rints .u8 x17), (.int .u64 x18), (.int .u64 x19), (.int .u64 x20), (.ints .u64 4 x21), (.ints .u64 4 x22), (.bool x23), (.ints .u8 20 x24), (.int .u64 x25), (.int .u64 x26), (.rints .u8 x27), (.rints .u8 x28)]), (.int .u8 x29), (.bool x30), (.bool x31), (.robjs 47 32 x32)]))) => some (x8, x9, x10, x11, x12, x13, x14, x15, x16, x17, x18, x19, x20, x21, x22, x23, x24, x25, x26, x27, x28, x29, x30, x31, x32)
 | _ => none
def Fax.l8_0.p12 : Option Blk → Option LI
 | (some (.ints .i64 x33)) => some x33
 | _ => none
def Fax.l8_0.p13 : Option Blk → Option LA
 | (some (.objs 41 3 x34)) => some x34
 | _ => none
def Fax.l8_0.p14 : Option Blk → Option Ty12
 | (some (.var (.agg [(.ints .u8 20 x35), (.ints .u64 4 x36), (.bool x37), (.ints .u8 20 x38), (.rints .u8 x39), (.rints .u8 x40), (.int .u64 x41), (.int .u64 x42), (.int .u64 x43), (.ints .u64 4 x44), (.ints .u64 4 x45), (.bool x46), (.ints .u8 20 x47), (.int .u64 x48), (.int .u64 x49), (.rints .u8 x50), (.rints .u8 x51)]))) => some (x35, x36, x37, x38, x39, x40, x41, x42, x43, x44, x45, x46, x47, x48, x49, x50, x51)
 | _ => none
def Fax.l8_0.p15 : Option Blk → Option (Bool × (Bool × (Bool × Bool)))
 | (some (.var (.agg [(.bool x52), (.bool x53), (.bool x54), (.bool x55)]))) => some (x52, x53, x54, x55)
 | _ => none
def Fax.l8_0.p16 : Option Blk → Option (LA × (LA × (LA × LA)))
 | (some (.var (.agg [(.robjs 47 32 x56), (.robjs 47 32 x57), (.robjs 47 32 x58), (.robjs 47 32 x59)]))) => some (x56, x57, x58, x59)
 | _ => none
def Fax.l8_0.pat : St → Option Ty1
 | (St.mk [s0, s1, s2, s3, s4, s5, s6, s7, s8, s9, s10] [s11, s12, s13, s14, s15, s16]) => bindO (Fax.l8_0.p0 s0) fun a0 => bindO (Fax.l8_0.p1 s1) fun a1 => bindO (Fax.l8_0.p2 s2) fun a2 => bindO (Fax.l8_0.p3 s3) fun a3 => bindO (Fax.l8_0.p4 s4) fun a4 => bindO (Fax.l8_0.p5 s5) fun a5 => bindO (Fax.l8_0.p6 s6) fun a6 => bindO (Fax.l8_0.p7 s7) fun a7 => bindO (Fax.l8_0.p8 s8) fun a8 => bindO (Fax.l8_0.p9 s9) fun a9 => bindO (Fax.l8_0.p10 s10) fun a10 => bindO (Fax.l8_0.p11 s11) fun a11 => bindO (Fax.l8_0.p12 s12) fun a12 => bindO (Fax.l8_0.p13 s13) fun a13 => bindO (Fax.l8_0.p14 s14) fun a14 => bindO (Fax.l8_0.p15 s15) fun a15 => bindO (Fax.l8_0.p16 s16) fun a16 => some (a0, a1, a2, a6, a7.1, a7.2.1, a7.2.2.1, a7.2.2.2, a11.1, a11.2.1, a11.2.2.1, a11.2.2.2.1, a11.2.2.2.2.1, a11.2.2.2.2.2.1, a11.2.2.2.2.2.2.1, a11.2.2.2.2.2.2.2.1, a11.2.2.2.2.2.2.2.2.1, a11.2.2.2.2.2.2.2.2.2.1, a11.2.2.2.2.2.2.2.2.2.2.1, a11.2.2.2.2.2.2.2.2.2.2.2.1, a11.2.2.2.2.2.2.2.2.2.2.2.2.1, a11.2.2.2.2.2.2.2.2.2.2.2.2.2.1, a11.2.2.2.2.2.2.2.2.2.2.2.2.2.2.1, a11.2.2.2.2.2.2.2.2.2.2.2.2.2.2.2.1, a11.2.2.2.2.2.2.2.2.2.2.2.2.2.2.2.2.1, a11.2.2.2.2.2.2.2.2.2.2.2.2.2.2.2.2.2.1, a11.2.2.2.2.2.2.2.2.2.2.2.2.2.2.2.2.2.2.1, a11.2.2.2.2.2.2.2.2.2.2.2.2.2.2.2.2.2.2.2.1, a11.2.2.2.2.2.2.2.2.2.2.2.2.2.2.2.2.2.2.2.2.1, a11.2.2.2.2.2.2.2.2.2.2.2.2.2.2.2.2.2.2.2.2.2.1, a11.2.2.2.2.2.2.2.2.2.2.2.2.2.2.2.2.2.2.2.2.2.2.1, a11.2.2.2.2.2.2.2.2.2.2.2.2.2.2.2.2.2.2.2.2.2.2.2.1, a11.2.2.2.2.2.2.2.2.2.2.2.2.2.2.2.2.2.2.2.2.2.2.2.2, a12, a13, a14.1, a14.2.1, a14.2.2.1, a14.2.2.2.1, a14.2.2.2.2.1, a14.2.2.2.2.2.1, a14.2.2.2.2.2.2.1, a14.2.2.2.2.2.2.2.1, a14.2.2.2.2.2.2.2.2.1, a14.2.2.2.2.2.2.2.2.2.1, a14.2.2.2.2.2.2.2.2.2.2.1, a14.2.2.2.2.2.2.2.2.2.2.2.1, a14.2.2.2.2.2.2.2.2.2.2.2.2.1, a14.2.2.2.2.2.2.2.2.2.2.2.2.2.1, a14.2.2.2.2.2.2.2.2.2.2.2.2.2.2.1, a14.2.2.2.2.2.2.2.2.2.2.2.2.2.2.2.1, a14.2.2.2.2.2.2.2.2.2.2.2.2.2.2.2.2, a15.1, a15.2.1, a15.2.2.1, a15.2.2.2, a16.1, a16.2.1, a16.2.2.1, a16.2.2.2)
 | _ => none
def Fax.l8_0.shape (t : Ty1) : St := (St.mk [(.int .i64 t.1), (.int .i64 t.2.1), (.robjs 47 32 t.2.2.1), (.ptr 0 []), (.own 1 1), (.own 2 3), (.int .u8 t.2.2.2.1), (.rptr (.agg [(.rmap t.w.1), (.rmap t.w.2.1), (.rmap []), (.rmap []), (.rmap []), (.rmap []), (.int .i64 t.w.2.2.1), .snil, .snil, .snil, (.int .i64 t.w.2.2.2.1)])), (.ptr 3 []), (.ptr 4 []), (.ptr 5 [])] [(some (.var (.agg [(.rptr (.agg [(.rmap t.x.1), (.rmap t.x.2.1), (.rmap []), (.rmap []), (.rmap []), (.rmap []), (.int .i64 t.x.2.2.1), .snil, .snil, .snil, (.int .i64 t.x.2.2.2.1)])), (.agg [(.ints .u8 20 t.x.w.1), (.ints .u64 4 t.x.w.2.1), (.bool t.x.w.2.2.1), (.ints .u8 20 t.x.w.2.2.2.1), (.rints .u8 t.y.1), (.rints .u8 t.y.2.1), (.int .u64 t.y.2.2.1), (.int .u64 t.y.2.2.2.1), (.int .u64 t.y.w.1), (.ints .u64 4 t.y.w.2.1), (.ints .u64 4 t.y.w.2.2.1), (.bool t.y.w.2.2.2.1), (.ints .u8 20 t.y.x.1), (.int .u64 t.y.x.2.1), (.int .u64 t.y.x.2.2.1), (.rints .u8 t.y.x.2.2.2.1), (.rints .u8 t.y.x.w.1)]), (.int .u8 t.y.x.w.2.1), (.bool t.y.x.w.2.2.1), (.bool t.y.x.w.2.2.2.1), (.robjs 47 32 t.y.y.1)]))), (some (.ints .i64 t.y.y.2.1)), (some (.objs 41 3 t.y.y.2.2.1)), (some (.var (.agg [(.ints .u8 20 t.y.y.2.2.2.1), (.ints .u64 4 t.y.y.w.1), (.bool t.y.y.w.2.1), (.ints .u8 20 t.y.y.w.2.2.1), (.rints .u8 t.y.y.w.2.2.2.1), (.rints .u8 t.y.y.x.1), (.int .u64 t.y.y.x.2.1), (.int .u64 t.y.y.x.2.2.1), (.int .u64 t.y.y.x.2.2.2.1), (.ints .u64 4 t.y.y.x.w.1), (.ints .u64 4 t.y.y.x.w.2.1), (.bool t.y.y.x.w.2.2.1), (.ints .u8 20 t.y.y.x.w.2.2.2.1), (.int .u64 t.y.y.y.1), (.int .u64 t.y.y.y.2.1), (.rints .u8 t.y.y.y.2.2.1), (.rints .u8 t.y.y.y.2.2.2.1)]))), (some (.var (.agg [(.bool t.y.y.y.w.1), (.bool t.y.y.y.w.2.1), (.bool t.y.y.y.w.2.2.1), (.bool t.y.y.y.w.2.2.2.1)]))), (some (.var (.agg [(.robjs 47 32 t.y.y.y.x.1), (.robjs 47 32 t.y.y.y.x.2.1), (.robjs 47 32 t.y.y.y.x.2.2.1), (.robjs 47 32 t.y.y.y.x.2.2.2)])))])
def Fax.l8_0.res : Ty6 → Ex × St
 | u => ((.exit 2), (St.mk [(.int .u8 u.1), (.rptr (.agg [(.rmap u.2.1), (.rmap u.2.2.1), (.rmap []), (.rmap []), (.rmap []), (.rmap []), (.int .i64 u.2.2.2.1), .snil, .snil, .snil, (.int .i64 u.w.1)])), (.ptr 0 []), (.ptr 1 []), (.ptr 2 []), (.own 3 3)] [(some (.var (.agg [(.ints .u8 20 u.w.2.1), (.ints .u64 4 u.w.2.2.1), (.bool u.w.2.2.2.1), (.ints .u8 20 u.x.1), (.rints .u8 u.x.2.1), (.rints .u8 u.x.2.2.1), (.int .u64 u.x.2.2.2.1), (.int .u64 u.x.w.1), (.int .u64 u.x.w.2.1), (.ints .u64 4 u.x.w.2.2.1), (.ints .u64 4 u.x.w.2.2.2.1), (.bool u.y.1), (.ints .u8 20 u.y.2.1), (.int .u64 u.y.2.2.1), (.int .u64 u.y.2.2.2.1), (.rints .u8 u.y.w.1), (.rints .u8 u.y.w.2.1)]))), (some (.var (.agg [(.bool u.y.w.2.2.1), (.bool u.y.w.2.2.2.1), (.bool u.y.x.1), (.bool u.y.x.2.1)]))), (some (.var (.agg [(.robjs 47 32 u.y.x.2.2.1), (.robjs 47 32 u.y.x.2.2.2.1), (.robjs 47 32 u.y.x.w.1), (.robjs 47 32 u.y.x.w.2.1)]))), (some (.objs 41 3 u.y.x.w.2.2))]))
def Fax.l3_0.r {α : Type} (mk0 : LA → α) (n : Nat) (rc : Int → LA → LA → Int → Int → LI → LI → Bool → LI → LI → LI → Int → Int → Int → LI → LI → Bool → LI → Int → Int → LI → LI → Bool → Bool → Bool → Bool → LA → LA → LA → LA → LA → Option α)  (x0 : Int) (x1 x2 : LA) (x3 x4 : Int) (x5 x6 : LI) (x7 : Bool) (x8 x9 x10 : LI) (x11 x12 x13 : Int) (x14 x15 : LI) (x16 : Bool) (x17 : LI) (x18 x19 : Int) (x20 x21 : LI) (x22 x23 : Bool) (x24 x25 : Bool) (x26 x27 : LA) (x28 x29 x30 : LA) : Option α :=
 if (decide (x0 ≤ 3)) = true then
 if x0 = 1 then
 if x7 = true then
 bindO (Fau.m n x27) fun r10 =>
 bindO (Fax.l8_0.m n n (0, (x27.length : Int), x27, 1, x1, x2, x3, x4, x1, x2, x3, x4, x5, x6, x7, x8, x9, x10, x11, x12, x13, x14, x15, x16, x17, x18, x19, x20, x21, 1, x23, (!x24), x27, r10, x30, x5, x6, x7, x8, x9, x10, x11, x12, x13, x14, x15, x16, x17, x18, x19, x20, x21, x22, x23, x24, x25, x26, x27, x28, x29)) fun r12 =>
 rc (IntKind.wrap .u8 (r12.1 + 1)) r12.2.1 r12.2.2.1 r12.2.2.2.1 r12.w.1 r12.w.2.1 r12.w.2.2.1 r12.w.2.2.2.1 r12.x.1 r12.x.2.1 r12.x.2.2.1 r12.x.2.2.2.1 r12.x.w.1 r12.x.w.2.1 r12.x.w.2.2.1 r12.x.w.2.2.2.1 r12.y.1 r12.y.2.1 r12.y.2.2.1 r12.y.2.2.2.1 r12.y.w.1 r12.y.w.2.1 r12.y.w.2.2.1 r12.y.w.2.2.2.1 r12.y.x.1 r12.y.x.2.1 r12.y.x.2.2.1 r12.y.x.2.2.2.1 r12.y.x.w.1 r12.y.x.w.2.1 r12.y.x.w.2.2
 else
 bindO (Fau.m n x27) fun r10 =>
 bindO (Fax.l8_0.m n n (0, (x27.length : Int), x27, 1, x1, x2, x3, x4, x1, x2, x3, x4, x5, x6, x7, x8, x9, x10, x11, x12, x13, x14, x15, x16, x17, x18, x19, x20, x21, 1, x23, false, x27, r10, x30, x5, x6, x7, x8, x9, x10, x11, x12, x13, x14, x15, x16, x17, x18, x19, x20, x21, x22, x23, x24, x25, x26, x27, x28, x29)) fun r12 =>
 rc (IntKind.wrap .u8 (r12.1 + 1)) r12.2.1 r12.2.2.1 r12.2.2.2.1 r12.w.1 r12.w.2.1 r12.w.2.2.1 r12.w.2.2.2.1 r12.x.1 r12.x.2.1 r12.x.2.2.1 r12.x.2.2.2.1 r12.x.w.1 r12.x.w.2.1 r12.x.w.2.2.1 r12.x.w.2.2.2.1 r12.y.1 r12.y.2.1 r12.y.2.2.1 r12.y.2.2.2.1 r12.y.w.1 r12.y.w.2.1 r12.y.w.2.2.1 r12.y.w.2.2.2.1 r12.y.x.1 r12.y.x.2.1 r12.y.x.2.2.1 r12.y.x.2.2.2.1 r12.y.x.w.1 r12.y.x.w.2.1 r12.y.x.w.2.2
 else
 if x0 = 2 then
 if x7 = true then
 bindO (Fau.m n x28) fun r12 =>
 bindO (Fax.l8_0.m n n (0, (x28.length : Int), x28, 2, x1, x2, x3, x4, x1, x2, x3, x4, x5, x6, x7, x8, x9, x10, x11, x12, x13, x14, x15, x16, x17, x18, x19, x20, x21, 2, x24, (!x24), x28, r12, x30, x5, x6, x7, x8, x9, x10, x11, x12, x13, x14, x15, x16, x17, x18, x19, x20, x21, x22, x23, x24, x25, x26, x27, x28, x29)) fun r14 =>
 rc (IntKind.wrap .u8 (r14.1 + 1)) r14.2.1 r14.2.2.1 r14.2.2.2.1 r14.w.1 r14.w.2.1 r14.w.2.2.1 r14.w.2.2.2.1 r14.x.1 r14.x.2.1 r14.x.2.2.1 r14.x.2.2.2.1 r14.x.w.1 r14.x.w.2.1 r14.x.w.2.2.1 r14.x.w.2.2.2.1 r14.y.1 r14.y.2.1 r14.y.2.2.1 r14.y.2.2.2.1 r14.y.w.1 r14.y.w.2.1 r14.y.w.2.2.1 r14.y.w.2.2.2.1 r14.y.x.1 r14.y.x.2.1 r14.y.x.2.2.1 r14.y.x.2.2.2.1 r14.y.x.w.1 r14.y.x.w.2.1 r14.y.x.w.2.2
 else
 bindO (Fau.m n x28) fun r12 =>
 bindO (Fax.l8_0.m n n (0, (x28.length : Int), x28, 2, x1, x2, x3, x4, x1, x2, x3, x4, x5, x6, x7, x8, x9, x10, x11, x12, x13, x14, x15, x16, x17, x18, x19, x20, x21, 2, x24, false, x28, r12, x30, x5, x6, x7, x8, x9, x10, x11, x12, x13, x14, x15, x16, x17, x18, x19, x20, x21, x22, x23, x24, x25, x26, x27, x28, x29)) fun r14 =>
 rc (IntKind.wrap .u8 (r14.1 + 1)) r14.2.1 r14.2.2.1 r14.2.2.2.1 r14.w.1 r14.w.2.1 r14.w.2.2.1 r14.w.2.2.2.1 r14.x.1 r14.x.2.1 r14.x.2.2.1 r14.x.2.2.2.1 r14.x.w.1 r14.x.w.2.1 r14.x.w.2.2.1 r14.x.w.2.2.2.1 r14.y.1 r14.y.2.1 r14.y.2.2.1 r14.y.2.2.2.1 r14.y.w.1 r14.y.w.2.1 r14.y.w.2.2.1 r14.y.w.2.2.2.1 r14.y.x.1 r14.y.x.2.1 r14.y.x.2.2.1 r14.y.x.2.2.2.1 r14.y.x.w.1 r14.y.x.w.2.1 r14.y.x.w.2.2
 else
 if x0 = 3 then
 if x7 = true then
 bindO (Fau.m n x29) fun r14 =>
 bindO (Fax.l8_0.m n n (0, (x29.length : Int), x29, 3, x1, x2, x3, x4, x1, x2, x3, x4, x5, x6, x7, x8, x9, x10, x11, x12, x13, x14, x15, x16, x17, x18, x19, x20, x21, 3, x25, (!x24), x29, r14, x30, x5, x6, x7, x8, x9, x10, x11, x12, x13, x14, x15, x16, x17, x18, x19, x20, x21, x22, x23, x24, x25, x26, x27, x28, x29)) fun r16 =>
 rc (IntKind.wrap .u8 (r16.1 + 1)) r16.2.1 r16.2.2.1 r16.2.2.2.1 r16.w.1 r16.w.2.1 r16.w.2.2.1 r16.w.2.2.2.1 r16.x.1 r16.x.2.1 r16.x.2.2.1 r16.x.2.2.2.1 r16.x.w.1 r16.x.w.2.1 r16.x.w.2.2.1 r16.x.w.2.2.2.1 r16.y.1 r16.y.2.1 r16.y.2.2.1 r16.y.2.2.2.1 r16.y.w.1 r16.y.w.2.1 r16.y.w.2.2.1 r16.y.w.2.2.2.1 r16.y.x.1 r16.y.x.2.1 r16.y.x.2.2.1 r16.y.x.2.2.2.1 r16.y.x.w.1 r16.y.x.w.2.1 r16.y.x.w.2.2
 else
 bindO (Fau.m n x29) fun r14 =>
 bindO (Fax.l8_0.m n n (0, (x29.length : Int), x29, 3, x1, x2, x3, x4, x1, x2, x3, x4, x5, x6, x7, x8, x9, x10, x11, x12, x13, x14, x15, x16, x17, x18, x19, x20, x21, 3, x25, false, x29, r14, x30, x5, x6, x7, x8, x9, x10, x11, x12, x13, x14, x15, x16, x17, x18, x19, x20, x21, x22, x23, x24, x25, x26, x27, x28, x29)) fun r16 =>
 rc (IntKind.wrap .u8 (r16.1 + 1)) r16.2.1 r16.2.2.1 r16.2.2.2.1 r16.w.1 r16.w.2.1 r16.w.2.2.1 r16.w.2.2.2.1 r16.x.1 r16.x.2.1 r16.x.2.2.1 r16.x.2.2.2.1 r16.x.w.1 r16.x.w.2.1 r16.x.w.2.2.1 r16.x.w.2.2.2.1 r16.y.1 r16.y.2.1 r16.y.2.2.1 r16.y.2.2.2.1 r16.y.w.1 r16.y.w.2.1 r16.y.w.2.2.1 r16.y.w.2.2.2.1 r16.y.x.1 r16.y.x.2.1 r16.y.x.2.2.1 r16.y.x.2.2.2.1 r16.y.x.w.1 r16.y.x.w.2.1 r16.y.x.w.2.2
 else
 none
 else
 some (mk0 x30)
def Fax.l3_0.g {α : Type} (mk0 : LA → α) (n : Nat) : Nat → Int → LA → LA → Int → Int → LI → LI → Bool → LI → LI → LI → Int → Int → Int → LI → LI → Bool → LI → Int → Int → LI → LI → Bool → Bool → Bool → Bool → LA → LA → LA → LA → LA → Option α
 | 0, _, _, _, _, _, _, _, _, _, _, _, _, _, _, _, _, _, _, _, _, _, _, _, _, _, _, _, _, _, _, _ => none
 | m + 1, x0, x1, x2, x3, x4, x5, x6, x7, x8, x9, x10, x11, x12, x13, x14, x15, x16, x17, x18, x19, x20, x21, x22, x23, x24, x25, x26, x27, x28, x29, x30 => Fax.l3_0.r mk0 n (fun y0 y1 y2 y3 y4 y5 y6 y7 y8 y9 y10 y11 y12 y13 y14 y15 y16 y17 y18 y19 y20 y21 y22 y23 y24 y25 y26 y27 y28 y29 y30 => Fax.l3_0.g mk0 n m y0 y1 y2 y3 y4 y5 y6 y7 y8 y9 y10 y11 y12 y13 y14 y15 y16 y17 y18 y19 y20 y21 y22 y23 y24 y25 y26 y27 y28 y29 y30)  x0 x1 x2 x3 x4 x5 x6 x7 x8 x9 x10 x11 x12 x13 x14 x15 x16 x17 x18 x19 x20 x21 x22 x23 x24 x25 x26 x27 x28 x29 x30
def Fax.l3_0.m (n m : Nat) (t : Ty6) : Option LA := Fax.l3_0.g (fun a0 => a0) n m t.1 t.2.1 t.2.2.1 t.2.2.2.1 t.w.1 t.w.2.1 t.w.2.2.1 t.w.2.2.2.1 t.x.1 t.x.2.1 t.x.2.2.1 t.x.2.2.2.1 t.x.w.1 t.x.w.2.1 t.x.w.2.2.1 t.x.w.2.2.2.1 t.y.1 t.y.2.1 t.y.2.2.1 t.y.2.2.2.1 t.y.w.1 t.y.w.2.1 t.y.w.2.2.1 t.y.w.2.2.2.1 t.y.x.1 t.y.x.2.1 t.y.x.2.2.1 t.y.x.2.2.2.1 t.y.x.w.1 t.y.x.w.2.1 t.y.x.w.2.2
def Fax.l3_0.pat : St → Option Ty6
 | (St.mk [(.int .u8 x0), (.rptr (.agg [(.rmap x1), (.rmap x2), (.rmap []), (.rmap []), (.rmap []), (.rmap []), (.int .i64 x3), .snil, .snil, .snil, (.int .i64 x4)])), (.ptr 0 []), (.ptr 1 []), (.ptr 2 []), (.own 3 3)] [(some (.var (.agg [(.ints .u8 20 x5), (.ints .u64 4 x6), (.bool x7), (.ints .u8 20 x8), (.rints .u8 x9), (.rints .u8 x10), (.int .u64 x11), (.int .u64 x12), (.int .u64 x13), (.ints .u64 4 x14), (.ints .u64 4 x15), (.bool x16), (.ints .u8 20 x17), (.int .u64 x18), (.int .u64 x19), (.rints .u8 x20), (.rints .u8 x21)]))), (some (.var (.agg [(.bool x22), (.bool x23), (.bool x24), (.bool x25)]))), (some (.var (.agg [(.robjs 47 32 x26), (.robjs 47 32 x27), (.robjs 47 32 x28), (.robjs 47 32 x29)]))), (some (.objs 41 3 x30))]) => some (x0, x1, x2, x3, x4, x5, x6, x7, x8, x9, x10, x11, x12, x13, x14, x15, x16, x17, x18, x19, x20, x21, x22, x23, x24, x25, x26, x27, x28, x29, x30)
 | _ => none
def Fax.l3_0.shape (t : Ty6) : St := (St.mk [(.int .u8 t.1), (.rptr (.agg [(.rmap t.2.1), (.rmap t.2.2.1), (.rmap []), (.rmap []), (.rmap []), (.rmap []), (.int .i64 t.2.2.2.1), .snil, .snil, .snil, (.int .i64 t.w.1)])), (.ptr 0 []), (.ptr 1 []), (.ptr 2 []), (.own 3 3)] [(some (.var (.agg [(.ints .u8 20 t.w.2.1), (.ints .u64 4 t.w.2.2.1), (.bool t.w.2.2.2.1), (.ints .u8 20 t.x.1), (.rints .u8 t.x.2.1), (.rints .u8 t.x.2.2.1), (.int .u64 t.x.2.2.2.1), (.int .u64 t.x.w.1), (.int .u64 t.x.w.2.1), (.ints .u64 4 t.x.w.2.2.1), (.ints .u64 4 t.x.w.2.2.2.1), (.bool t.y.1), (.ints .u8 20 t.y.2.1), (.int .u64 t.y.2.2.1), (.int .u64 t.y.2.2.2.1), (.rints .u8 t.y.w.1), (.rints .u8 t.y.w.2.1)]))), (some (.var (.agg [(.bool t.y.w.2.2.1), (.bool t.y.w.2.2.2.1), (.bool t.y.x.1), (.bool t.y.x.2.1)]))), (some (.var (.agg [(.robjs 47 32 t.y.x.2.2.1), (.robjs 47 32 t.y.x.2.2.2.1), (.robjs 47 32 t.y.x.w.1), (.robjs 47 32 t.y.x.w.2.1)]))), (some (.objs 41 3 t.y.x.w.2.2))])
def Fax.l3_0.res : LA → Ex × St
 | u => ((.exit 0), (St.mk [(.own 0 3)] [(some (.objs 41 3 u))]))
noncomputable def Fax.A (n : Nat) : Ann := ⟨Tryd.f10.ntmps, 0, Fax.live, [(47, (.objs 47 32)), (59, (.ints .u8)), (12, (.ints .i64)), (9, (.objs 41 3))], [(some (.objs 41 3))], fun k => match k with
 | 11 => some (.mk' Fax.l11_0.pat (Fax.l11_0.m n n) (resKl Fax.l11_0.res))
 | 8 => some (.mk' Fax.l8_0.pat (Fax.l8_0.m n n) (resKl Fax.l8_0.res))
 | 3 => some (.mk' Fax.l3_0.pat (Fax.l3_0.m n n) (resKl Fax.l3_0.res))
 | _ => none, noNL, lookJ []⟩
noncomputable def Fax.b0 : Code := (loopsIn (Tryd.f10.body.getD .skip)).getD 0 .skip
noncomputable def Fax.b1 : Code := (loopsIn (Tryd.f10.body.getD .skip)).getD 1 .skip
noncomputable def Fax.b2 : Code := (loopsIn (Tryd.f10.body.getD .skip)).getD 2 .skip
def Fax.g {α : Type} (mk0 : LA → α) (n : Nat) (vd vk : LA) (wa wc : Int) (we wf : LI) (wg : Bool) (wh wi wj : LI) (wk wl wm : Int) (wn wo : LI) (wp : Bool) (wq : LI) (wr ws : Int) (wt wu : LI) (w5 w6 : LA) (w7 w8 : LA) (w9 za : Bool) (zb zc : Bool) : Option α :=
 bindO (Fax.l3_0.m n n (1, vd, vk, wa, wc, we, wf, wg, wh, wi, wj, wk, wl, wm, wn, wo, wp, wq, wr, ws, wt, wu, w9, za, zb, zc, w5, w6, w7, w8, [])) fun r2 =>
 some (mk0 r2)
def Fax.m (n : Nat) (t : Ty7) : Option LA := Fax.g (fun a0 => a0) n t.1 t.2.1 t.2.2.1 t.2.2.2.1 t.w.1 t.w.2.1 t.w.2.2.1 t.w.2.2.2.1 t.x.1 t.x.2.1 t.x.2.2.1 t.x.2.2.2.1 t.x.w.1 t.x.w.2.1 t.x.w.2.2.1 t.x.w.2.2.2.1 t.y.1 t.y.2.1 t.y.2.2.1 t.y.2.2.2.1 t.y.w.1 t.y.w.2.1 t.y.w.2.2.1 t.y.w.2.2.2.1 t.y.x.1 t.y.x.2.1 t.y.x.2.2.1 t.y.x.2.2.2.1 t.y.x.w
def Fax.pat : List AV → Blks → Option Ty7
 | [(.rptr (.agg [(.rmap vd), (.rmap vk), (.rmap []), (.rmap []), (.rmap []), (.rmap []), (.int .i64 wa), .snil, .snil, .snil, (.int .i64 wc)])), (.agg [(.ints .u8 20 we), (.ints .u64 4 wf), (.bool wg), (.ints .u8 20 wh), (.rints .u8 wi), (.rints .u8 wj), (.int .u64 wk), (.int .u64 wl), (.int .u64 wm), (.ints .u64 4 wn), (.ints .u64 4 wo), (.bool wp), (.ints .u8 20 wq), (.int .u64 wr), (.int .u64 ws), (.rints .u8 wt), (.rints .u8 wu)]), (.agg [(.robjs 47 32 w5), (.robjs 47 32 w6), (.robjs 47 32 w7), (.robjs 47 32 w8)]), (.agg [(.bool w9), (.bool za), (.bool zb), (.bool zc)])], [] => some (vd, vk, wa, wc, we, wf, wg, wh, wi, wj, wk, wl, wm, wn, wo, wp, wq, wr, ws, wt, wu, w5, w6, w7, w8, w9, za, zb, zc)
 | _, _ => none
def Fax.shape (t : Ty7) : List AV × Blks := ([(.rptr (.agg [(.rmap t.1), (.rmap t.2.1), (.rmap []), (.rmap []), (.rmap []), (.rmap []), (.int .i64 t.2.2.1), .snil, .snil, .snil, (.int .i64 t.2.2.2.1)])), (.agg [(.ints .u8 20 t.w.1), (.ints .u64 4 t.w.2.1), (.bool t.w.2.2.1), (.ints .u8 20 t.w.2.2.2.1), (.rints .u8 t.x.1), (.rints .u8 t.x.2.1), (.int .u64 t.x.2.2.1), (.int .u64 t.x.2.2.2.1), (.int .u64 t.x.w.1), (.ints .u64 4 t.x.w.2.1), (.ints .u64 4 t.x.w.2.2.1), (.bool t.x.w.2.2.2.1), (.ints .u8 20 t.y.1), (.int .u64 t.y.2.1), (.int .u64 t.y.2.2.1), (.rints .u8 t.y.2.2.2.1), (.rints .u8 t.y.w.1)]), (.agg [(.robjs 47 32 t.y.w.2.1), (.robjs 47 32 t.y.w.2.2.1), (.robjs 47 32 t.y.w.2.2.2.1), (.robjs 47 32 t.y.x.1)]), (.agg [(.bool t.y.x.2.1), (.bool t.y.x.2.2.1), (.bool t.y.x.2.2.2.1), (.bool t.y.x.w)])], [])
def Fax.res : LA → AV × Blks
 | u => ((.own 0 3), [(some (.objs 41 3 u))])
def Fax.c (n : Nat) : Abs.Callee := .mk' [] [none, (some (.agg [none, none, none, none, (some (.ints .u8)), (some (.ints .u8)), none, none, none, none, none, none, none, none, none, (some (.ints .u8)), (some (.ints .u8))])), (some (.agg [(some (.objs 47 32)), (some (.objs 47 32)), (some (.objs 47 32)), (some (.objs 47 32))])), none] Fax.pat (Fax.m n) (resKof Fax.res)
noncomputable def Fbq.C (n : Nat) : Ctx := ⟨Tryd.prog, kecG, lookC [(9, Fbm.c n), (10, Fax.c n)], fun t => t == 3003000 || t == 3003003⟩
noncomputable def Fbq.A (n : Nat) : Ann := ⟨Tryd.f8.ntmps, 0, noNL, [], [none], fun k => match k with
 | _ => none, noNL, lookJ []⟩
def Fbq.g {α : Type} (mk0 : Bool → α) (n : Nat)  : Option α :=
 bindO (Fbm.m n []) fun r2 =>
 bindO (Fax.m n (r2.1, r2.2.1, r2.2.2.1, r2.2.2.2, ([1, 0, 0, 0, 0, 0, 0, 0, 0, 0, 0, 0, 0, 0, 0, 0, 0, 0, 0, 0] : List Int), [0, 0, 0, 0], false, ([0, 0, 0, 0, 0, 0, 0, 0, 0, 0, 0, 0, 0, 0, 0, 0, 0, 0, 0, 0] : List Int), [], [], 0, 0, 0, [0, 0, 0, 0], [0, 0, 0, 0], false, ([0, 0, 0, 0, 0, 0, 0, 0, 0, 0, 0, 0, 0, 0, 0, 0, 0, 0, 0, 0] : List Int), 0, 0, [], [], [], [(AV.agg [(AV.int .u8 66), (AV.int .i64 0), (AV.ints .u8 20 ([1, 0, 0, 0, 0, 0, 0, 0, 0, 0, 0, 0, 0, 0, 0, 0, 0, 0, 0, 0] : List Int)), (AV.ints .u64 4 [0, 0, 0, 0]), (AV.ints .u64 4 [0, 0, 0, 0]), AV.snil, (AV.int .u16 0)])], [], [], false, false, false, false)) fun r4 =>
 bindO (Fax.m n (r2.1, r2.2.1, r2.2.2.1, r2.2.2.2, ([1, 0, 0, 0, 0, 0, 0, 0, 0, 0, 0, 0, 0, 0, 0, 0, 0, 0, 0, 0] : List Int), [0, 0, 0, 0], false, ([0, 0, 0, 0, 0, 0, 0, 0, 0, 0, 0, 0, 0, 0, 0, 0, 0, 0, 0, 0] : List Int), [], [], 0, 0, 0, [0, 0, 0, 0], [0, 0, 0, 0], false, ([0, 0, 0, 0, 0, 0, 0, 0, 0, 0, 0, 0, 0, 0, 0, 0, 0, 0, 0, 0] : List Int), 0, 0, [], [], [], [(AV.agg [(AV.int .u8 84), (AV.int .i64 0), (AV.ints .u8 20 ([2, 0, 0, 0, 0, 0, 0, 0, 0, 0, 0, 0, 0, 0, 0, 0, 0, 0, 0, 0] : List Int)), (AV.ints .u64 4 [7, 0, 0, 0]), (AV.ints .u64 4 [0, 0, 0, 0]), AV.snil, (AV.int .u16 0)])], [], [], false, false, false, false)) fun r6 =>
 bindO (Fax.m n (r2.1, r2.2.1, r2.2.2.1, r2.2.2.2, ([1, 0, 0, 0, 0, 0, 0, 0, 0, 0, 0, 0, 0, 0, 0, 0, 0, 0, 0, 0] : List Int), [0, 0, 0, 0], false, ([0, 0, 0, 0, 0, 0, 0, 0, 0, 0, 0, 0, 0, 0, 0, 0, 0, 0, 0, 0] : List Int), [], [], 0, 0, 0, [0, 0, 0, 0], [0, 0, 0, 0], false, ([0, 0, 0, 0, 0, 0, 0, 0, 0, 0, 0, 0, 0, 0, 0, 0, 0, 0, 0, 0] : List Int), 0, 0, [], [], [], [(AV.agg [(AV.int .u8 84), (AV.int .i64 0), (AV.ints .u8 20 ([1, 0, 0, 0, 0, 0, 0, 0, 0, 0, 0, 0, 0, 0, 0, 0, 0, 0, 0, 0] : List Int)), (AV.ints .u64 4 [7, 0, 0, 0]), (AV.ints .u64 4 [0, 0, 0, 0]), AV.snil, (AV.int .u16 0)])], [], [], false, false, false, false)) fun r8 =>
 if ((r4.length : Int) == 1) = true then
 if 0 < (r4.length : Int) then
 bindO (tkAgg 3 (List.getD r4 0 AV.any)) fun r14 =>
 bindO (tkInt .u8 (List.getD r14 0 AV.any)) fun r16 =>
 bindO (tkInt .u8 (List.getD r14 1 AV.any)) fun r18 =>
 bindO (tkInt .i64 (List.getD r14 2 AV.any)) fun r20 =>
 if ((r16 == 1) && ((r18 == 1) && ((r20 == 0) && true))) = true then
 if ((r6.length : Int) == 1) = true then
 if 0 < (r6.length : Int) then
 bindO (tkAgg 3 (List.getD r6 0 AV.any)) fun r28 =>
 bindO (tkInt .u8 (List.getD r28 0 AV.any)) fun r30 =>
 bindO (tkInt .u8 (List.getD r28 1 AV.any)) fun r32 =>
 bindO (tkInt .i64 (List.getD r28 2 AV.any)) fun r34 =>
 bindO (tkAgg 3 (List.getD r6 0 AV.any)) fun r36 =>
 bindO (tkInt .u8 (List.getD r36 0 AV.any)) fun r38 =>
 bindO (tkInt .u8 (List.getD r36 1 AV.any)) fun r40 =>
 bindO (tkInt .i64 (List.getD r36 2 AV.any)) fun r42 =>
 if (r38 == 8) = true then
 some (mk0 ((r8.length : Int) == 0))
 else
 some (mk0 false)
 else
 none
 else
 some (mk0 false)
 else
 some (mk0 false)
 else
 none
 else
 some (mk0 false)
def Fbq.m (n : Nat) (t : Unit) : Option Bool := Fbq.g (fun a0 => a0) n 
def Fbq.pat : List AV → Blks → Option Unit
 | [], [] => some ()
 | _, _ => none
def Fbq.shape (t : Unit) : List AV × Blks := ([], [])
def Fbq.res : Bool → AV × Blks
 | u => ((.bool u), [])
def Fbq.c (n : Nat) : Abs.Callee := .mk' [] [] Fbq.pat (Fbq.m n) (resKof Fbq.res)
noncomputable def Fai.C (n : Nat) : Ctx := ⟨Tryd.prog, kecG, lookC [(7, Fbj.c n), (11, Fao.c n), (12, Fbd.c n), (8, Fbq.c n), (9, Fbm.c n), (13, Far.c n), (15, Fcj.c n), (14, Fbe.c n)], fun _ => false⟩
noncomputable def Fai.A (n : Nat) : Ann := ⟨Tryd.f6.ntmps, 0, noNL, [], [none], fun k => match k with
 | _ => none, noNL, lookJ []⟩
def Fai.g {α : Type} (mk0 : Bool → α) (n : Nat) (a0 : LA) (we wf : LI) (wg : Bool) (wh wi wj : LI) (wk wl wm : Int) (wn wo : LI) (wp : Bool) (wq : LI) (wr ws : Int) (wt wu : LI) (a2 : Int) : Option α :=
 bindO (Fbj.m n (a0, [])) fun r2 =>
 if r2 = true then
 some (mk0 true)
 else
 bindO (Fao.m n (we, wf, wg, wh, wi, wj, wk, wl, wm, wn, wo, wp, wq, wr, ws, wt, wu, a2)) fun r6 =>
 bindO (Fbd.m n (we, wf, wg, wh, wi, wj, wk, wl, wm, wn, wo, wp, wq, wr, ws, wt, wu, a2)) fun r8 =>
 bindO (Fbq.m n Unit.unit) fun r10 =>
 if r10 = true then
 if (r6.1 == r8.1) = true then
 if (r6.2 == r8.2) = true then
 bindO (Fbm.m n a0) fun r18 =>
 bindO (Far.m n (r18.1, r18.2.1, r18.2.2.1, r18.2.2.2, we, wf, wg, wh, wi, wj, wk, wl, wm, wn, wo, wp, wq, wr, ws, wt, wu)) fun r20 =>
 bindO (Fcj.m n a0) fun r22 =>
 bindO (Fbe.m n (r22.1, r22.2.1, r22.2.2.1, r22.2.2.2, we, wf, wg, wh, wi, wj, wk, wl, wm, wn, wo, wp, wq, wr, ws, wt, wu)) fun r24 =>
 some (mk0 ((r20.1 == r24.1) && ((r20.2.1 == r24.2.1) && ((r20.2.2.1 == r24.2.2.1) && ((r20.2.2.2 == r24.2.2.2) && true)))))
 else
 some (mk0 false)
 else
 some (mk0 false)
 else
 some (mk0 false)
def Fai.m (n : Nat) (t : Ty10) : Option Bool := Fai.g (fun a0 => a0) n t.1 t.2.1 t.2.2.1 t.2.2.2.1 t.w.1 t.w.2.1 t.w.2.2.1 t.w.2.2.2.1 t.x.1 t.x.2.1 t.x.2.2.1 t.x.2.2.2.1 t.x.w.1 t.x.w.2.1 t.x.w.2.2.1 t.x.w.2.2.2.1 t.y.1 t.y.2.1 t.y.2.2
def Fai.shape (t : Ty10) : List AV × Blks := ([(.robjs 72 27 t.1), (.agg [(.ints .u8 20 t.2.1), (.ints .u64 4 t.2.2.1), (.bool t.2.2.2.1), (.ints .u8 20 t.w.1), (.rints .u8 t.w.2.1), (.rints .u8 t.w.2.2.1), (.int .u64 t.w.2.2.2.1), (.int .u64 t.x.1), (.int .u64 t.x.2.1), (.ints .u64 4 t.x.2.2.1), (.ints .u64 4 t.x.2.2.2.1), (.bool t.x.w.1), (.ints .u8 20 t.x.w.2.1), (.int .u64 t.x.w.2.2.1), (.int .u64 t.x.w.2.2.2.1), (.rints .u8 t.y.1), (.rints .u8 t.y.2.1)]), (.int .u8 t.y.2.2)], [])
def Fai.res : Bool → AV × Blks
 | u => ((.bool u), [])
noncomputable abbrev Fav.R0 (n : Nat) := roundOf (Fav.C n) (Fav.A n) n Fav.b0
def Fav.l3_0.T {α : Type} (mk0 : Int → α) (n : Nat) (f : (Int × (LA × (Int × Int))) → Option α) (t : (Int × (LA × (Int × Int)))) : Option α := Fav.l3_0.r mk0 n (fun y0 y1 y2 y3 => f (y0, y1, y2, y3)) t.1 t.2.1 t.2.2.1 t.2.2.2
theorem Fav.l3_0.rmap : (Fav.l3_0.T (fun a0 => a0) n f t).map Fav.l3_0.res = Fav.l3_0.T (fun a0 => Fav.l3_0.res a0) n (fun y => (f y).map Fav.l3_0.res) t := by
  unfold Fav.l3_0.T Fav.l3_0.r
  exact Eq.symm (ite_map (ite_map (ite_map (ite_map (bindO_map fun r12 => (bindO_map fun r14 => (bindO_map fun r16 => (bindO_map fun r18 => (bindO_map fun r20 => (bindO_map fun r22 => (bindO_map fun r24 => (ite_map (ite_map (bindO_map fun r30 => (bindO_map fun r32 => (bindO_map fun r34 => (bindO_map fun r36 => (bindO_map fun r38 => (bindO_map fun r40 => (bindO_map fun r42 => rfl))))))) rfl) rfl)))))))) rfl) rfl) rfl) rfl)
theorem Fav.l3_0.pat_shape : ∀ st t, Fav.l3_0.pat st = some t → st = Fav.l3_0.shape t := fun _ _ h => by unfold Fav.l3_0.pat at h; split at h <;> cases h; rfl
theorem Fav.l3_0.round : Fav.R0 n rc (Fav.l3_0.shape t) = Fav.l3_0.T (fun a0 => Fav.l3_0.res a0) n (fun y => rc (Fav.l3_0.shape y)) t := by kernel_rfl
theorem Fav.l3_0.loop (n m : Nat) (t : (Int × (LA × (Int × Int)))) : loopOf (Fav.R0 n) m (Fav.l3_0.shape t) = (Fav.l3_0.m n m t).map Fav.l3_0.res :=
  loop_map (fun _ _ => Fav.l3_0.rmap) (fun _ _ => Fav.l3_0.round) (fun _ => rfl) (fun _ _ => by kernel_rfl) m t
theorem Fav.run : runS (Fav.C n) (Fav.A n) n Tryd.f16 (Fav.shape t) = (Fav.m n t).map Fav.res :=
  (show _ = Fav.g (fun a0 => Fav.res a0) n t.1 t.2 from by kernel_rfl).trans (by
    unfold Fav.m Fav.g
    exact (bindO_map fun r2 => rfl))
theorem Fav.s (hmix : HM) (n : Nat) : CalleeS Tryd.prog kecG 16 (Fav.c n) :=
  .mkF (res := Fav.res) (shape := Fav.shape) (C := Fav.C n) (A := Fav.A n) (fun R u K => rfl) (fun _ _ _ h => by unfold Fav.pat at h; split at h <;> cases h; rfl) rfl .nil hmix Tryd.func16 (by kernel_rfl) (lp := [Fav.b0]) (by kernel_rfl) (.cons (show (Fav.A n).loop (key Fav.b0) = some (.mk' Fav.l3_0.pat (Fav.l3_0.m n n) (resKl Fav.l3_0.res)) by kernel_rfl) (LoopS.of (res := Fav.l3_0.res) (fun R u K => rfl) Fav.l3_0.pat_shape fun t => Fav.l3_0.loop n n t)
  .nil)
  (nj rfl) (by decide) (fun _ => rfl) rfl (fun _ => by show 2 ≤ Tryd.f16.ntmps; decide) (fun _ => Fav.run)
noncomputable abbrev Fbc.R0 (n : Nat) := roundOf (Fbc.C n) (Fbc.A n) n Fbc.b0
def Fbc.l3_0.T {α : Type} (mk0 : Int → α) (n : Nat) (f : (Int × (LA × (Int × Int))) → Option α) (t : (Int × (LA × (Int × Int)))) : Option α := Fbc.l3_0.r mk0 n (fun y0 y1 y2 y3 => f (y0, y1, y2, y3)) t.1 t.2.1 t.2.2.1 t.2.2.2
theorem Fbc.l3_0.rmap : (Fbc.l3_0.T (fun a0 => a0) n f t).map Fbc.l3_0.res = Fbc.l3_0.T (fun a0 => Fbc.l3_0.res a0) n (fun y => (f y).map Fbc.l3_0.res) t := by
  unfold Fbc.l3_0.T Fbc.l3_0.r
  exact Eq.symm (ite_map (ite_map (ite_map (ite_map (bindO_map fun r12 => (bindO_map fun r14 => (bindO_map fun r16 => (bindO_map fun r18 => (bindO_map fun r20 => (bindO_map fun r22 => (bindO_map fun r24 => (bindO_map fun r26 => rfl)))))))) rfl) rfl) rfl) rfl)
theorem Fbc.l3_0.pat_shape : ∀ st t, Fbc.l3_0.pat st = some t → st = Fbc.l3_0.shape t := fun _ _ h => by unfold Fbc.l3_0.pat at h; split at h <;> cases h; rfl
theorem Fbc.l3_0.round : Fbc.R0 n rc (Fbc.l3_0.shape t) = Fbc.l3_0.T (fun a0 => Fbc.l3_0.res a0) n (fun y => rc (Fbc.l3_0.shape y)) t := by kernel_rfl
theorem Fbc.l3_0.loop (n m : Nat) (t : (Int × (LA × (Int × Int)))) : loopOf (Fbc.R0 n) m (Fbc.l3_0.shape t) = (Fbc.l3_0.m n m t).map Fbc.l3_0.res :=
  loop_map (fun _ _ => Fbc.l3_0.rmap) (fun _ _ => Fbc.l3_0.round) (fun _ => rfl) (fun _ _ => by kernel_rfl) m t
theorem Fbc.run : runS (Fbc.C n) (Fbc.A n) n Tryd.f17 (Fbc.shape t) = (Fbc.m n t).map Fbc.res :=
  (show _ = Fbc.g (fun a0 => Fbc.res a0) n t.1 t.2 from by kernel_rfl).trans (by
    unfold Fbc.m Fbc.g
    exact (bindO_map fun r2 => rfl))
theorem Fbc.s (hmix : HM) (n : Nat) : CalleeS Tryd.prog kecG 17 (Fbc.c n) :=
  .mkF (res := Fbc.res) (shape := Fbc.shape) (C := Fbc.C n) (A := Fbc.A n) (fun R u K => rfl) (fun _ _ _ h => by unfold Fbc.pat at h; split at h <;> cases h; rfl) rfl .nil hmix Tryd.func17 (by kernel_rfl) (lp := [Fbc.b0]) (by kernel_rfl) (.cons (show (Fbc.A n).loop (key Fbc.b0) = some (.mk' Fbc.l3_0.pat (Fbc.l3_0.m n n) (resKl Fbc.l3_0.res)) by kernel_rfl) (LoopS.of (res := Fbc.l3_0.res) (fun R u K => rfl) Fbc.l3_0.pat_shape fun t => Fbc.l3_0.loop n n t)
  .nil)
  (nj rfl) (by decide) (fun _ => rfl) rfl (fun _ => by show 2 ≤ Tryd.f17.ntmps; decide) (fun _ => Fbc.run)
theorem Fbj.run : runS (Fbj.C n) (Fbj.A n) n Tryd.f7 (Fbj.shape t) = (Fbj.m n t).map Fbj.res :=
  (show _ = Fbj.g (fun a0 => Fbj.res a0) n t.1 t.2 from by kernel_rfl).trans (by
    unfold Fbj.m Fbj.g
    exact (bindO_map fun r2 => (ite_map rfl (bindO_map fun r6 => rfl))))
theorem Fbj.s (hmix : HM) (n : Nat) : CalleeS Tryd.prog kecG 7 (Fbj.c n) :=
  .mkF (res := Fbj.res) (shape := Fbj.shape) (C := Fbj.C n) (A := Fbj.A n) (fun R u K => rfl) (fun _ _ _ h => by unfold Fbj.pat at h; split at h <;> cases h; rfl) rfl (.cons (Fav.s hmix n) (.cons (Fbc.s hmix n) .nil)) hmix Tryd.func7 (by kernel_rfl) (lp := []) (by kernel_rfl) .nil
  (nj rfl) (by decide) (fun _ => rfl) rfl (fun _ => by show 2 ≤ Tryd.f7.ntmps; decide) (fun _ => Fbj.run)
theorem Fao.run : runS (Fao.C n) (Fao.A n) n Tryd.f11 (Fao.shape t) = (Fao.m n t).map Fao.res :=
  (show _ = Fao.g (fun a0 a1 => Fao.res (a0, a1)) n t.1 t.2.1 t.2.2.1 t.2.2.2.1 t.w.1 t.w.2.1 t.w.2.2.1 t.w.2.2.2.1 t.x.1 t.x.2.1 t.x.2.2.1 t.x.2.2.2.1 t.x.w.1 t.x.w.2.1 t.x.w.2.2.1 t.x.w.2.2.2.1 t.y.1 t.y.2 from by kernel_rfl).trans (by
    unfold Fao.m Fao.g
    exact (ite_map rfl (ite_map (ite_map rfl (ite_map (ite_map rfl rfl) rfl)) (ite_map (ite_map rfl rfl) rfl))))
theorem Fao.s (hmix : HM) (n : Nat) : CalleeS Tryd.prog kecG 11 (Fao.c n) :=
  .mkF (res := Fao.res) (shape := Fao.shape) (C := Fao.C n) (A := Fao.A n) (fun R u K => rfl) (fun _ _ _ h => by unfold Fao.pat at h; split at h <;> cases h; rfl) rfl .nil hmix Tryd.func11 (by kernel_rfl) (lp := []) (by kernel_rfl) .nil
  (nj rfl) (by decide) (fun _ => rfl) rfl (fun _ => by show 2 ≤ Tryd.f11.ntmps; decide) (fun _ => Fao.run)
theorem Fbd.run : runS (Fbd.C n) (Fbd.A n) n Tryd.f12 (Fbd.shape t) = (Fbd.m n t).map Fbd.res :=
  (show _ = Fbd.g (fun a0 a1 => Fbd.res (a0, a1)) n t.1 t.2.1 t.2.2.1 t.2.2.2.1 t.w.1 t.w.2.1 t.w.2.2.1 t.w.2.2.2.1 t.x.1 t.x.2.1 t.x.2.2.1 t.x.2.2.2.1 t.x.w.1 t.x.w.2.1 t.x.w.2.2.1 t.x.w.2.2.2.1 t.y.1 t.y.2 from by kernel_rfl).trans (by
    unfold Fbd.m Fbd.g
    exact (ite_map rfl (ite_map (ite_map rfl rfl) (ite_map (ite_map rfl rfl) rfl))))
theorem Fbd.s (hmix : HM) (n : Nat) : CalleeS Tryd.prog kecG 12 (Fbd.c n) :=
  .mkF (res := Fbd.res) (shape := Fbd.shape) (C := Fbd.C n) (A := Fbd.A n) (fun R u K => rfl) (fun _ _ _ h => by unfold Fbd.pat at h; split at h <;> cases h; rfl) rfl .nil hmix Tryd.func12 (by kernel_rfl) (lp := []) (by kernel_rfl) .nil
  (nj rfl) (by decide) (fun _ => rfl) rfl (fun _ => by show 2 ≤ Tryd.f12.ntmps; decide) (fun _ => Fbd.run)
theorem Fg.run : runS (Fg.C n) (Fg.A n) n Tryd.f33 (Fg.shape t) = (Fg.m n t).map Fg.res :=
  (show _ = Fg.g (fun a0 => Fg.res a0) n t.1 t.2.1 t.2.2.1 t.2.2.2 from by kernel_rfl).trans (by
    unfold Fg.m Fg.g
    exact rfl)
theorem Fg.s (hmix : HM) (n : Nat) : CalleeS Tryd.prog kecG 33 (Fg.c n) :=
  .mkF (res := Fg.res) (shape := Fg.shape) (C := Fg.C n) (A := Fg.A n) (fun R u K => rfl) (fun _ _ _ h => by unfold Fg.pat at h; split at h <;> cases h; rfl) rfl .nil hmix Tryd.func33 (by kernel_rfl) (lp := []) (by kernel_rfl) .nil
  (nj rfl) (by decide) (fun _ => rfl) rfl (fun _ => by show 3 ≤ Tryd.f33.ntmps; decide) (fun _ => Fg.run)
section
namespace Go.Abs
open Go Go.Proofs
def cSnd : Code → Code
 | .seq _ b => b
 | c => c
def cFst : Code → Code
 | .seq a _ => a
 | c => c
def cBlk : Code → Code
 | .block _ b => b
 | c => c
def cLoop : Code → Code
 | .loop b => b
 | c => c
def cOps : Code → Array Oper
 | .region _ ops _ => ops
 | _ => #[]
noncomputable def dfBody : Code := Tryd.f32.body.getD .skip
noncomputable def dfLp : Code := cLoop (cBlk (cSnd dfBody))
noncomputable def dfO0 : Array Oper := cOps (cFst dfBody)
noncomputable def dfO1 : Array Oper := cOps (cFst dfLp)
noncomputable def dfB1 : Code := cBlk (cSnd (cSnd dfLp))
noncomputable def dfO2 : Array Oper := cOps (cFst dfB1)
noncomputable def dfRest : Code := cSnd dfB1
theorem dfShape : Tryd.f32.body = some (.seq (.region 0 dfO0 false) (.block 0 (.loop (.seq (.region 1 dfO1 false) (.seq (.cond (.tmp 9) .skip (.exit 0)) (.block 1 (.seq (.region 2 dfO2 false) dfRest))))))) := by kernel_rfl
noncomputable def dfN : Oper := dfO1.getD 0 default
noncomputable def dfE : Oper := dfO2.getD 0 default
theorem dfN_op : (dfN.op, dfN.dst, dfN.guard) = (.next (.tmp 7) false, some 8, none) := by kernel_rfl
theorem dfE_op : (dfE.op, dfE.dst, dfE.guard) = (.entry (.tmp 7), some 10, none) := by kernel_rfl
noncomputable def dfM0 : Oper := dfO0.getD 0 default
noncomputable def dfR0 : Oper := dfO0.getD 1 default
theorem dfO0_eq : dfO0.toList = [dfM0, dfR0] := by kernel_rfl
theorem dfM0_op : (dfM0.op, dfM0.dst, dfM0.guard) = (.move (.tmp 0), some 6, none) := by kernel_rfl
theorem dfR0_op : (dfR0.op, dfR0.dst, dfR0.guard) = (.range 60 (.tmp 6), some 7, none) := by kernel_rfl
theorem dfUnder : Tryd.prog.underlying 60 = some (.map 79 27) := by kernel_rfl
noncomputable def dfC (n : Nat) : Ctx := ⟨Tryd.prog, kecG, fun f => match f with
 | 33 => some (Fg.c n)
 | _ => none, fun _ => false⟩
theorem dfΓ (hmix : Tryd.prog.follows .mixedOrders = true) (n : Nat) : ∀ f m, (dfC n).Γ f = some m → CalleeS (dfC n).P (dfC n).G f m := by
 intro f m hm
 unfold dfC at hm
 simp only at hm
 split at hm
 ·cases hm; exact Fg.s hmix n
 ·cases hm
def dfTm (r it : Nat) (a : List Int) : List AV := [.raw (.map (some r)), .fn (.func 33) [] [.rptr (.ints .u8 20 a)], .any, .any, .any, .any, .any, .raw (.pointer (some ⟨it, 0, none⟩))] ++ List.replicate 11 .any
def dfKey (ad k : List Int) : AV := .agg [.ints .u8 20 ad, .ints .u64 4 k]
noncomputable def dfO3 : Array Oper := cOps (cFst dfRest)
def cTh : Code → Code
 | .cond _ a _ => a
 | c => c
noncomputable def dfO4 : Array Oper := cOps (cTh (cSnd dfRest))
theorem dfRest_eq : dfRest = .seq (.region 3 dfO3 false) (.cond (.tmp 16) (.region 4 dfO4 false) .skip) := by kernel_rfl
noncomputable def dfP (i : Nat) : Oper := dfO2.getD i default
noncomputable def dfQ (i : Nat) : Oper := dfO3.getD i default
noncomputable def dfS (i : Nat) : Oper := dfO4.getD i default
noncomputable def dfX : Oper := dfO1.getD 1 default
theorem dfO1_eq2 : dfO1.toList = [dfN, dfX] := by kernel_rfl
theorem dfX_op : (dfX.op, dfX.dst, dfX.guard) = (.extract (.tmp 8) 0, some 9, none) := by kernel_rfl
theorem dfO2_eq2 : dfO2.toList = [dfE, dfP 1, dfP 2, dfP 3, dfP 4, dfP 5, dfP 6] := by kernel_rfl
theorem dfO3_eq : dfO3.toList = [dfQ 0, dfQ 1, dfQ 2, dfQ 3] := by kernel_rfl
theorem dfO4_eq : dfO4.toList = [dfS 0, dfS 1, dfS 2] := by kernel_rfl
section
variable (n r it : Nat) (a ad k v : List Int)
def t10 : List AV := ((((dfTm r it a).set 8 .any).set 9 .any).set 10 (.tup [dfKey ad k, .ints .u64 4 v]))
def t11 : List AV := (t10 r it a ad k v).set 11 (dfKey ad k)
def t12 : List AV := (t11 r it a ad k v).set 12 (.ints .u64 4 v)
def t4 : List AV := (t12 r it a ad k v).set 4 (.ptr 0 [])
def t5 : List AV := (t4 r it a ad k v).set 5 (.ptr 1 [])
def t13 : List AV := (t5 r it a ad k v).set 13 (.fn (.func 33) [] [.rptr (.ints .u8 20 a)])
def t14 : List AV := (t13 r it a ad k v).set 14 (dfKey ad k)
def t15 : List AV := (t14 r it a ad k v).set 15 (.ints .u64 4 v)
def t16 : List AV := (t15 r it a ad k v).set 16 (.bool (ad == a))
def t17 : List AV := (t16 r it a ad k v).set 17 (.raw (.map (some r)))
def z20 : List Int := List.replicate 20 0
def z4 : List Int := List.replicate 4 0
def B1 : Blks := [some (.var (dfKey z20 z4))]
def B2 : Blks := [some (.var (dfKey z20 z4)), some (.var (.ints .u64 4 z4))]
def B3 : Blks := [some (.var (dfKey ad k)), some (.var (.ints .u64 4 z4))]
def B4 : Blks := [some (.var (dfKey ad k)), some (.var (.ints .u64 4 v))]
theorem s1 : opK (dfC n) (dfP 1) (get (dfC n) (t10 r it a ad k v)) [] (fun _ v bl => some (v, bl)) = some (dfKey ad k, []) := by kernel_rfl
theorem s2 : opK (dfC n) (dfP 2) (get (dfC n) (t11 r it a ad k v)) [] (fun _ v bl => some (v, bl)) = some (.ints .u64 4 v, []) := by kernel_rfl
theorem s3 : opK (dfC n) (dfP 3) (get (dfC n) (t12 r it a ad k v)) [] (fun _ v bl => some (v, bl)) = some (.ptr 0 [], B1) := by kernel_rfl
theorem s4 : opK (dfC n) (dfP 4) (get (dfC n) (t4 r it a ad k v)) B1 (fun _ v bl => some (v, bl)) = some (.ptr 1 [], B2) := by kernel_rfl
theorem s5 : opK (dfC n) (dfP 5) (get (dfC n) (t5 r it a ad k v)) B2 (fun _ v bl => some (v, bl)) = some (.any, B3 ad k) := by kernel_rfl
theorem s6 : opK (dfC n) (dfP 6) (get (dfC n) (t5 r it a ad k v)) (B3 ad k) (fun _ v bl => some (v, bl)) = some (.any, B4 ad k v) := by kernel_rfl
theorem u0 : opK (dfC n) (dfQ 0) (get (dfC n) (t5 r it a ad k v)) (B4 ad k v) (fun _ v bl => some (v, bl)) = some (.fn (.func 33) [] [.rptr (.ints .u8 20 a)], B4 ad k v) := by kernel_rfl
theorem u1 : opK (dfC n) (dfQ 1) (get (dfC n) (t13 r it a ad k v)) (B4 ad k v) (fun _ v bl => some (v, bl)) = some (dfKey ad k, B4 ad k v) := by kernel_rfl
theorem u2 : opK (dfC n) (dfQ 2) (get (dfC n) (t14 r it a ad k v)) (B4 ad k v) (fun _ v bl => some (v, bl)) = some (.ints .u64 4 v, B4 ad k v) := by kernel_rfl
theorem u3 : opK (dfC n) (dfQ 3) (get (dfC n) (t15 r it a ad k v)) (B4 ad k v) (fun _ v bl => some (v, bl)) = some (.bool (ad == a), B4 ad k v) := by kernel_rfl
theorem y0 : opK (dfC n) (dfS 0) (get (dfC n) (t16 r it a ad k v)) (B4 ad k v) (fun _ v bl => some (v, bl)) = some (.raw (.map (some r)), B4 ad k v) := by kernel_rfl
theorem y1 : opK (dfC n) (dfS 1) (get (dfC n) (t17 r it a ad k v)) (B4 ad k v) (fun _ v bl => some (v, bl)) = some (dfKey ad k, B4 ad k v) := by kernel_rfl
end
theorem dP : ((dfP 1).dst, (dfP 2).dst, (dfP 3).dst, (dfP 4).dst, (dfP 5).dst, (dfP 6).dst) = (some 11, some 12, some 4, some 5, none, none) := by kernel_rfl
theorem gP : ((dfP 1).guard, (dfP 2).guard, (dfP 3).guard, (dfP 4).guard, (dfP 5).guard, (dfP 6).guard) = (none, none, none, none, none, none) := by kernel_rfl
theorem dQ : ((dfQ 0).dst, (dfQ 1).dst, (dfQ 2).dst, (dfQ 3).dst) = (some 13, some 14, some 15, some 16) := by kernel_rfl
theorem gQ : ((dfQ 0).guard, (dfQ 1).guard, (dfQ 2).guard, (dfQ 3).guard) = (none, none, none, none) := by kernel_rfl
theorem dS : ((dfS 0).dst, (dfS 1).dst, (dfS 2).dst) = (some 17, some 18, none) := by kernel_rfl
theorem gS : ((dfS 0).guard, (dfS 1).guard, (dfS 2).guard) = (none, none, none) := by kernel_rfl
theorem dfS_op : ∃ c, (dfS 2).op = .call c ∧ c.callee = .builtin .delete ∧ c.args = #[.tmp 17, .tmp 18] ∧ c.argTypes[0]? = some 60 := ⟨match (dfS 2).op with | .call c => c | _ => default, by kernel_rfl, by kernel_rfl, by kernel_rfl, by kernel_rfl⟩
end Go.Abs
end
