/- What the program's functions compute, as plain functions, each with its proof: the function does just that. Condition: the plain function has an answer. -/
import Derived.Test.YtkknbhapkdgcjaaDoorAbsP8
import Derived.Test.YtkknbhapkdgcjaaDoorProg
import Derived.Test.YtkknbhapkdgcjaaDoorFnRulesStakes1
import Derived.Test.YtkknbhapkdgcjaaDoorAbsP2
set_option linter.unusedVariables false
set_option linter.unusedSimpArgs false
set_option maxRecDepth 100000
open Go Go.Abs Go.Proofs
set_option autoImplicit true
set_option relaxedAutoImplicit true
noncomputable section
noncomputable def Fx.C (n : Nat) : Ctx := ⟨Tryd.prog, kecG, lookC [(55, Ft.c n), (57, Fbh.c n), (56, Faz.c n), (58, Fw.c n), (59, Fl.c n), (60, Fac.c n)], fun _ => false⟩
noncomputable def Fx.A (n : Nat) : Ann := ⟨Tryd.f39.ntmps, 0, noNL, [], [none], fun k => match k with
 | _ => none, noNL, lookJ []⟩
def Fx.g {α : Type} (mk0 : Bool → α) (n : Nat) (vb v9 : Int) (vh vg : LI) (vl vm : LI) (vn : Int) (v5 v6 : LA) (v7 v8 : Int) (ve vo : LI) (vp : Bool) (vq vr vs : LI) (vt vu vv : Int) (vw vx : LI) (vy : Bool) (vz : LI) (v0 v1 : Int) (v2 v3 : LI) (vj : Int) (vi v4 : Bool) (vf : LA) (vc : Int) : Option α :=
 bindO (Ft.m n (vb, v9, vh, vg, vl, vm, vn, v5, v6, v7, v8, ve, vo, vp, vq, vr, vs, vt, vu, vv, vw, vx, vy, vz, v0, v1, v2, v3, vj, vi, v4, vf, vc)) fun r2 =>
 bindO (Fbh.m n r2) fun r4 =>
 bindO (Faz.m n r4) fun r6 =>
 bindO (Fw.m n (vb, v9, vh, vg, vl, vm, vn, v5, v6, v7, v8, ve, vo, vp, vq, vr, vs, vt, vu, vv, vw, vx, vy, vz, v0, v1, v2, v3, vj, vi, v4, vf, vc)) fun r8 =>
 if r8 = true then
 bindO (Fl.m n (vb, v9, vh, vg, vl, vm, vn, v5, v6, v7, v8, ve, vo, vp, vq, vr, vs, vt, vu, vv, vw, vx, vy, vz, v0, v1, v2, v3, vj, vi, v4, vf, vc)) fun r12 =>
 if (!r12) = true then
 bindO (Ft.m n (vb, v9, vh, vg, vl, vm, vn, v5, v6, v7, v8, ve, vo, vp, vq, vr, vs, vt, vu, vv, vw, vx, vy, vz, v0, v1, v2, v3, vj, vi, v4, vf, vc)) fun r16 =>
 bindO (Fac.m n (v5, v6, v7, v8, r16)) fun r18 =>
 if ((r18.length : Int) == 0) = true then
 if r6.2 = true then
 if (decide (r6.1 ≥ 1)) = true then
 some (mk0 (!(decide (r6.1 ≤ 9))))
 else
 some (mk0 true)
 else
 some (mk0 true)
 else
 some (mk0 false)
 else
 some (mk0 false)
 else
 some (mk0 false)
def Fx.m (n : Nat) (t : Ty4) : Option Bool := Fx.g (fun a0 => a0) n t.1 t.2.1 t.2.2.1 t.2.2.2.1 t.w.1 t.w.2.1 t.w.2.2.1 t.w.2.2.2.1 t.x.1 t.x.2.1 t.x.2.2.1 t.x.2.2.2.1 t.x.w.1 t.x.w.2.1 t.x.w.2.2.1 t.x.w.2.2.2.1 t.y.1 t.y.2.1 t.y.2.2.1 t.y.2.2.2.1 t.y.w.1 t.y.w.2.1 t.y.w.2.2.1 t.y.w.2.2.2.1 t.y.x.1 t.y.x.2.1 t.y.x.2.2.1 t.y.x.2.2.2.1 t.y.x.w.1 t.y.x.w.2.1 t.y.x.w.2.2.1 t.y.x.w.2.2.2.1 t.y.y
def Fx.pat : List AV → Blks → Option Ty4
 | [(.agg [(.agg [(.int .u8 vb), (.int .i64 v9), (.ints .u8 20 vh), (.ints .u64 4 vg), (.ints .u64 4 vl), (.rints .u8 vm), (.int .u16 vn)]), (.rptr (.agg [(.rptr (.agg [(.rmap v5), (.rmap v6), (.rmap []), (.rmap []), (.rmap []), (.rmap []), (.int .i64 v7), .snil, .snil, .snil, (.int .i64 v8)])), (.agg [(.ints .u8 20 ve), (.ints .u64 4 vo), (.bool vp), (.ints .u8 20 vq), (.rints .u8 vr), (.rints .u8 vs), (.int .u64 vt), (.int .u64 vu), (.int .u64 vv), (.ints .u64 4 vw), (.ints .u64 4 vx), (.bool vy), (.ints .u8 20 vz), (.int .u64 v0), (.int .u64 v1), (.rints .u8 v2), (.rints .u8 v3)]), (.int .u8 vj), (.bool vi), (.bool v4), (.robjs 47 32 vf)])), (.int .i64 vc)])], [] => some (vb, v9, vh, vg, vl, vm, vn, v5, v6, v7, v8, ve, vo, vp, vq, vr, vs, vt, vu, vv, vw, vx, vy, vz, v0, v1, v2, v3, vj, vi, v4, vf, vc)
 | _, _ => none
def Fx.shape (t : Ty4) : List AV × Blks := ([(.agg [(.agg [(.int .u8 t.1), (.int .i64 t.2.1), (.ints .u8 20 t.2.2.1), (.ints .u64 4 t.2.2.2.1), (.ints .u64 4 t.w.1), (.rints .u8 t.w.2.1), (.int .u16 t.w.2.2.1)]), (.rptr (.agg [(.rptr (.agg [(.rmap t.w.2.2.2.1), (.rmap t.x.1), (.rmap []), (.rmap []), (.rmap []), (.rmap []), (.int .i64 t.x.2.1), .snil, .snil, .snil, (.int .i64 t.x.2.2.1)])), (.agg [(.ints .u8 20 t.x.2.2.2.1), (.ints .u64 4 t.x.w.1), (.bool t.x.w.2.1), (.ints .u8 20 t.x.w.2.2.1), (.rints .u8 t.x.w.2.2.2.1), (.rints .u8 t.y.1), (.int .u64 t.y.2.1), (.int .u64 t.y.2.2.1), (.int .u64 t.y.2.2.2.1), (.ints .u64 4 t.y.w.1), (.ints .u64 4 t.y.w.2.1), (.bool t.y.w.2.2.1), (.ints .u8 20 t.y.w.2.2.2.1), (.int .u64 t.y.x.1), (.int .u64 t.y.x.2.1), (.rints .u8 t.y.x.2.2.1), (.rints .u8 t.y.x.2.2.2.1)]), (.int .u8 t.y.x.w.1), (.bool t.y.x.w.2.1), (.bool t.y.x.w.2.2.1), (.robjs 47 32 t.y.x.w.2.2.2.1)])), (.int .i64 t.y.y)])], [])
def Fx.res : Bool → AV × Blks
 | u => ((.bool u), [])
def Fx.c (n : Nat) : Abs.Callee := .mk' [] [none] Fx.pat (Fx.m n) (resKof Fx.res)
noncomputable def Fad.C (n : Nat) : Ctx := ⟨Tryd.prog, kecG, lookC [(59, Fl.c n)], fun _ => false⟩
noncomputable def Fad.A (n : Nat) : Ann := ⟨Tryd.f40.ntmps, 0, noNL, [], [none], fun k => match k with
 | _ => none, noNL, lookJ []⟩
def Fad.g {α : Type} (mk0 : Bool → α) (n : Nat) (vb v9 : Int) (vh vg : LI) (vl vm : LI) (vn : Int) (v5 v6 : LA) (v7 v8 : Int) (ve vo : LI) (vp : Bool) (vq vr vs : LI) (vt vu vv : Int) (vw vx : LI) (vy : Bool) (vz : LI) (v0 v1 : Int) (v2 v3 : LI) (vj : Int) (vi v4 : Bool) (vf : LA) (vc : Int) : Option α :=
 if (vb == 241) = true then
 if (!(vl == [0, 0, 0, 0])) = true then
 bindO (Fl.m n (vb, v9, vh, vg, vl, vm, vn, v5, v6, v7, v8, ve, vo, vp, vq, vr, vs, vt, vu, vv, vw, vx, vy, vz, v0, v1, v2, v3, vj, vi, v4, vf, vc)) fun r6 =>
 some (mk0 (!r6))
 else
 some (mk0 false)
 else
 if (vb == 242) = true then
 if (!(vl == [0, 0, 0, 0])) = true then
 bindO (Fl.m n (vb, v9, vh, vg, vl, vm, vn, v5, v6, v7, v8, ve, vo, vp, vq, vr, vs, vt, vu, vv, vw, vx, vy, vz, v0, v1, v2, v3, vj, vi, v4, vf, vc)) fun r8 =>
 some (mk0 (!r8))
 else
 some (mk0 false)
 else
 some (mk0 false)
def Fad.m (n : Nat) (t : Ty4) : Option Bool := Fad.g (fun a0 => a0) n t.1 t.2.1 t.2.2.1 t.2.2.2.1 t.w.1 t.w.2.1 t.w.2.2.1 t.w.2.2.2.1 t.x.1 t.x.2.1 t.x.2.2.1 t.x.2.2.2.1 t.x.w.1 t.x.w.2.1 t.x.w.2.2.1 t.x.w.2.2.2.1 t.y.1 t.y.2.1 t.y.2.2.1 t.y.2.2.2.1 t.y.w.1 t.y.w.2.1 t.y.w.2.2.1 t.y.w.2.2.2.1 t.y.x.1 t.y.x.2.1 t.y.x.2.2.1 t.y.x.2.2.2.1 t.y.x.w.1 t.y.x.w.2.1 t.y.x.w.2.2.1 t.y.x.w.2.2.2.1 t.y.y
def Fad.pat : List AV → Blks → Option Ty4
 | [(.agg [(.agg [(.int .u8 vb), (.int .i64 v9), (.ints .u8 20 vh), (.ints .u64 4 vg), (.ints .u64 4 vl), (.rints .u8 vm), (.int .u16 vn)]), (.rptr (.agg [(.rptr (.agg [(.rmap v5), (.rmap v6), (.rmap []), (.rmap []), (.rmap []), (.rmap []), (.int .i64 v7), .snil, .snil, .snil, (.int .i64 v8)])), (.agg [(.ints .u8 20 ve), (.ints .u64 4 vo), (.bool vp), (.ints .u8 20 vq), (.rints .u8 vr), (.rints .u8 vs), (.int .u64 vt), (.int .u64 vu), (.int .u64 vv), (.ints .u64 4 vw), (.ints .u64 4 vx), (.bool vy), (.ints .u8 20 vz), (.int .u64 v0), (.int .u64 v1), (.rints .u8 v2), (.rints .u8 v3)]), (.int .u8 vj), (.bool vi), (.bool v4), (.robjs 47 32 vf)])), (.int .i64 vc)])], [] => some (vb, v9, vh, vg, vl, vm, vn, v5, v6, v7, v8, ve, vo, vp, vq, vr, vs, vt, vu, vv, vw, vx, vy, vz, v0, v1, v2, v3, vj, vi, v4, vf, vc)
 | _, _ => none
def Fad.shape (t : Ty4) : List AV × Blks := ([(.agg [(.agg [(.int .u8 t.1), (.int .i64 t.2.1), (.ints .u8 20 t.2.2.1), (.ints .u64 4 t.2.2.2.1), (.ints .u64 4 t.w.1), (.rints .u8 t.w.2.1), (.int .u16 t.w.2.2.1)]), (.rptr (.agg [(.rptr (.agg [(.rmap t.w.2.2.2.1), (.rmap t.x.1), (.rmap []), (.rmap []), (.rmap []), (.rmap []), (.int .i64 t.x.2.1), .snil, .snil, .snil, (.int .i64 t.x.2.2.1)])), (.agg [(.ints .u8 20 t.x.2.2.2.1), (.ints .u64 4 t.x.w.1), (.bool t.x.w.2.1), (.ints .u8 20 t.x.w.2.2.1), (.rints .u8 t.x.w.2.2.2.1), (.rints .u8 t.y.1), (.int .u64 t.y.2.1), (.int .u64 t.y.2.2.1), (.int .u64 t.y.2.2.2.1), (.ints .u64 4 t.y.w.1), (.ints .u64 4 t.y.w.2.1), (.bool t.y.w.2.2.1), (.ints .u8 20 t.y.w.2.2.2.1), (.int .u64 t.y.x.1), (.int .u64 t.y.x.2.1), (.rints .u8 t.y.x.2.2.1), (.rints .u8 t.y.x.2.2.2.1)]), (.int .u8 t.y.x.w.1), (.bool t.y.x.w.2.1), (.bool t.y.x.w.2.2.1), (.robjs 47 32 t.y.x.w.2.2.2.1)])), (.int .i64 t.y.y)])], [])
def Fad.res : Bool → AV × Blks
 | u => ((.bool u), [])
def Fad.c (n : Nat) : Abs.Callee := .mk' [] [none] Fad.pat (Fad.m n) (resKof Fad.res)
noncomputable def Fm.C (n : Nat) : Ctx := ⟨Tryd.prog, kecG, lookC [(61, Fv.c n), (59, Fl.c n), (63, Fan.c n), (62, Fas.c n)], fun _ => false⟩
noncomputable def Fm.A (n : Nat) : Ann := ⟨Tryd.f41.ntmps, 0, noNL, [], [none], fun k => match k with
 | _ => none, noNL, lookJ []⟩
def Fm.g {α : Type} (mk0 : Bool → α) (n : Nat) (vb v9 : Int) (vh vg : LI) (vl vm : LI) (vn : Int) (v5 v6 : LA) (v7 v8 : Int) (ve vo : LI) (vp : Bool) (vq vr vs : LI) (vt vu vv : Int) (vw vx : LI) (vy : Bool) (vz : LI) (v0 v1 : Int) (v2 v3 : LI) (vj : Int) (vi v4 : Bool) (vf : LA) (vc : Int) : Option α :=
 bindO (Fv.m n (vb, v9, vh, vg, vl, vm, vn, v5, v6, v7, v8, ve, vo, vp, vq, vr, vs, vt, vu, vv, vw, vx, vy, vz, v0, v1, v2, v3, vj, vi, v4, vf, vc)) fun r2 =>
 if (!r2) = true then
 some (mk0 false)
 else
 bindO (Fl.m n (vb, v9, vh, vg, vl, vm, vn, v5, v6, v7, v8, ve, vo, vp, vq, vr, vs, vt, vu, vv, vw, vx, vy, vz, v0, v1, v2, v3, vj, vi, v4, vf, vc)) fun r6 =>
 if (!r6) = true then
 some (mk0 false)
 else
 if ((vm.length : Int) == 0) = true then
 if (vb == 242) = true then
 some (mk0 true)
 else
 if (vb == 244) = true then
 some (mk0 true)
 else
 some (mk0 false)
 else
 bindO (Fan.m n (b8 [100, 101, 112, 111, 115, 105, 116, 84, 111, 40, 97, 100, 100, 114, 101, 115, 115, 41])) fun r12 =>
 bindO (Fas.m n (vm, r12)) fun r14 =>
 if (vb == 242) = true then
 some (mk0 true)
 else
 if (vb == 244) = true then
 some (mk0 true)
 else
 some (mk0 (!r14))
def Fm.m (n : Nat) (t : Ty4) : Option Bool := Fm.g (fun a0 => a0) n t.1 t.2.1 t.2.2.1 t.2.2.2.1 t.w.1 t.w.2.1 t.w.2.2.1 t.w.2.2.2.1 t.x.1 t.x.2.1 t.x.2.2.1 t.x.2.2.2.1 t.x.w.1 t.x.w.2.1 t.x.w.2.2.1 t.x.w.2.2.2.1 t.y.1 t.y.2.1 t.y.2.2.1 t.y.2.2.2.1 t.y.w.1 t.y.w.2.1 t.y.w.2.2.1 t.y.w.2.2.2.1 t.y.x.1 t.y.x.2.1 t.y.x.2.2.1 t.y.x.2.2.2.1 t.y.x.w.1 t.y.x.w.2.1 t.y.x.w.2.2.1 t.y.x.w.2.2.2.1 t.y.y
def Fm.pat : List AV → Blks → Option Ty4
 | [(.agg [(.agg [(.int .u8 vb), (.int .i64 v9), (.ints .u8 20 vh), (.ints .u64 4 vg), (.ints .u64 4 vl), (.rints .u8 vm), (.int .u16 vn)]), (.rptr (.agg [(.rptr (.agg [(.rmap v5), (.rmap v6), (.rmap []), (.rmap []), (.rmap []), (.rmap []), (.int .i64 v7), .snil, .snil, .snil, (.int .i64 v8)])), (.agg [(.ints .u8 20 ve), (.ints .u64 4 vo), (.bool vp), (.ints .u8 20 vq), (.rints .u8 vr), (.rints .u8 vs), (.int .u64 vt), (.int .u64 vu), (.int .u64 vv), (.ints .u64 4 vw), (.ints .u64 4 vx), (.bool vy), (.ints .u8 20 vz), (.int .u64 v0), (.int .u64 v1), (.rints .u8 v2), (.rints .u8 v3)]), (.int .u8 vj), (.bool vi), (.bool v4), (.robjs 47 32 vf)])), (.int .i64 vc)])], [] => some (vb, v9, vh, vg, vl, vm, vn, v5, v6, v7, v8, ve, vo, vp, vq, vr, vs, vt, vu, vv, vw, vx, vy, vz, v0, v1, v2, v3, vj, vi, v4, vf, vc)
 | _, _ => none
def Fm.shape (t : Ty4) : List AV × Blks := ([(.agg [(.agg [(.int .u8 t.1), (.int .i64 t.2.1), (.ints .u8 20 t.2.2.1), (.ints .u64 4 t.2.2.2.1), (.ints .u64 4 t.w.1), (.rints .u8 t.w.2.1), (.int .u16 t.w.2.2.1)]), (.rptr (.agg [(.rptr (.agg [(.rmap t.w.2.2.2.1), (.rmap t.x.1), (.rmap []), (.rmap []), (.rmap []), (.rmap []), (.int .i64 t.x.2.1), .snil, .snil, .snil, (.int .i64 t.x.2.2.1)])), (.agg [(.ints .u8 20 t.x.2.2.2.1), (.ints .u64 4 t.x.w.1), (.bool t.x.w.2.1), (.ints .u8 20 t.x.w.2.2.1), (.rints .u8 t.x.w.2.2.2.1), (.rints .u8 t.y.1), (.int .u64 t.y.2.1), (.int .u64 t.y.2.2.1), (.int .u64 t.y.2.2.2.1), (.ints .u64 4 t.y.w.1), (.ints .u64 4 t.y.w.2.1), (.bool t.y.w.2.2.1), (.ints .u8 20 t.y.w.2.2.2.1), (.int .u64 t.y.x.1), (.int .u64 t.y.x.2.1), (.rints .u8 t.y.x.2.2.1), (.rints .u8 t.y.x.2.2.2.1)]), (.int .u8 t.y.x.w.1), (.bool t.y.x.w.2.1), (.bool t.y.x.w.2.2.1), (.robjs 47 32 t.y.x.w.2.2.2.1)])), (.int .i64 t.y.y)])], [])
def Fm.res : Bool → AV × Blks
 | u => ((.bool u), [])
def Fm.c (n : Nat) : Abs.Callee := .mk' [] [none] Fm.pat (Fm.m n) (resKof Fm.res)
noncomputable def Fao.C (n : Nat) : Ctx := ⟨Tryd.prog, kecG, lookC [], fun _ => false⟩
noncomputable def Fao.A (n : Nat) : Ann := ⟨Tryd.f11.ntmps, 0, noNL, [], [none, none], fun k => match k with
 | _ => none, noNL, lookJ []⟩
def Fao.g {α : Type} (mk0 : LI → Bool → α) (n : Nat) (vd vk : LI) (vc : Bool) (wv wb ww : LI) (wa wd wz : Int) (w0 wc : LI) (wx : Bool) (wy : LI) (w1 w2 : Int) (w3 w4 : LI) (a1 : Int) : Option α :=
 if (a1 == 1) = true then
 some (mk0 vd true)
 else
 if (a1 == 2) = true then
 if vc = true then
 some (mk0 wv true)
 else
 if (a1 == 3) = true then
 if wx = true then
 some (mk0 wy true)
 else
 some (mk0 ([0, 0, 0, 0, 0, 0, 0, 0, 0, 0, 0, 0, 0, 0, 0, 0, 0, 0, 0, 0] : List Int) false)
 else
 some (mk0 ([0, 0, 0, 0, 0, 0, 0, 0, 0, 0, 0, 0, 0, 0, 0, 0, 0, 0, 0, 0] : List Int) false)
 else
 if (a1 == 3) = true then
 if wx = true then
 some (mk0 wy true)
 else
 some (mk0 ([0, 0, 0, 0, 0, 0, 0, 0, 0, 0, 0, 0, 0, 0, 0, 0, 0, 0, 0, 0] : List Int) false)
 else
 some (mk0 ([0, 0, 0, 0, 0, 0, 0, 0, 0, 0, 0, 0, 0, 0, 0, 0, 0, 0, 0, 0] : List Int) false)
def Fao.m (n : Nat) (t : Ty11) : Option (LI × Bool) := Fao.g (fun a0 a1 => (a0, a1)) n t.1 t.2.1 t.2.2.1 t.2.2.2.1 t.w.1 t.w.2.1 t.w.2.2.1 t.w.2.2.2.1 t.x.1 t.x.2.1 t.x.2.2.1 t.x.2.2.2.1 t.x.w.1 t.x.w.2.1 t.x.w.2.2.1 t.x.w.2.2.2.1 t.y.1 t.y.2
def Fao.pat : List AV → Blks → Option Ty11
 | [(.agg [(.ints .u8 20 vd), (.ints .u64 4 vk), (.bool vc), (.ints .u8 20 wv), (.rints .u8 wb), (.rints .u8 ww), (.int .u64 wa), (.int .u64 wd), (.int .u64 wz), (.ints .u64 4 w0), (.ints .u64 4 wc), (.bool wx), (.ints .u8 20 wy), (.int .u64 w1), (.int .u64 w2), (.rints .u8 w3), (.rints .u8 w4)]), (.int .u8 a1)], [] => some (vd, vk, vc, wv, wb, ww, wa, wd, wz, w0, wc, wx, wy, w1, w2, w3, w4, a1)
 | _, _ => none
def Fao.shape (t : Ty11) : List AV × Blks := ([(.agg [(.ints .u8 20 t.1), (.ints .u64 4 t.2.1), (.bool t.2.2.1), (.ints .u8 20 t.2.2.2.1), (.rints .u8 t.w.1), (.rints .u8 t.w.2.1), (.int .u64 t.w.2.2.1), (.int .u64 t.w.2.2.2.1), (.int .u64 t.x.1), (.ints .u64 4 t.x.2.1), (.ints .u64 4 t.x.2.2.1), (.bool t.x.2.2.2.1), (.ints .u8 20 t.x.w.1), (.int .u64 t.x.w.2.1), (.int .u64 t.x.w.2.2.1), (.rints .u8 t.x.w.2.2.2.1), (.rints .u8 t.y.1)]), (.int .u8 t.y.2)], [])
def Fao.res : (LI × Bool) → AV × Blks
 | u => ((.tup [(.ints .u8 20 u.1), (.bool u.2)]), [])
def Fao.c (n : Nat) : Abs.Callee := .mk' [] [(some (.agg [none, none, none, none, (some (.ints .u8)), (some (.ints .u8)), none, none, none, none, none, none, none, none, none, (some (.ints .u8)), (some (.ints .u8))])), none] Fao.pat (Fao.m n) (resKof Fao.res)
noncomputable def Fn.C (n : Nat) : Ctx := ⟨Tryd.prog, kecG, lookC [(11, Fao.c n), (64, Fak.c n)], fun _ => false⟩
noncomputable def Fn.A (n : Nat) : Ann := ⟨Tryd.f42.ntmps, 0, noNL, [], [none], fun k => match k with
 | _ => none, noNL, lookJ []⟩
def Fn.g {α : Type} (mk0 : Bool → α) (n : Nat) (vb v9 : Int) (vh vg : LI) (vl vm : LI) (vn : Int) (v5 v6 : LA) (v7 v8 : Int) (ve vo : LI) (vp : Bool) (vq vr vs : LI) (vt vu vv : Int) (vw vx : LI) (vy : Bool) (vz : LI) (v0 v1 : Int) (v2 v3 : LI) (vj : Int) (vi v4 : Bool) (vf : LA) (vc : Int) : Option α :=
 if (vb != 84) = true then
 if (vb != 85) = true then
 some (mk0 false)
 else
 bindO (Fao.m n (ve, vo, vp, vq, vr, vs, vt, vu, vv, vw, vx, vy, vz, v0, v1, v2, v3, vj)) fun r6 =>
 if (vh == ve) = true then
 some (mk0 false)
 else
 if (!v4) = true then
 bindO (Fak.m n (vf, ve, vg)) fun r12 =>
 if r12 = true then
 some (mk0 false)
 else
 if vi = true then
 if (vb != 84) = true then
 if (!(vh == r6.1)) = true then
 bindO (Fak.m n (vf, r6.1, vg)) fun r22 =>
 some (mk0 (!r22))
 else
 some (mk0 false)
 else
 some (mk0 false)
 else
 some (mk0 true)
 else
 if vi = true then
 if (vb != 84) = true then
 if (!(vh == r6.1)) = true then
 bindO (Fak.m n (vf, r6.1, vg)) fun r18 =>
 some (mk0 (!r18))
 else
 some (mk0 false)
 else
 some (mk0 false)
 else
 some (mk0 true)
 else
 bindO (Fao.m n (ve, vo, vp, vq, vr, vs, vt, vu, vv, vw, vx, vy, vz, v0, v1, v2, v3, vj)) fun r4 =>
 if (vh == ve) = true then
 some (mk0 false)
 else
 if (!v4) = true then
 bindO (Fak.m n (vf, ve, vg)) fun r10 =>
 if r10 = true then
 some (mk0 false)
 else
 if vi = true then
 if (vb != 84) = true then
 if (!(vh == r4.1)) = true then
 bindO (Fak.m n (vf, r4.1, vg)) fun r20 =>
 some (mk0 (!r20))
 else
 some (mk0 false)
 else
 some (mk0 false)
 else
 some (mk0 true)
 else
 if vi = true then
 if (vb != 84) = true then
 if (!(vh == r4.1)) = true then
 bindO (Fak.m n (vf, r4.1, vg)) fun r16 =>
 some (mk0 (!r16))
 else
 some (mk0 false)
 else
 some (mk0 false)
 else
 some (mk0 true)
def Fn.m (n : Nat) (t : Ty4) : Option Bool := Fn.g (fun a0 => a0) n t.1 t.2.1 t.2.2.1 t.2.2.2.1 t.w.1 t.w.2.1 t.w.2.2.1 t.w.2.2.2.1 t.x.1 t.x.2.1 t.x.2.2.1 t.x.2.2.2.1 t.x.w.1 t.x.w.2.1 t.x.w.2.2.1 t.x.w.2.2.2.1 t.y.1 t.y.2.1 t.y.2.2.1 t.y.2.2.2.1 t.y.w.1 t.y.w.2.1 t.y.w.2.2.1 t.y.w.2.2.2.1 t.y.x.1 t.y.x.2.1 t.y.x.2.2.1 t.y.x.2.2.2.1 t.y.x.w.1 t.y.x.w.2.1 t.y.x.w.2.2.1 t.y.x.w.2.2.2.1 t.y.y
def Fn.pat : List AV → Blks → Option Ty4
 | [(.agg [(.agg [(.int .u8 vb), (.int .i64 v9), (.ints .u8 20 vh), (.ints .u64 4 vg), (.ints .u64 4 vl), (.rints .u8 vm), (.int .u16 vn)]), (.rptr (.agg [(.rptr (.agg [(.rmap v5), (.rmap v6), (.rmap []), (.rmap []), (.rmap []), (.rmap []), (.int .i64 v7), .snil, .snil, .snil, (.int .i64 v8)])), (.agg [(.ints .u8 20 ve), (.ints .u64 4 vo), (.bool vp), (.ints .u8 20 vq), (.rints .u8 vr), (.rints .u8 vs), (.int .u64 vt), (.int .u64 vu), (.int .u64 vv), (.ints .u64 4 vw), (.ints .u64 4 vx), (.bool vy), (.ints .u8 20 vz), (.int .u64 v0), (.int .u64 v1), (.rints .u8 v2), (.rints .u8 v3)]), (.int .u8 vj), (.bool vi), (.bool v4), (.robjs 47 32 vf)])), (.int .i64 vc)])], [] => some (vb, v9, vh, vg, vl, vm, vn, v5, v6, v7, v8, ve, vo, vp, vq, vr, vs, vt, vu, vv, vw, vx, vy, vz, v0, v1, v2, v3, vj, vi, v4, vf, vc)
 | _, _ => none
def Fn.shape (t : Ty4) : List AV × Blks := ([(.agg [(.agg [(.int .u8 t.1), (.int .i64 t.2.1), (.ints .u8 20 t.2.2.1), (.ints .u64 4 t.2.2.2.1), (.ints .u64 4 t.w.1), (.rints .u8 t.w.2.1), (.int .u16 t.w.2.2.1)]), (.rptr (.agg [(.rptr (.agg [(.rmap t.w.2.2.2.1), (.rmap t.x.1), (.rmap []), (.rmap []), (.rmap []), (.rmap []), (.int .i64 t.x.2.1), .snil, .snil, .snil, (.int .i64 t.x.2.2.1)])), (.agg [(.ints .u8 20 t.x.2.2.2.1), (.ints .u64 4 t.x.w.1), (.bool t.x.w.2.1), (.ints .u8 20 t.x.w.2.2.1), (.rints .u8 t.x.w.2.2.2.1), (.rints .u8 t.y.1), (.int .u64 t.y.2.1), (.int .u64 t.y.2.2.1), (.int .u64 t.y.2.2.2.1), (.ints .u64 4 t.y.w.1), (.ints .u64 4 t.y.w.2.1), (.bool t.y.w.2.2.1), (.ints .u8 20 t.y.w.2.2.2.1), (.int .u64 t.y.x.1), (.int .u64 t.y.x.2.1), (.rints .u8 t.y.x.2.2.1), (.rints .u8 t.y.x.2.2.2.1)]), (.int .u8 t.y.x.w.1), (.bool t.y.x.w.2.1), (.bool t.y.x.w.2.2.1), (.robjs 47 32 t.y.x.w.2.2.2.1)])), (.int .i64 t.y.y)])], [])
def Fn.res : Bool → AV × Blks
 | u => ((.bool u), [])
def Fn.c (n : Nat) : Abs.Callee := .mk' [] [none] Fn.pat (Fn.m n) (resKof Fn.res)
noncomputable def Fo.C (n : Nat) : Ctx := ⟨Tryd.prog, kecG, lookC [(35, Ff.c n), (36, Fj.c n), (37, Fe.c n), (38, Fu.c n), (39, Fx.c n), (40, Fad.c n), (41, Fm.c n), (42, Fn.c n)], fun _ => false⟩
def Fo.jlive : NL := fun k => match k with
 | 20006 => ([5, 2, 1], [6, 2, 1, 5])
 | _ => ([], [])
noncomputable def Fo.jc0 : Code := ((seqsIn (Tryd.f21.body.getD .skip)).filter fun a => jkey a == 20006).getD 0 .skip
def Fo.j20006.g {α : Type} (mk0 : LI → Int → Int → LI → LI → LI → LI → Int → LA → LA → Int → Int → LI → LI → Bool → LI → LI → LI → Int → Int → Int → LI → LI → Bool → LI → Int → Int → LI → LI → Int → Bool → Bool → LA → Int → LI → α) (n : Nat) (x0 : LI) (x1 x2 : Int) (x3 x4 : LI) (x5 x6 : LI) (x7 : Int) (x8 x9 : LA) (x10 x11 : Int) (x12 x13 : LI) (x14 : Bool) (x15 x16 x17 : LI) (x18 x19 x20 : Int) (x21 x22 : LI) (x23 : Bool) (x24 : LI) (x25 x26 : Int) (x27 x28 : LI) (x29 : Int) (x30 x31 : Bool) (x32 : LA) (x33 : Int) (x34 : LI) : Option α :=
 some (mk0 x0 x1 x2 x3 x4 x5 x6 x7 x8 x9 x10 x11 x12 x13 x14 x15 x16 x17 x18 x19 x20 x21 x22 x23 x24 x25 x26 x27 x28 x29 x30 x31 x32 x33 x34)
def Fo.j20006.m (n : Nat) (t : Ty2) : Option Ty2 := Fo.j20006.g (fun a0 a1 a2 a3 a4 a5 a6 a7 a8 a9 a10 a11 a12 a13 a14 a15 a16 a17 a18 a19 a20 a21 a22 a23 a24 a25 a26 a27 a28 a29 a30 a31 a32 a33 a34 => (a0, a1, a2, a3, a4, a5, a6, a7, a8, a9, a10, a11, a12, a13, a14, a15, a16, a17, a18, a19, a20, a21, a22, a23, a24, a25, a26, a27, a28, a29, a30, a31, a32, a33, a34)) n t.1 t.2.1 t.2.2.1 t.2.2.2.1 t.w.1 t.w.2.1 t.w.2.2.1 t.w.2.2.2.1 t.x.1 t.x.2.1 t.x.2.2.1 t.x.2.2.2.1 t.x.w.1 t.x.w.2.1 t.x.w.2.2.1 t.x.w.2.2.2.1 t.y.1 t.y.2.1 t.y.2.2.1 t.y.2.2.2.1 t.y.w.1 t.y.w.2.1 t.y.w.2.2.1 t.y.w.2.2.2.1 t.y.x.1 t.y.x.2.1 t.y.x.2.2.1 t.y.x.2.2.2.1 t.y.x.w.1 t.y.x.w.2.1 t.y.x.w.2.2.1 t.y.x.w.2.2.2.1 t.y.y.1 t.y.y.2.1 t.y.y.2.2
def Fo.j20006.p0 : AV → Option Unit
 | (.ptr 0 []) => some ()
 | _ => none
def Fo.j20006.p1 : AV → Option Unit
 | (.ptr 1 []) => some ()
 | _ => none
def Fo.j20006.p2 : AV → Option LI
 | (.rints .i64 x0) => some x0
 | _ => none
def Fo.j20006.p3 : Option Blk → Option Unit
 | (some (.var (.own 2 1))) => some ()
 | _ => none
def Fo.j20006.p4 : Option Blk → Option Ty4
 | (some (.var (.agg [(.agg [(.int .u8 x1), (.int .i64 x2), (.ints .u8 20 x3), (.ints .u64 4 x4), (.ints .u64 4 x5), (.rints .u8 x6), (.int .u16 x7)]), (.rptr (.agg [(.rptr (.agg [(.rmap x8), (.rmap x9), (.rmap []), (.rmap []), (.rmap []), (.rmap []), (.int .i64 x10), .snil, .snil, .snil, (.int .i64 x11)])), (.agg [(.ints .u8 20 x12), (.ints .u64 4 x13), (.bool x14), (.ints .u8 20 x15), (.rints .u8 x16), (.rints .u8 x17), (.int .u64 x18), (.int .u64 x19), (.int .u64 x20), (.ints .u64 4 x21), (.ints .u64 4 x22), (.bool x23), (.ints .u8 20 x24), (.int .u64 x25), (.int .u64 x26), (.rints .u8 x27), (.rints .u8 x28)]), (.int .u8 x29), (.bool x30), (.bool x31), (.robjs 47 32 x32)])), (.int .i64 x33)]))) => some (x1, x2, x3, x4, x5, x6, x7, x8, x9, x10, x11, x12, x13, x14, x15, x16, x17, x18, x19, x20, x21, x22, x23, x24, x25, x26, x27, x28, x29, x30, x31, x32, x33)
 | _ => none
def Fo.j20006.p5 : Option Blk → Option LI
 | (some (.ints .u8 x34)) => some x34
 | _ => none
def Fo.j20006.pat : St → Option Ty2
 | (St.mk [s0, s1, s2] [s3, s4, s5]) => bindO (Fo.j20006.p0 s0) fun a0 => bindO (Fo.j20006.p1 s1) fun a1 => bindO (Fo.j20006.p2 s2) fun a2 => bindO (Fo.j20006.p3 s3) fun a3 => bindO (Fo.j20006.p4 s4) fun a4 => bindO (Fo.j20006.p5 s5) fun a5 => some (a2, a4.1, a4.2.1, a4.2.2.1, a4.2.2.2.1, a4.2.2.2.2.1, a4.2.2.2.2.2.1, a4.2.2.2.2.2.2.1, a4.2.2.2.2.2.2.2.1, a4.2.2.2.2.2.2.2.2.1, a4.2.2.2.2.2.2.2.2.2.1, a4.2.2.2.2.2.2.2.2.2.2.1, a4.2.2.2.2.2.2.2.2.2.2.2.1, a4.2.2.2.2.2.2.2.2.2.2.2.2.1, a4.2.2.2.2.2.2.2.2.2.2.2.2.2.1, a4.2.2.2.2.2.2.2.2.2.2.2.2.2.2.1, a4.2.2.2.2.2.2.2.2.2.2.2.2.2.2.2.1, a4.2.2.2.2.2.2.2.2.2.2.2.2.2.2.2.2.1, a4.2.2.2.2.2.2.2.2.2.2.2.2.2.2.2.2.2.1, a4.2.2.2.2.2.2.2.2.2.2.2.2.2.2.2.2.2.2.1, a4.2.2.2.2.2.2.2.2.2.2.2.2.2.2.2.2.2.2.2.1, a4.2.2.2.2.2.2.2.2.2.2.2.2.2.2.2.2.2.2.2.2.1, a4.2.2.2.2.2.2.2.2.2.2.2.2.2.2.2.2.2.2.2.2.2.1, a4.2.2.2.2.2.2.2.2.2.2.2.2.2.2.2.2.2.2.2.2.2.2.1, a4.2.2.2.2.2.2.2.2.2.2.2.2.2.2.2.2.2.2.2.2.2.2.2.1, a4.2.2.2.2.2.2.2.2.2.2.2.2.2.2.2.2.2.2.2.2.2.2.2.2.1, a4.2.2.2.2.2.2.2.2.2.2.2.2.2.2.2.2.2.2.2.2.2.2.2.2.2.1, a4.2.2.2.2.2.2.2.2.2.2.2.2.2.2.2.2.2.2.2.2.2.2.2.2.2.2.1, a4.2.2.2.2.2.2.2.2.2.2.2.2.2.2.2.2.2.2.2.2.2.2.2.2.2.2.2.1, a4.2.2.2.2.2.2.2.2.2.2.2.2.2.2.2.2.2.2.2.2.2.2.2.2.2.2.2.2.1, a4.2.2.2.2.2.2.2.2.2.2.2.2.2.2.2.2.2.2.2.2.2.2.2.2.2.2.2.2.2.1, a4.2.2.2.2.2.2.2.2.2.2.2.2.2.2.2.2.2.2.2.2.2.2.2.2.2.2.2.2.2.2.1, a4.2.2.2.2.2.2.2.2.2.2.2.2.2.2.2.2.2.2.2.2.2.2.2.2.2.2.2.2.2.2.2.1, a4.2.2.2.2.2.2.2.2.2.2.2.2.2.2.2.2.2.2.2.2.2.2.2.2.2.2.2.2.2.2.2.2, a5)
 | _ => none
def Fo.j20006.shape (t : Ty2) : St := (St.mk [(.ptr 0 []), (.ptr 1 []), (.rints .i64 t.1)] [(some (.var (.own 2 1))), (some (.var (.agg [(.agg [(.int .u8 t.2.1), (.int .i64 t.2.2.1), (.ints .u8 20 t.2.2.2.1), (.ints .u64 4 t.w.1), (.ints .u64 4 t.w.2.1), (.rints .u8 t.w.2.2.1), (.int .u16 t.w.2.2.2.1)]), (.rptr (.agg [(.rptr (.agg [(.rmap t.x.1), (.rmap t.x.2.1), (.rmap []), (.rmap []), (.rmap []), (.rmap []), (.int .i64 t.x.2.2.1), .snil, .snil, .snil, (.int .i64 t.x.2.2.2.1)])), (.agg [(.ints .u8 20 t.x.w.1), (.ints .u64 4 t.x.w.2.1), (.bool t.x.w.2.2.1), (.ints .u8 20 t.x.w.2.2.2.1), (.rints .u8 t.y.1), (.rints .u8 t.y.2.1), (.int .u64 t.y.2.2.1), (.int .u64 t.y.2.2.2.1), (.int .u64 t.y.w.1), (.ints .u64 4 t.y.w.2.1), (.ints .u64 4 t.y.w.2.2.1), (.bool t.y.w.2.2.2.1), (.ints .u8 20 t.y.x.1), (.int .u64 t.y.x.2.1), (.int .u64 t.y.x.2.2.1), (.rints .u8 t.y.x.2.2.2.1), (.rints .u8 t.y.x.w.1)]), (.int .u8 t.y.x.w.2.1), (.bool t.y.x.w.2.2.1), (.bool t.y.x.w.2.2.2.1), (.robjs 47 32 t.y.y.1)])), (.int .i64 t.y.y.2.1)]))), (some (.ints .u8 t.y.y.2.2))])
def Fo.j20006.res : Ty2 → Ex × St
 | u => (.normal, (St.mk [(.fn (.func 35) [] [(.ptr 0 [])]), (.ptr 1 []), (.rints .i64 u.1), (.ptr 0 [])] [(some (.var (.own 2 1))), (some (.var (.agg [(.agg [(.int .u8 u.2.1), (.int .i64 u.2.2.1), (.ints .u8 20 u.2.2.2.1), (.ints .u64 4 u.w.1), (.ints .u64 4 u.w.2.1), (.rints .u8 u.w.2.2.1), (.int .u16 u.w.2.2.2.1)]), (.rptr (.agg [(.rptr (.agg [(.rmap u.x.1), (.rmap u.x.2.1), (.rmap []), (.rmap []), (.rmap []), (.rmap []), (.int .i64 u.x.2.2.1), .snil, .snil, .snil, (.int .i64 u.x.2.2.2.1)])), (.agg [(.ints .u8 20 u.x.w.1), (.ints .u64 4 u.x.w.2.1), (.bool u.x.w.2.2.1), (.ints .u8 20 u.x.w.2.2.2.1), (.rints .u8 u.y.1), (.rints .u8 u.y.2.1), (.int .u64 u.y.2.2.1), (.int .u64 u.y.2.2.2.1), (.int .u64 u.y.w.1), (.ints .u64 4 u.y.w.2.1), (.ints .u64 4 u.y.w.2.2.1), (.bool u.y.w.2.2.2.1), (.ints .u8 20 u.y.x.1), (.int .u64 u.y.x.2.1), (.int .u64 u.y.x.2.2.1), (.rints .u8 u.y.x.2.2.2.1), (.rints .u8 u.y.x.w.1)]), (.int .u8 u.y.x.w.2.1), (.bool u.y.x.w.2.2.1), (.bool u.y.x.w.2.2.2.1), (.robjs 47 32 u.y.y.1)])), (.int .i64 u.y.y.2.1)]))), (some (.ints .u8 u.y.y.2.2))]))
noncomputable def Fo.A (n : Nat) : Ann := ⟨Tryd.f21.ntmps, 0, noNL, [(1, (.ints .i64)), (5, (.ints .u8))], [(some (.ints .u8))], fun k => match k with
 | _ => none, Fo.jlive, lookJ [(20006, .mk' Fo.j20006.pat (Fo.j20006.m n) (resKl Fo.j20006.res))]⟩
def Fo.g {α : Type} (mk0 : LI → α) (n : Nat) (vb v9 : Int) (vh vg : LI) (vl vm : LI) (vn : Int) (v5 v6 : LA) (v7 v8 : Int) (ve vo : LI) (vp : Bool) (vq vr vs : LI) (vt vu vv : Int) (vw vx : LI) (vy : Bool) (vz : LI) (v0 v1 : Int) (v2 v3 : LI) (vj : Int) (vi v4 : Bool) (vf : LA) (vc : Int) (a1 : LI) : Option α :=
 if (vn == 130) = true then
 some (mk0 [3])
 else
 if (vn != 0) = true then
 some (mk0 [])
 else
 bindO (Fo.j20006.m n (a1, vb, v9, vh, vg, vl, vm, vn, v5, v6, v7, v8, ve, vo, vp, vq, vr, vs, vt, vu, vv, vw, vx, vy, vz, v0, v1, v2, v3, vj, vi, v4, vf, vc, [])) fun r6 =>
 bindO (Fj.m n (r6.2.1, r6.2.2.1, r6.2.2.2.1, r6.w.1, r6.w.2.1, r6.w.2.2.1, r6.w.2.2.2.1, r6.x.1, r6.x.2.1, r6.x.2.2.1, r6.x.2.2.2.1, r6.x.w.1, r6.x.w.2.1, r6.x.w.2.2.1, r6.x.w.2.2.2.1, r6.y.1, r6.y.2.1, r6.y.2.2.1, r6.y.2.2.2.1, r6.y.w.1, r6.y.w.2.1, r6.y.w.2.2.1, r6.y.w.2.2.2.1, r6.y.x.1, r6.y.x.2.1, r6.y.x.2.2.1, r6.y.x.2.2.2.1, r6.y.x.w.1, r6.y.x.w.2.1, r6.y.x.w.2.2.1, r6.y.x.w.2.2.2.1, r6.y.y.1, r6.y.y.2.1)) fun r8 =>
 bindO (Ff.m n (1, r8, r6.y.y.2.2)) fun r10 =>
 bindO (Fe.m n (r6.1, r6.y.y.2.1)) fun r12 =>
 bindO (Ff.m n (2, r12, r10)) fun r14 =>
 bindO (Fu.m n (r6.2.1, r6.2.2.1, r6.2.2.2.1, r6.w.1, r6.w.2.1, r6.w.2.2.1, r6.w.2.2.2.1, r6.x.1, r6.x.2.1, r6.x.2.2.1, r6.x.2.2.2.1, r6.x.w.1, r6.x.w.2.1, r6.x.w.2.2.1, r6.x.w.2.2.2.1, r6.y.1, r6.y.2.1, r6.y.2.2.1, r6.y.2.2.2.1, r6.y.w.1, r6.y.w.2.1, r6.y.w.2.2.1, r6.y.w.2.2.2.1, r6.y.x.1, r6.y.x.2.1, r6.y.x.2.2.1, r6.y.x.2.2.2.1, r6.y.x.w.1, r6.y.x.w.2.1, r6.y.x.w.2.2.1, r6.y.x.w.2.2.2.1, r6.y.y.1, r6.y.y.2.1)) fun r16 =>
 bindO (Ff.m n (4, r16, r14)) fun r18 =>
 bindO (Fx.m n (r6.2.1, r6.2.2.1, r6.2.2.2.1, r6.w.1, r6.w.2.1, r6.w.2.2.1, r6.w.2.2.2.1, r6.x.1, r6.x.2.1, r6.x.2.2.1, r6.x.2.2.2.1, r6.x.w.1, r6.x.w.2.1, r6.x.w.2.2.1, r6.x.w.2.2.2.1, r6.y.1, r6.y.2.1, r6.y.2.2.1, r6.y.2.2.2.1, r6.y.w.1, r6.y.w.2.1, r6.y.w.2.2.1, r6.y.w.2.2.2.1, r6.y.x.1, r6.y.x.2.1, r6.y.x.2.2.1, r6.y.x.2.2.2.1, r6.y.x.w.1, r6.y.x.w.2.1, r6.y.x.w.2.2.1, r6.y.x.w.2.2.2.1, r6.y.y.1, r6.y.y.2.1)) fun r20 =>
 bindO (Ff.m n (5, r20, r18)) fun r22 =>
 bindO (Fad.m n (r6.2.1, r6.2.2.1, r6.2.2.2.1, r6.w.1, r6.w.2.1, r6.w.2.2.1, r6.w.2.2.2.1, r6.x.1, r6.x.2.1, r6.x.2.2.1, r6.x.2.2.2.1, r6.x.w.1, r6.x.w.2.1, r6.x.w.2.2.1, r6.x.w.2.2.2.1, r6.y.1, r6.y.2.1, r6.y.2.2.1, r6.y.2.2.2.1, r6.y.w.1, r6.y.w.2.1, r6.y.w.2.2.1, r6.y.w.2.2.2.1, r6.y.x.1, r6.y.x.2.1, r6.y.x.2.2.1, r6.y.x.2.2.2.1, r6.y.x.w.1, r6.y.x.w.2.1, r6.y.x.w.2.2.1, r6.y.x.w.2.2.2.1, r6.y.y.1, r6.y.y.2.1)) fun r24 =>
 bindO (Ff.m n (6, r24, r22)) fun r26 =>
 bindO (Fm.m n (r6.2.1, r6.2.2.1, r6.2.2.2.1, r6.w.1, r6.w.2.1, r6.w.2.2.1, r6.w.2.2.2.1, r6.x.1, r6.x.2.1, r6.x.2.2.1, r6.x.2.2.2.1, r6.x.w.1, r6.x.w.2.1, r6.x.w.2.2.1, r6.x.w.2.2.2.1, r6.y.1, r6.y.2.1, r6.y.2.2.1, r6.y.2.2.2.1, r6.y.w.1, r6.y.w.2.1, r6.y.w.2.2.1, r6.y.w.2.2.2.1, r6.y.x.1, r6.y.x.2.1, r6.y.x.2.2.1, r6.y.x.2.2.2.1, r6.y.x.w.1, r6.y.x.w.2.1, r6.y.x.w.2.2.1, r6.y.x.w.2.2.2.1, r6.y.y.1, r6.y.y.2.1)) fun r28 =>
 bindO (Ff.m n (7, r28, r26)) fun r30 =>
 bindO (Fn.m n (r6.2.1, r6.2.2.1, r6.2.2.2.1, r6.w.1, r6.w.2.1, r6.w.2.2.1, r6.w.2.2.2.1, r6.x.1, r6.x.2.1, r6.x.2.2.1, r6.x.2.2.2.1, r6.x.w.1, r6.x.w.2.1, r6.x.w.2.2.1, r6.x.w.2.2.2.1, r6.y.1, r6.y.2.1, r6.y.2.2.1, r6.y.2.2.2.1, r6.y.w.1, r6.y.w.2.1, r6.y.w.2.2.1, r6.y.w.2.2.2.1, r6.y.x.1, r6.y.x.2.1, r6.y.x.2.2.1, r6.y.x.2.2.2.1, r6.y.x.w.1, r6.y.x.w.2.1, r6.y.x.w.2.2.1, r6.y.x.w.2.2.2.1, r6.y.y.1, r6.y.y.2.1)) fun r32 =>
 bindO (Ff.m n (8, r32, r30)) fun r34 =>
 some (mk0 r34)
def Fo.m (n : Nat) (t : Ty3) : Option LI := Fo.g (fun a0 => a0) n t.1 t.2.1 t.2.2.1 t.2.2.2.1 t.w.1 t.w.2.1 t.w.2.2.1 t.w.2.2.2.1 t.x.1 t.x.2.1 t.x.2.2.1 t.x.2.2.2.1 t.x.w.1 t.x.w.2.1 t.x.w.2.2.1 t.x.w.2.2.2.1 t.y.1 t.y.2.1 t.y.2.2.1 t.y.2.2.2.1 t.y.w.1 t.y.w.2.1 t.y.w.2.2.1 t.y.w.2.2.2.1 t.y.x.1 t.y.x.2.1 t.y.x.2.2.1 t.y.x.2.2.2.1 t.y.x.w.1 t.y.x.w.2.1 t.y.x.w.2.2.1 t.y.x.w.2.2.2.1 t.y.y.1 t.y.y.2
def Fo.pat : List AV → Blks → Option Ty3
 | [(.agg [(.agg [(.int .u8 vb), (.int .i64 v9), (.ints .u8 20 vh), (.ints .u64 4 vg), (.ints .u64 4 vl), (.rints .u8 vm), (.int .u16 vn)]), (.rptr (.agg [(.rptr (.agg [(.rmap v5), (.rmap v6), (.rmap []), (.rmap []), (.rmap []), (.rmap []), (.int .i64 v7), .snil, .snil, .snil, (.int .i64 v8)])), (.agg [(.ints .u8 20 ve), (.ints .u64 4 vo), (.bool vp), (.ints .u8 20 vq), (.rints .u8 vr), (.rints .u8 vs), (.int .u64 vt), (.int .u64 vu), (.int .u64 vv), (.ints .u64 4 vw), (.ints .u64 4 vx), (.bool vy), (.ints .u8 20 vz), (.int .u64 v0), (.int .u64 v1), (.rints .u8 v2), (.rints .u8 v3)]), (.int .u8 vj), (.bool vi), (.bool v4), (.robjs 47 32 vf)])), (.int .i64 vc)]), (.rints .i64 a1)], [] => some (vb, v9, vh, vg, vl, vm, vn, v5, v6, v7, v8, ve, vo, vp, vq, vr, vs, vt, vu, vv, vw, vx, vy, vz, v0, v1, v2, v3, vj, vi, v4, vf, vc, a1)
 | _, _ => none
def Fo.shape (t : Ty3) : List AV × Blks := ([(.agg [(.agg [(.int .u8 t.1), (.int .i64 t.2.1), (.ints .u8 20 t.2.2.1), (.ints .u64 4 t.2.2.2.1), (.ints .u64 4 t.w.1), (.rints .u8 t.w.2.1), (.int .u16 t.w.2.2.1)]), (.rptr (.agg [(.rptr (.agg [(.rmap t.w.2.2.2.1), (.rmap t.x.1), (.rmap []), (.rmap []), (.rmap []), (.rmap []), (.int .i64 t.x.2.1), .snil, .snil, .snil, (.int .i64 t.x.2.2.1)])), (.agg [(.ints .u8 20 t.x.2.2.2.1), (.ints .u64 4 t.x.w.1), (.bool t.x.w.2.1), (.ints .u8 20 t.x.w.2.2.1), (.rints .u8 t.x.w.2.2.2.1), (.rints .u8 t.y.1), (.int .u64 t.y.2.1), (.int .u64 t.y.2.2.1), (.int .u64 t.y.2.2.2.1), (.ints .u64 4 t.y.w.1), (.ints .u64 4 t.y.w.2.1), (.bool t.y.w.2.2.1), (.ints .u8 20 t.y.w.2.2.2.1), (.int .u64 t.y.x.1), (.int .u64 t.y.x.2.1), (.rints .u8 t.y.x.2.2.1), (.rints .u8 t.y.x.2.2.2.1)]), (.int .u8 t.y.x.w.1), (.bool t.y.x.w.2.1), (.bool t.y.x.w.2.2.1), (.robjs 47 32 t.y.x.w.2.2.2.1)])), (.int .i64 t.y.y.1)]), (.rints .i64 t.y.y.2)], [])
def Fo.res : LI → AV × Blks
 | u => ((.own 0 1), [(some (.ints .u8 u))])
def Fo.c (n : Nat) : Abs.Callee := .mk' [] [none, (some (.ints .i64))] Fo.pat (Fo.m n) (resKof Fo.res)
noncomputable def Fat.C (n : Nat) : Ctx := ⟨Tryd.prog, kecG, lookC [], fun _ => false⟩
noncomputable def Fat.A (n : Nat) : Ann := ⟨Tryd.f34.ntmps, 0, noNL, [], [none], fun k => match k with
 | _ => none, noNL, lookJ []⟩
def Fat.g {α : Type} (mk0 : Bool → α) (n : Nat) (vd vk : Int) (vc wv : LI) (wb ww : LI) (wa : Int) : Option α :=
 if (vd == 241) = true then
 some (mk0 (wa == 0))
 else
 if (vd == 242) = true then
 some (mk0 (wa == 0))
 else
 if (vd == 244) = true then
 some (mk0 (wa == 0))
 else
 if (vd == 250) = true then
 some (mk0 (wa == 0))
 else
 some (mk0 false)
def Fat.m (n : Nat) (t : Ty25) : Option Bool := Fat.g (fun a0 => a0) n t.1 t.2.1 t.2.2.1 t.2.2.2.1 t.w.1 t.w.2.1 t.w.2.2
def Fat.pat : List AV → Blks → Option Ty25
 | [(.agg [(.int .u8 vd), (.int .i64 vk), (.ints .u8 20 vc), (.ints .u64 4 wv), (.ints .u64 4 wb), (.rints .u8 ww), (.int .u16 wa)])], [] => some (vd, vk, vc, wv, wb, ww, wa)
 | _, _ => none
def Fat.shape (t : Ty25) : List AV × Blks := ([(.agg [(.int .u8 t.1), (.int .i64 t.2.1), (.ints .u8 20 t.2.2.1), (.ints .u64 4 t.2.2.2.1), (.ints .u64 4 t.w.1), (.rints .u8 t.w.2.1), (.int .u16 t.w.2.2)])], [])
def Fat.res : Bool → AV × Blks
 | u => ((.bool u), [])
def Fat.c (n : Nat) : Abs.Callee := .mk' [] [(some (.agg [none, none, none, none, none, (some (.ints .u8)), none]))] Fat.pat (Fat.m n) (resKof Fat.res)
noncomputable def Fau.C (n : Nat) : Ctx := ⟨Tryd.prog, kecG, lookC [(34, Fat.c n)], fun _ => false⟩
def Fau.live : NL := fun k => match k with
 | 3 => ([8, 7, 6, 0, 3], [3])
 | _ => ([], [])
def Fau.l3_0.r {α : Type} (mk0 : LI → α) (n : Nat) (rc : Int → Int → LA → LA → LI → Option α)  (x0 x1 : Int) (x2 x3 : LA) (x4 : LI) : Option α :=
 if (decide (x0 < x1)) = true then
 if 0 ≤ x0 then
 if x0 < (x2.length : Int) then
 bindO (tkAgg 7 (List.getD x2 (Int.toNat x0) AV.any)) fun r10 =>
 bindO (tkInt .u8 (List.getD r10 0 AV.any)) fun r12 =>
 bindO (tkInt .i64 (List.getD r10 1 AV.any)) fun r14 =>
 bindO (tkInts .u8 20 (List.getD r10 2 AV.any)) fun r16 =>
 bindO (tkInts .u64 4 (List.getD r10 3 AV.any)) fun r18 =>
 bindO (tkInts .u64 4 (List.getD r10 4 AV.any)) fun r20 =>
 bindO (tkRints .u8 (List.getD r10 5 AV.any)) fun r22 =>
 bindO (tkInt .u16 (List.getD r10 6 AV.any)) fun r24 =>
 if (r12 != 90) = true then
 rc (IntKind.wrap .i64 (x0 + 1)) x1 x2 x3 x4
 else
 if (r24 != 0) = true then
 rc (IntKind.wrap .i64 (x0 + 1)) x1 x2 x3 x4
 else
 if (decide ((IntKind.wrap .i64 (x0 + 1)) < (x3.length : Int))) = true then
 if 0 ≤ (IntKind.wrap .i64 (x0 + 1)) then
 if (IntKind.wrap .i64 (x0 + 1)) < (x3.length : Int) then
 bindO (tkAgg 7 (List.getD x3 (Int.toNat (IntKind.wrap .i64 (x0 + 1))) AV.any)) fun r36 =>
 bindO (tkInt .u8 (List.getD r36 0 AV.any)) fun r38 =>
 bindO (tkInt .i64 (List.getD r36 1 AV.any)) fun r40 =>
 bindO (tkInts .u8 20 (List.getD r36 2 AV.any)) fun r42 =>
 bindO (tkInts .u64 4 (List.getD r36 3 AV.any)) fun r44 =>
 bindO (tkInts .u64 4 (List.getD r36 4 AV.any)) fun r46 =>
 bindO (tkRints .u8 (List.getD r36 5 AV.any)) fun r48 =>
 bindO (tkInt .u16 (List.getD r36 6 AV.any)) fun r50 =>
 bindO (Fat.m n (r38, r40, r42, r44, r46, r48, r50)) fun r52 =>
 if r52 = true then
 if 0 ≤ (IntKind.wrap .i64 (x0 + 1)) then
 if (IntKind.wrap .i64 (x0 + 1)) < (x3.length : Int) then
 bindO (tkAgg 7 (List.getD x3 (Int.toNat (IntKind.wrap .i64 (x0 + 1))) AV.any)) fun r60 =>
 bindO (tkInt .u8 (List.getD r60 0 AV.any)) fun r62 =>
 bindO (tkInt .i64 (List.getD r60 1 AV.any)) fun r64 =>
 bindO (tkInts .u8 20 (List.getD r60 2 AV.any)) fun r66 =>
 bindO (tkInts .u64 4 (List.getD r60 3 AV.any)) fun r68 =>
 bindO (tkInts .u64 4 (List.getD r60 4 AV.any)) fun r70 =>
 bindO (tkRints .u8 (List.getD r60 5 AV.any)) fun r72 =>
 bindO (tkInt .u16 (List.getD r60 6 AV.any)) fun r74 =>
 if (r64 == r14) = true then
 if 0 ≤ (IntKind.wrap .i64 (x0 + 1)) then
 if (IntKind.wrap .i64 (x0 + 1)) < (x3.length : Int) then
 bindO (tkAgg 7 (List.getD x3 (Int.toNat (IntKind.wrap .i64 (x0 + 1))) AV.any)) fun r82 =>
 bindO (tkInt .u8 (List.getD r82 0 AV.any)) fun r84 =>
 bindO (tkInt .i64 (List.getD r82 1 AV.any)) fun r86 =>
 bindO (tkInts .u8 20 (List.getD r82 2 AV.any)) fun r88 =>
 bindO (tkInts .u64 4 (List.getD r82 3 AV.any)) fun r90 =>
 bindO (tkInts .u64 4 (List.getD r82 4 AV.any)) fun r92 =>
 bindO (tkRints .u8 (List.getD r82 5 AV.any)) fun r94 =>
 bindO (tkInt .u16 (List.getD r82 6 AV.any)) fun r96 =>
 if (r88 == r16) = true then
 rc (IntKind.wrap .i64 (x0 + 1)) x1 x2 x3 x4
 else
 if ((((List.length x4) + 1) * 8) ≤ 70368744177664 ∧ ((List.length x4) + 1) ≤ 9223372036854775807) then
 rc (IntKind.wrap .i64 (x0 + 1)) x1 x2 x3 (x4 ++ [x0])
 else
 none
 else
 none
 else
 none
 else
 if ((((List.length x4) + 1) * 8) ≤ 70368744177664 ∧ ((List.length x4) + 1) ≤ 9223372036854775807) then
 rc (IntKind.wrap .i64 (x0 + 1)) x1 x2 x3 (x4 ++ [x0])
 else
 none
 else
 none
 else
 none
 else
 if ((((List.length x4) + 1) * 8) ≤ 70368744177664 ∧ ((List.length x4) + 1) ≤ 9223372036854775807) then
 rc (IntKind.wrap .i64 (x0 + 1)) x1 x2 x3 (x4 ++ [x0])
 else
 none
 else
 none
 else
 none
 else
 if ((((List.length x4) + 1) * 8) ≤ 70368744177664 ∧ ((List.length x4) + 1) ≤ 9223372036854775807) then
 rc (IntKind.wrap .i64 (x0 + 1)) x1 x2 x3 (x4 ++ [x0])
 else
 none
 else
 none
 else
 none
 else
 some (mk0 x4)
def Fau.l3_0.g {α : Type} (mk0 : LI → α) (n : Nat) : Nat → Int → Int → LA → LA → LI → Option α
 | 0, _, _, _, _, _ => none
 | m + 1, x0, x1, x2, x3, x4 => Fau.l3_0.r mk0 n (fun y0 y1 y2 y3 y4 => Fau.l3_0.g mk0 n m y0 y1 y2 y3 y4)  x0 x1 x2 x3 x4
def Fau.l3_0.m (n m : Nat) (t : (Int × (Int × (LA × (LA × LI))))) : Option LI := Fau.l3_0.g (fun a0 => a0) n m t.1 t.2.1 t.2.2.1 t.2.2.2.1 t.w
def Fau.l3_0.pat : St → Option (Int × (Int × (LA × (LA × LI))))
 | (St.mk [(.int .i64 x0), (.int .i64 x1), (.robjs 47 32 x2), (.robjs 47 32 x3), (.own 0 1)] [(some (.ints .i64 x4))]) => some (x0, x1, x2, x3, x4)
 | _ => none
def Fau.l3_0.shape (t : (Int × (Int × (LA × (LA × LI))))) : St := (St.mk [(.int .i64 t.1), (.int .i64 t.2.1), (.robjs 47 32 t.2.2.1), (.robjs 47 32 t.2.2.2.1), (.own 0 1)] [(some (.ints .i64 t.w))])
def Fau.l3_0.res : LI → Ex × St
 | u => ((.exit 0), (St.mk [(.own 0 1)] [(some (.ints .i64 u))]))
noncomputable def Fau.A (n : Nat) : Ann := ⟨Tryd.f20.ntmps, 0, Fau.live, [(0, (.objs 47 32)), (6, (.objs 47 32)), (3, (.ints .i64))], [(some (.ints .i64))], fun k => match k with
 | 3 => some (.mk' Fau.l3_0.pat (Fau.l3_0.m n n) (resKl Fau.l3_0.res))
 | _ => none, noNL, lookJ []⟩
noncomputable def Fau.b0 : Code := (loopsIn (Tryd.f20.body.getD .skip)).getD 0 .skip
def Fau.g {α : Type} (mk0 : LI → α) (n : Nat) (a0 : LA) : Option α :=
 bindO (Fau.l3_0.m n n (0, (a0.length : Int), a0, a0, [])) fun r2 =>
 some (mk0 r2)
def Fau.m (n : Nat) (t : LA) : Option LI := Fau.g (fun a0 => a0) n t
def Fau.pat : List AV → Blks → Option LA
 | [(.robjs 47 32 a0)], [] => some a0
 | _, _ => none
def Fau.shape (t : LA) : List AV × Blks := ([(.robjs 47 32 t)], [])
def Fau.res : LI → AV × Blks
 | u => ((.own 0 1), [(some (.ints .i64 u))])
def Fau.c (n : Nat) : Abs.Callee := .mk' [] [(some (.objs 47 32))] Fau.pat (Fau.m n) (resKof Fau.res)
noncomputable def Fg.C (n : Nat) : Ctx := ⟨Tryd.prog, kecG, lookC [], fun _ => false⟩
noncomputable def Fg.A (n : Nat) : Ann := ⟨Tryd.f33.ntmps, 0, noNL, [], [none], fun k => match k with
 | _ => none, noNL, lookJ []⟩
def Fg.g {α : Type} (mk0 : Bool → α) (n : Nat) (ad k : LI) (v o : LI) : Option α :=
 some (mk0 (ad == o))
def Fg.m (n : Nat) (t : (LI × (LI × (LI × LI)))) : Option Bool := Fg.g (fun a0 => a0) n t.1 t.2.1 t.2.2.1 t.2.2.2
def Fg.pat : List AV → Blks → Option (LI × (LI × (LI × LI)))
 | [(.agg [(.ints .u8 20 ad), (.ints .u64 4 k)]), (.ints .u64 4 v), (.rptr (.ints .u8 20 o))], [] => some (ad, k, v, o)
 | _, _ => none
def Fg.shape (t : (LI × (LI × (LI × LI)))) : List AV × Blks := ([(.agg [(.ints .u8 20 t.1), (.ints .u64 4 t.2.1)]), (.ints .u64 4 t.2.2.1), (.rptr (.ints .u8 20 t.2.2.2))], [])
def Fg.res : Bool → AV × Blks
 | u => ((.bool u), [])
def Fg.c (n : Nat) : Abs.Callee := .mk' [] [none, none] Fg.pat (Fg.m n) (resKof Fg.res)
section
namespace Go.Abs
def dfDec (x : AV) : Option (List Int × List Int) := match x with
 | .agg [.agg [.ints .u8 20 ad, .ints .u64 4 k], .ints .u64 4 _] => some (ad, k)
 | _ => none
def dfDrop (a : List Int) (x : AV) : Bool := match dfDec x with
 | some p => p.1 == a
 | none => false
def dfOk (l : List AV) : Bool := l.all (fun x => (dfDec x).isSome) && decide (l.map dfDec).Nodup
end Go.Abs
end
def Fa.m (n : Nat) (t : LI × LA) : Option LA := if dfOk t.2 = true then some (t.2.filter fun x => !dfDrop t.1 x) else none
def Fa.pat : List AV → Blks → Option (LI × LA)
 | [(.own 0 0), (.fn (.func 33) [] [(.rptr (.ints .u8 20 a))])], [(some (.mp l))] => some (a, l)
 | _, _ => none
def Fa.shape (t : LI × LA) : List AV × Blks := ([(.own 0 0), (.fn (.func 33) [] [(.rptr (.ints .u8 20 t.1))])], [(some (.mp t.2))])
def Fa.res : LA → AV × Blks
 | u => ((.tup []), [(some (.mp u))])
def Fa.c (n : Nat) : Abs.Callee := .mk' [true, false] [none, none] Fa.pat (Fa.m n) (resKof Fa.res)
noncomputable def Fp.C (n : Nat) : Ctx := ⟨Tryd.prog, kecG, lookC [(33, Fg.c n), (32, Fa.c n)], fun t => t == 24⟩
noncomputable def Fp.A (n : Nat) : Ann := ⟨Tryd.f18.ntmps, 3, noNL, [], [], fun k => match k with
 | _ => none, noNL, lookJ []⟩
def Fp.g {α : Type} (mk0 : Int → Int → LA → LA → α) (n : Nat) (a : LI) (r x : Int) (p q : LA) : Option α :=
 bindO (Go.Abs.mdelL (AV.ints .u8 20 a) p) fun r2 =>
 bindO (Fa.m n (a, q)) fun r4 =>
 some (mk0 r x r2 r4)
def Fp.m (n : Nat) (t : (LI × (Int × (Int × (LA × LA))))) : Option (Int × (Int × (LA × LA))) := Fp.g (fun a0 a1 a2 a3 => (a0, a1, a2, a3)) n t.1 t.2.1 t.2.2.1 t.2.2.2.1 t.w
def Fp.pat : List AV → Blks → Option (LI × (Int × (Int × (LA × LA))))
 | [(.ptr 0 []), (.ints .u8 20 a)], [(some (.var (.agg [(.own 1 0), (.own 2 0), (.raw (.map none)), (.raw (.map none)), (.raw (.map none)), (.raw (.map none)), (.int .i64 r), .snil, .snil, .snil, (.int .i64 x)]))), (some (.mp p)), (some (.mp q))] => some (a, r, x, p, q)
 | _, _ => none
def Fp.shape (t : (LI × (Int × (Int × (LA × LA))))) : List AV × Blks := ([(.ptr 0 []), (.ints .u8 20 t.1)], [(some (.var (.agg [(.own 1 0), (.own 2 0), (.raw (.map none)), (.raw (.map none)), (.raw (.map none)), (.raw (.map none)), (.int .i64 t.2.1), .snil, .snil, .snil, (.int .i64 t.2.2.1)]))), (some (.mp t.2.2.2.1)), (some (.mp t.w))])
def Fp.res : (Int × (Int × (LA × LA))) → AV × Blks
 | u => ((.tup []), [(some (.var (.agg [(.own 1 0), (.own 2 0), (.raw (.map none)), (.raw (.map none)), (.raw (.map none)), (.raw (.map none)), (.int .i64 u.1), .snil, .snil, .snil, (.int .i64 u.2.1)]))), (some (.mp u.2.2.1)), (some (.mp u.2.2.2))])
def Fp.c (n : Nat) : Abs.Callee := .mk' [true, false] [none, none] Fp.pat (Fp.m n) (resKof Fp.res)
noncomputable def Fav.C (n : Nat) : Ctx := ⟨Tryd.prog, kecG, lookC [], fun _ => false⟩
def Fav.live : NL := fun k => match k with
 | 3 => ([6, 0, 5, 1], [5])
 | _ => ([], [])
def Fav.l3_0.r {α : Type} (mk0 : Int → α) (n : Nat) (rc : Int → LA → Int → Int → Option α)  (x0 : Int) (x1 : LA) (x2 x3 : Int) : Option α :=
 if (decide (x0 < (x1.length : Int))) = true then
 if (decide (x2 ≤ x3)) = true then
 if 0 ≤ x0 then
 if x0 < (x1.length : Int) then
 bindO (tkAgg 2 (List.getD x1 (Int.toNat x0) AV.any)) fun r12 =>
 bindO (tkInts .u8 20 (List.getD r12 0 AV.any)) fun r14 =>
 bindO (tkAgg 4 (List.getD r12 1 AV.any)) fun r16 =>
 bindO (tkInt .u64 (List.getD r16 0 AV.any)) fun r18 =>
 bindO (tkInts .u64 4 (List.getD r16 1 AV.any)) fun r20 =>
 bindO (tkRints .u8 (List.getD r16 2 AV.any)) fun r22 =>
 bindO (tkRobjs 77 8 (List.getD r16 3 AV.any)) fun r24 =>
 if 0 ≤ x0 then
 if x0 < (x1.length : Int) then
 bindO (tkAgg 2 (List.getD x1 (Int.toNat x0) AV.any)) fun r30 =>
 bindO (tkInts .u8 20 (List.getD r30 0 AV.any)) fun r32 =>
 bindO (tkAgg 4 (List.getD r30 1 AV.any)) fun r34 =>
 bindO (tkInt .u64 (List.getD r34 0 AV.any)) fun r36 =>
 bindO (tkInts .u64 4 (List.getD r34 1 AV.any)) fun r38 =>
 bindO (tkRints .u8 (List.getD r34 2 AV.any)) fun r40 =>
 bindO (tkRobjs 77 8 (List.getD r34 3 AV.any)) fun r42 =>
 rc (IntKind.wrap .i64 (x0 + 1)) x1 (IntKind.wrap .i64 (x2 + (IntKind.wrap .i64 ((IntKind.wrap .i64 (1 + (IntKind.wrap .i64 (Int.tdiv (r22.length : Int) 16)))) + (r42.length : Int))))) x3
 else
 none
 else
 none
 else
 none
 else
 none
 else
 some (mk0 x2)
 else
 some (mk0 x2)
def Fav.l3_0.g {α : Type} (mk0 : Int → α) (n : Nat) : Nat → Int → LA → Int → Int → Option α
 | 0, _, _, _, _ => none
 | m + 1, x0, x1, x2, x3 => Fav.l3_0.r mk0 n (fun y0 y1 y2 y3 => Fav.l3_0.g mk0 n m y0 y1 y2 y3)  x0 x1 x2 x3
def Fav.l3_0.m (n m : Nat) (t : (Int × (LA × (Int × Int)))) : Option Int := Fav.l3_0.g (fun a0 => a0) n m t.1 t.2.1 t.2.2.1 t.2.2.2
def Fav.l3_0.pat : St → Option (Int × (LA × (Int × Int)))
 | (St.mk [(.int .i64 x0), (.robjs 72 27 x1), (.int .i64 x2), (.int .i64 x3)] []) => some (x0, x1, x2, x3)
 | _ => none
def Fav.l3_0.shape (t : (Int × (LA × (Int × Int)))) : St := (St.mk [(.int .i64 t.1), (.robjs 72 27 t.2.1), (.int .i64 t.2.2.1), (.int .i64 t.2.2.2)] [])
def Fav.l3_0.res : Int → Ex × St
 | u => ((.exit 0), (St.mk [(.int .i64 u)] []))
noncomputable def Fav.A (n : Nat) : Ann := ⟨Tryd.f16.ntmps, 0, Fav.live, [(0, (.objs 72 27))], [none], fun k => match k with
 | 3 => some (.mk' Fav.l3_0.pat (Fav.l3_0.m n n) (resKl Fav.l3_0.res))
 | _ => none, noNL, lookJ []⟩
noncomputable def Fav.b0 : Code := (loopsIn (Tryd.f16.body.getD .skip)).getD 0 .skip
def Fav.g {α : Type} (mk0 : Int → α) (n : Nat) (a0 : LA) (a1 : Int) : Option α :=
 bindO (Fav.l3_0.m n n (0, a0, 0, a1)) fun r2 =>
 some (mk0 r2)
def Fav.m (n : Nat) (t : (LA × Int)) : Option Int := Fav.g (fun a0 => a0) n t.1 t.2
def Fav.pat : List AV → Blks → Option (LA × Int)
 | [(.robjs 72 27 a0), (.int .i64 a1)], [] => some (a0, a1)
 | _, _ => none
def Fav.shape (t : (LA × Int)) : List AV × Blks := ([(.robjs 72 27 t.1), (.int .i64 t.2)], [])
def Fav.res : Int → AV × Blks
 | u => ((.int .i64 u), [])
def Fav.c (n : Nat) : Abs.Callee := .mk' [] [(some (.objs 72 27)), none] Fav.pat (Fav.m n) (resKof Fav.res)
noncomputable def Fbc.C (n : Nat) : Ctx := ⟨Tryd.prog, kecG, lookC [], fun _ => false⟩
def Fbc.live : NL := fun k => match k with
 | 3 => ([6, 0, 5, 1], [5])
 | _ => ([], [])
def Fbc.l3_0.r {α : Type} (mk0 : Int → α) (n : Nat) (rc : Int → LA → Int → Int → Option α)  (x0 : Int) (x1 : LA) (x2 x3 : Int) : Option α :=
 if (decide (x0 < (x1.length : Int))) = true then
 if (decide (x2 ≤ x3)) = true then
 if 0 ≤ x0 then
 if x0 < (x1.length : Int) then
 bindO (tkAgg 7 (List.getD x1 (Int.toNat x0) AV.any)) fun r12 =>
 bindO (tkInt .u8 (List.getD r12 0 AV.any)) fun r14 =>
 bindO (tkInt .i64 (List.getD r12 1 AV.any)) fun r16 =>
 bindO (tkInts .u8 20 (List.getD r12 2 AV.any)) fun r18 =>
 bindO (tkInts .u64 4 (List.getD r12 3 AV.any)) fun r20 =>
 bindO (tkInts .u64 4 (List.getD r12 4 AV.any)) fun r22 =>
 bindO (tkRints .u8 (List.getD r12 5 AV.any)) fun r24 =>
 bindO (tkInt .u16 (List.getD r12 6 AV.any)) fun r26 =>
 rc (IntKind.wrap .i64 (x0 + 1)) x1 (IntKind.wrap .i64 (x2 + (IntKind.wrap .i64 (1 + (IntKind.wrap .i64 (Int.tdiv (r24.length : Int) 32)))))) x3
 else
 none
 else
 none
 else
 some (mk0 x2)
 else
 some (mk0 x2)
def Fbc.l3_0.g {α : Type} (mk0 : Int → α) (n : Nat) : Nat → Int → LA → Int → Int → Option α
 | 0, _, _, _, _ => none
 | m + 1, x0, x1, x2, x3 => Fbc.l3_0.r mk0 n (fun y0 y1 y2 y3 => Fbc.l3_0.g mk0 n m y0 y1 y2 y3)  x0 x1 x2 x3
def Fbc.l3_0.m (n m : Nat) (t : (Int × (LA × (Int × Int)))) : Option Int := Fbc.l3_0.g (fun a0 => a0) n m t.1 t.2.1 t.2.2.1 t.2.2.2
def Fbc.l3_0.pat : St → Option (Int × (LA × (Int × Int)))
 | (St.mk [(.int .i64 x0), (.robjs 47 32 x1), (.int .i64 x2), (.int .i64 x3)] []) => some (x0, x1, x2, x3)
 | _ => none
def Fbc.l3_0.shape (t : (Int × (LA × (Int × Int)))) : St := (St.mk [(.int .i64 t.1), (.robjs 47 32 t.2.1), (.int .i64 t.2.2.1), (.int .i64 t.2.2.2)] [])
def Fbc.l3_0.res : Int → Ex × St
 | u => ((.exit 0), (St.mk [(.int .i64 u)] []))
noncomputable def Fbc.A (n : Nat) : Ann := ⟨Tryd.f17.ntmps, 0, Fbc.live, [(0, (.objs 47 32))], [none], fun k => match k with
 | 3 => some (.mk' Fbc.l3_0.pat (Fbc.l3_0.m n n) (resKl Fbc.l3_0.res))
 | _ => none, noNL, lookJ []⟩
noncomputable def Fbc.b0 : Code := (loopsIn (Tryd.f17.body.getD .skip)).getD 0 .skip
def Fbc.g {α : Type} (mk0 : Int → α) (n : Nat) (a0 : LA) (a1 : Int) : Option α :=
 bindO (Fbc.l3_0.m n n (0, a0, 0, a1)) fun r2 =>
 some (mk0 r2)
def Fbc.m (n : Nat) (t : (LA × Int)) : Option Int := Fbc.g (fun a0 => a0) n t.1 t.2
def Fbc.pat : List AV → Blks → Option (LA × Int)
 | [(.robjs 47 32 a0), (.int .i64 a1)], [] => some (a0, a1)
 | _, _ => none
def Fbc.shape (t : (LA × Int)) : List AV × Blks := ([(.robjs 47 32 t.1), (.int .i64 t.2)], [])
def Fbc.res : Int → AV × Blks
 | u => ((.int .i64 u), [])
def Fbc.c (n : Nat) : Abs.Callee := .mk' [] [(some (.objs 47 32)), none] Fbc.pat (Fbc.m n) (resKof Fbc.res)
noncomputable def Fbj.C (n : Nat) : Ctx := ⟨Tryd.prog, kecG, lookC [(16, Fav.c n), (17, Fbc.c n)], fun _ => false⟩
noncomputable def Fbj.A (n : Nat) : Ann := ⟨Tryd.f7.ntmps, 0, noNL, [], [none], fun k => match k with
 | _ => none, noNL, lookJ []⟩
def Fbj.g {α : Type} (mk0 : Bool → α) (n : Nat) (a0 a1 : LA) : Option α :=
 bindO (Fav.m n (a0, 300)) fun r2 =>
 if (decide (r2 > 300)) = true then
 some (mk0 true)
 else
 bindO (Fbc.m n (a1, 300)) fun r6 =>
 some (mk0 (decide (r6 > 300)))
def Fbj.m (n : Nat) (t : (LA × LA)) : Option Bool := Fbj.g (fun a0 => a0) n t.1 t.2
def Fbj.pat : List AV → Blks → Option (LA × LA)
 | [(.robjs 72 27 a0), (.robjs 47 32 a1)], [] => some (a0, a1)
 | _, _ => none
def Fbj.shape (t : (LA × LA)) : List AV × Blks := ([(.robjs 72 27 t.1), (.robjs 47 32 t.2)], [])
def Fbj.res : Bool → AV × Blks
 | u => ((.bool u), [])
def Fbj.c (n : Nat) : Abs.Callee := .mk' [] [(some (.objs 72 27)), (some (.objs 47 32))] Fbj.pat (Fbj.m n) (resKof Fbj.res)
noncomputable def Fce.C (n : Nat) : Ctx := ⟨Tryd.prog, kecG, lookC [], fun _ => false⟩
def Fce.live : NL := fun k => match k with
 | 4 => ([8, 2, 3, 7, 6, 4], [6, 7, 4])
 | _ => ([], [])
def Fce.l4_0.r {α : Type} (mk0 : Int → LI → LI → α) (n : Nat) (rc : Int → Int → LI → LI → LI → LI → Option α)  (x0 x1 : Int) (x2 x3 : LI) (x4 x5 : LI) : Option α :=
 if (decide (x0 < 4)) = true then
 if 0 ≤ x0 then
 if x0 < 4 then
 if 0 ≤ x0 then
 if x0 < 4 then
 if 0 ≤ x0 then
 if x0 < 4 then
 if (decide ((IntKind.wrap .u64 ((List.getD x2 (Int.toNat x0) 0) + (List.getD x3 (Int.toNat x0) 0))) < (List.getD x2 (Int.toNat x0) 0))) = true then
 if (decide ((IntKind.wrap .u64 ((IntKind.wrap .u64 ((List.getD x2 (Int.toNat x0) 0) + (List.getD x3 (Int.toNat x0) 0))) + x1)) < (IntKind.wrap .u64 ((List.getD x2 (Int.toNat x0) 0) + (List.getD x3 (Int.toNat x0) 0))))) = true then
 if 0 ≤ x0 then
 if x0 < 4 then
 rc (IntKind.wrap .i64 (x0 + 1)) 1 x2 x3 (List.set x4 (Int.toNat x0) (IntKind.wrap .u64 ((IntKind.wrap .u64 ((List.getD x2 (Int.toNat x0) 0) + (List.getD x3 (Int.toNat x0) 0))) + x1))) x5
 else
 none
 else
 none
 else
 if 0 ≤ x0 then
 if x0 < 4 then
 rc (IntKind.wrap .i64 (x0 + 1)) 1 x2 x3 (List.set x4 (Int.toNat x0) (IntKind.wrap .u64 ((IntKind.wrap .u64 ((List.getD x2 (Int.toNat x0) 0) + (List.getD x3 (Int.toNat x0) 0))) + x1))) x5
 else
 none
 else
 none
 else
 if (decide ((IntKind.wrap .u64 ((IntKind.wrap .u64 ((List.getD x2 (Int.toNat x0) 0) + (List.getD x3 (Int.toNat x0) 0))) + x1)) < (IntKind.wrap .u64 ((List.getD x2 (Int.toNat x0) 0) + (List.getD x3 (Int.toNat x0) 0))))) = true then
 if 0 ≤ x0 then
 if x0 < 4 then
 rc (IntKind.wrap .i64 (x0 + 1)) 1 x2 x3 (List.set x4 (Int.toNat x0) (IntKind.wrap .u64 ((IntKind.wrap .u64 ((List.getD x2 (Int.toNat x0) 0) + (List.getD x3 (Int.toNat x0) 0))) + x1))) x5
 else
 none
 else
 none
 else
 if 0 ≤ x0 then
 if x0 < 4 then
 rc (IntKind.wrap .i64 (x0 + 1)) 0 x2 x3 (List.set x4 (Int.toNat x0) (IntKind.wrap .u64 ((IntKind.wrap .u64 ((List.getD x2 (Int.toNat x0) 0) + (List.getD x3 (Int.toNat x0) 0))) + x1))) x5
 else
 none
 else
 none
 else
 none
 else
 none
 else
 none
 else
 none
 else
 none
 else
 none
 else
 some (mk0 x1 x4 x5)
def Fce.l4_0.g {α : Type} (mk0 : Int → LI → LI → α) (n : Nat) : Nat → Int → Int → LI → LI → LI → LI → Option α
 | 0, _, _, _, _, _, _ => none
 | m + 1, x0, x1, x2, x3, x4, x5 => Fce.l4_0.r mk0 n (fun y0 y1 y2 y3 y4 y5 => Fce.l4_0.g mk0 n m y0 y1 y2 y3 y4 y5)  x0 x1 x2 x3 x4 x5
def Fce.l4_0.m (n m : Nat) (t : (Int × (Int × (LI × (LI × (LI × LI)))))) : Option (Int × (LI × LI)) := Fce.l4_0.g (fun a0 a1 a2 => (a0, a1, a2)) n m t.1 t.2.1 t.2.2.1 t.2.2.2.1 t.w.1 t.w.2
def Fce.l4_0.pat : St → Option (Int × (Int × (LI × (LI × (LI × LI)))))
 | (St.mk [(.int .i64 x0), (.ptr 0 []), (.ptr 1 []), (.int .u64 x1), (.ptr 2 []), (.ptr 3 [])] [(some (.var (.ints .u64 4 x2))), (some (.var (.ints .u64 4 x3))), (some (.var (.ints .u64 4 x4))), (some (.var (.ints .u64 4 x5)))]) => some (x0, x1, x2, x3, x4, x5)
 | _ => none
def Fce.l4_0.shape (t : (Int × (Int × (LI × (LI × (LI × LI)))))) : St := (St.mk [(.int .i64 t.1), (.ptr 0 []), (.ptr 1 []), (.int .u64 t.2.1), (.ptr 2 []), (.ptr 3 [])] [(some (.var (.ints .u64 4 t.2.2.1))), (some (.var (.ints .u64 4 t.2.2.2.1))), (some (.var (.ints .u64 4 t.w.1))), (some (.var (.ints .u64 4 t.w.2)))])
def Fce.l4_0.res : (Int × (LI × LI)) → Ex × St
 | u => ((.exit 0), (St.mk [(.ptr 0 []), (.int .u64 u.1), (.ptr 1 [])] [(some (.var (.ints .u64 4 u.2.1))), (some (.var (.ints .u64 4 u.2.2)))]))
noncomputable def Fce.A (n : Nat) : Ann := ⟨Tryd.f82.ntmps, 0, Fce.live, [], [none, none], fun k => match k with
 | 4 => some (.mk' Fce.l4_0.pat (Fce.l4_0.m n n) (resKl Fce.l4_0.res))
 | _ => none, noNL, lookJ []⟩
noncomputable def Fce.b0 : Code := (loopsIn (Tryd.f82.body.getD .skip)).getD 0 .skip
def Fce.g {α : Type} (mk0 : LI → Bool → α) (n : Nat) (a0 a1 : LI) : Option α :=
 bindO (Fce.l4_0.m n n (0, 0, a0, a1, [0, 0, 0, 0], [0, 0, 0, 0])) fun r2 =>
 some (mk0 r2.2.1 (r2.1 == 1))
def Fce.m (n : Nat) (t : (LI × LI)) : Option (LI × Bool) := Fce.g (fun a0 a1 => (a0, a1)) n t.1 t.2
def Fce.pat : List AV → Blks → Option (LI × LI)
 | [(.ints .u64 4 a0), (.ints .u64 4 a1)], [] => some (a0, a1)
 | _, _ => none
def Fce.shape (t : (LI × LI)) : List AV × Blks := ([(.ints .u64 4 t.1), (.ints .u64 4 t.2)], [])
def Fce.res : (LI × Bool) → AV × Blks
 | u => ((.tup [(.ints .u64 4 u.1), (.bool u.2)]), [])
def Fce.c (n : Nat) : Abs.Callee := .mk' [] [none, none] Fce.pat (Fce.m n) (resKof Fce.res)
noncomputable def Fcf.C (n : Nat) : Ctx := ⟨Tryd.prog, kecG, lookC [], fun _ => false⟩
def Fcf.live : NL := fun k => match k with
 | 2 => ([5, 2, 3], [4])
 | _ => ([], [])
def Fcf.l2_0.r {α : Type} (mk0 : Int → α) (mk1 : α) (n : Nat) (rc : Int → LI → LI → Option α)  (x0 : Int) (x1 x2 : LI) : Option α :=
 if (decide (x0 ≥ 0)) = true then
 if 0 ≤ x0 then
 if x0 < 4 then
 if 0 ≤ x0 then
 if x0 < 4 then
 if (decide ((List.getD x1 (Int.toNat x0) 0) < (List.getD x2 (Int.toNat x0) 0))) = true then
 some (mk0 (-1))
 else
 if 0 ≤ x0 then
 if x0 < 4 then
 if 0 ≤ x0 then
 if x0 < 4 then
 if (decide ((List.getD x1 (Int.toNat x0) 0) > (List.getD x2 (Int.toNat x0) 0))) = true then
 some (mk0 1)
 else
 rc (IntKind.wrap .i64 (x0 - 1)) x1 x2
 else
 none
 else
 none
 else
 none
 else
 none
 else
 none
 else
 none
 else
 none
 else
 none
 else
 some (mk1)
def Fcf.l2_0.g {α : Type} (mk0 : Int → α) (mk1 : α) (n : Nat) : Nat → Int → LI → LI → Option α
 | 0, _, _, _ => none
 | m + 1, x0, x1, x2 => Fcf.l2_0.r mk0 mk1 n (fun y0 y1 y2 => Fcf.l2_0.g mk0 mk1 n m y0 y1 y2)  x0 x1 x2
def Fcf.l2_0.m (n m : Nat) (t : (Int × (LI × LI))) : Option (Int ⊕ Unit) := Fcf.l2_0.g (fun a0 => (.inl a0)) (.inr ()) n m t.1 t.2.1 t.2.2
def Fcf.l2_0.pat : St → Option (Int × (LI × LI))
 | (St.mk [(.int .i64 x0), (.ptr 0 []), (.ptr 1 [])] [(some (.var (.ints .u64 4 x1))), (some (.var (.ints .u64 4 x2)))]) => some (x0, x1, x2)
 | _ => none
def Fcf.l2_0.shape (t : (Int × (LI × LI))) : St := (St.mk [(.int .i64 t.1), (.ptr 0 []), (.ptr 1 [])] [(some (.var (.ints .u64 4 t.2.1))), (some (.var (.ints .u64 4 t.2.2)))])
def Fcf.l2_0.res : (Int ⊕ Unit) → Ex × St
 | (.inl u) => (.ret, (St.mk [(.int .i64 u)] []))
 | (.inr u) => ((.exit 0), (St.mk [.any] []))
def Fcf.l2_0.resK {R : Type} (u : (Int ⊕ Unit)) (K : Ex → St → Option R) : Option R := match u with
 | (.inl u) => (fun p : Ex × St => K p.1 p.2) (.ret, (St.mk [(.int .i64 u)] []))
 | (.inr u) => (fun p : Ex × St => K p.1 p.2) ((.exit 0), (St.mk [.any] []))
noncomputable def Fcf.A (n : Nat) : Ann := ⟨Tryd.f26.ntmps, 0, Fcf.live, [], [none], fun k => match k with
 | 2 => some (.mk' Fcf.l2_0.pat (Fcf.l2_0.m n n) Fcf.l2_0.resK)
 | _ => none, noNL, lookJ []⟩
noncomputable def Fcf.b0 : Code := (loopsIn (Tryd.f26.body.getD .skip)).getD 0 .skip
def Fcf.g {α : Type} (mk0 : Int → α) (n : Nat) (a0 a1 : LI) : Option α :=
 bindO (Fcf.l2_0.m n n (3, a0, a1)) fun r2 => match r2 with
  | (.inl r2) =>
   some (mk0 r2)
  | (.inr r2) =>
   some (mk0 0)
def Fcf.m (n : Nat) (t : (LI × LI)) : Option Int := Fcf.g (fun a0 => a0) n t.1 t.2
def Fcf.pat : List AV → Blks → Option (LI × LI)
 | [(.ints .u64 4 a0), (.ints .u64 4 a1)], [] => some (a0, a1)
 | _, _ => none
def Fcf.shape (t : (LI × LI)) : List AV × Blks := ([(.ints .u64 4 t.1), (.ints .u64 4 t.2)], [])
def Fcf.res : Int → AV × Blks
 | u => ((.int .i64 u), [])
def Fcf.c (n : Nat) : Abs.Callee := .mk' [] [none, none] Fcf.pat (Fcf.m n) (resKof Fcf.res)
noncomputable def Fbk.C (n : Nat) : Ctx := ⟨Tryd.prog, kecG, lookC [], fun _ => false⟩
noncomputable def Fbk.A (n : Nat) : Ann := ⟨Tryd.f90.ntmps, 0, noNL, [], [none, none], fun k => match k with
 | _ => none, noNL, lookJ []⟩
def Fbk.g {α : Type} (mk0 : Int → Bool → α) (n : Nat) (a0 : LI) : Option α :=
 if ((List.getD a0 1 0) != 0) = true then
 some (mk0 0 false)
 else
 if ((List.getD a0 2 0) != 0) = true then
 some (mk0 0 false)
 else
 if ((List.getD a0 3 0) != 0) = true then
 some (mk0 0 false)
 else
 some (mk0 (List.getD a0 0 0) true)
def Fbk.m (n : Nat) (t : LI) : Option (Int × Bool) := Fbk.g (fun a0 a1 => (a0, a1)) n t
def Fbk.pat : List AV → Blks → Option LI
 | [(.ints .u64 4 a0)], [] => some a0
 | _, _ => none
def Fbk.shape (t : LI) : List AV × Blks := ([(.ints .u64 4 t)], [])
def Fbk.res : (Int × Bool) → AV × Blks
 | u => ((.tup [(.int .u64 u.1), (.bool u.2)]), [])
def Fbk.c (n : Nat) : Abs.Callee := .mk' [] [none] Fbk.pat (Fbk.m n) (resKof Fbk.res)
noncomputable def Fcg.C (n : Nat) : Ctx := ⟨Tryd.prog, kecG, lookC [(90, Fbk.c n)], fun _ => false⟩
noncomputable def Fcg.A (n : Nat) : Ann := ⟨Tryd.f85.ntmps, 0, noNL, [], [none], fun k => match k with
 | _ => none, noNL, lookJ []⟩
def Fcg.g {α : Type} (mk0 : Int → α) (n : Nat) (a0 : LI) : Option α :=
 bindO (Fbk.m n a0) fun r2 =>
 if (!r2.2) = true then
 some (mk0 256)
 else
 if (decide (r2.1 > 256)) = true then
 some (mk0 256)
 else
 some (mk0 (IntKind.wrap .i64 r2.1))
def Fcg.m (n : Nat) (t : LI) : Option Int := Fcg.g (fun a0 => a0) n t
def Fcg.pat : List AV → Blks → Option LI
 | [(.ints .u64 4 a0)], [] => some a0
 | _, _ => none
def Fcg.shape (t : LI) : List AV × Blks := ([(.ints .u64 4 t)], [])
def Fcg.res : Int → AV × Blks
 | u => ((.int .i64 u), [])
def Fcg.c (n : Nat) : Abs.Callee := .mk' [] [none] Fcg.pat (Fcg.m n) (resKof Fcg.res)
noncomputable def Fch.C (n : Nat) : Ctx := ⟨Tryd.prog, kecG, lookC [], fun _ => false⟩
noncomputable def Fch.A (n : Nat) : Ann := ⟨Tryd.f88.ntmps, 0, noNL, [], [none], fun k => match k with
 | _ => none, noNL, lookJ []⟩
def Fch.g {α : Type} (mk0 : Bool → α) (n : Nat) (a0 : LI) (a1 : Int) : Option α :=
 if 0 ≤ (IntKind.wrap .i64 (Int.tdiv a1 64)) then
 if (IntKind.wrap .i64 (Int.tdiv a1 64)) < 4 then
 if 0 ≤ (IntKind.wrap .u64 (Int.tmod a1 64)) then
 some (mk0 ((ibits BinOp.and .u64 (ishr .u64 (List.getD a0 (Int.toNat (IntKind.wrap .i64 (Int.tdiv a1 64))) 0) (IntKind.wrap .u64 (Int.tmod a1 64))) 1) == 1))
 else
 none
 else
 none
 else
 none
def Fch.m (n : Nat) (t : (LI × Int)) : Option Bool := Fch.g (fun a0 => a0) n t.1 t.2
def Fch.pat : List AV → Blks → Option (LI × Int)
 | [(.ints .u64 4 a0), (.int .i64 a1)], [] => some (a0, a1)
 | _, _ => none
def Fch.shape (t : (LI × Int)) : List AV × Blks := ([(.ints .u64 4 t.1), (.int .i64 t.2)], [])
def Fch.res : Bool → AV × Blks
 | u => ((.bool u), [])
def Fch.c (n : Nat) : Abs.Callee := .mk' [] [none, none] Fch.pat (Fch.m n) (resKof Fch.res)
noncomputable def Fbs.C (n : Nat) : Ctx := ⟨Tryd.prog, kecG, lookC [], fun _ => false⟩
noncomputable def Fbs.A (n : Nat) : Ann := ⟨Tryd.f89.ntmps, 0, noNL, [], [none], fun k => match k with
 | _ => none, noNL, lookJ []⟩
def Fbs.g {α : Type} (mk0 : LI → α) (n : Nat) (a0 : LI) (a1 : Int) (a2 : Bool) : Option α :=
 if 0 ≤ (IntKind.wrap .u64 (Int.tmod a1 64)) then
 if a2 = true then
 if 0 ≤ (IntKind.wrap .i64 (Int.tdiv a1 64)) then
 if (IntKind.wrap .i64 (Int.tdiv a1 64)) < 4 then
 if 0 ≤ (IntKind.wrap .i64 (Int.tdiv a1 64)) then
 if (IntKind.wrap .i64 (Int.tdiv a1 64)) < 4 then
 some (mk0 (List.set a0 (Int.toNat (IntKind.wrap .i64 (Int.tdiv a1 64))) (ibits BinOp.or .u64 (List.getD a0 (Int.toNat (IntKind.wrap .i64 (Int.tdiv a1 64))) 0) (ishl .u64 1 (IntKind.wrap .u64 (Int.tmod a1 64))))))
 else
 none
 else
 none
 else
 none
 else
 none
 else
 if 0 ≤ (IntKind.wrap .i64 (Int.tdiv a1 64)) then
 if (IntKind.wrap .i64 (Int.tdiv a1 64)) < 4 then
 if 0 ≤ (IntKind.wrap .i64 (Int.tdiv a1 64)) then
 if (IntKind.wrap .i64 (Int.tdiv a1 64)) < 4 then
 some (mk0 (List.set a0 (Int.toNat (IntKind.wrap .i64 (Int.tdiv a1 64))) (ibits BinOp.andNot .u64 (List.getD a0 (Int.toNat (IntKind.wrap .i64 (Int.tdiv a1 64))) 0) (ishl .u64 1 (IntKind.wrap .u64 (Int.tmod a1 64))))))
 else
 none
 else
 none
 else
 none
 else
 none
 else
 none
def Fbs.m (n : Nat) (t : (LI × (Int × Bool))) : Option LI := Fbs.g (fun a0 => a0) n t.1 t.2.1 t.2.2
def Fbs.pat : List AV → Blks → Option (LI × (Int × Bool))
 | [(.ints .u64 4 a0), (.int .i64 a1), (.bool a2)], [] => some (a0, a1, a2)
 | _, _ => none
def Fbs.shape (t : (LI × (Int × Bool))) : List AV × Blks := ([(.ints .u64 4 t.1), (.int .i64 t.2.1), (.bool t.2.2)], [])
def Fbs.res : LI → AV × Blks
 | u => ((.ints .u64 4 u), [])
def Fbs.c (n : Nat) : Abs.Callee := .mk' [] [none, none, none] Fbs.pat (Fbs.m n) (resKof Fbs.res)
noncomputable def Fbl.C (n : Nat) : Ctx := ⟨Tryd.prog, kecG, lookC [(88, Fch.c n), (89, Fbs.c n)], fun _ => false⟩
def Fbl.live : NL := fun k => match k with
 | 3 => ([8, 2, 1, 3, 7, 6], [7, 6])
 | _ => ([], [])
def Fbl.l3_0.r {α : Type} (mk0 : LI → LI → α) (n : Nat) (rc : Int → Bool → Int → LI → LI → LI → Option α)  (x0 : Int) (x1 : Bool) (x2 : Int) (x3 x4 x5 : LI) : Option α :=
 if (decide (x0 < 256)) = true then
 if (decide ((IntKind.wrap .i64 (x0 - x2)) ≥ 0)) = true then
 if (decide ((IntKind.wrap .i64 (x0 - x2)) < 256)) = true then
 bindO (Fch.m n (x3, (IntKind.wrap .i64 (x0 - x2)))) fun r10 =>
 bindO (Fbs.m n (x4, x0, r10)) fun r12 =>
 rc (IntKind.wrap .i64 (x0 + 1)) x1 x2 x3 r12 x5
 else
 bindO (Fbs.m n (x4, x0, x1)) fun r10 =>
 rc (IntKind.wrap .i64 (x0 + 1)) x1 x2 x3 r10 x5
 else
 bindO (Fbs.m n (x4, x0, x1)) fun r8 =>
 rc (IntKind.wrap .i64 (x0 + 1)) x1 x2 x3 r8 x5
 else
 some (mk0 x4 x5)
def Fbl.l3_0.g {α : Type} (mk0 : LI → LI → α) (n : Nat) : Nat → Int → Bool → Int → LI → LI → LI → Option α
 | 0, _, _, _, _, _, _ => none
 | m + 1, x0, x1, x2, x3, x4, x5 => Fbl.l3_0.r mk0 n (fun y0 y1 y2 y3 y4 y5 => Fbl.l3_0.g mk0 n m y0 y1 y2 y3 y4 y5)  x0 x1 x2 x3 x4 x5
def Fbl.l3_0.m (n m : Nat) (t : Ty27) : Option (LI × LI) := Fbl.l3_0.g (fun a0 a1 => (a0, a1)) n m t.1 t.2.1 t.2.2.1 t.2.2.2.1 t.w.1 t.w.2
def Fbl.l3_0.pat : St → Option Ty27
 | (St.mk [(.int .i64 x0), (.bool x1), (.int .i64 x2), (.ptr 0 []), (.ptr 1 []), (.ptr 2 [])] [(some (.var (.ints .u64 4 x3))), (some (.var (.ints .u64 4 x4))), (some (.var (.ints .u64 4 x5)))]) => some (x0, x1, x2, x3, x4, x5)
 | _ => none
def Fbl.l3_0.shape (t : Ty27) : St := (St.mk [(.int .i64 t.1), (.bool t.2.1), (.int .i64 t.2.2.1), (.ptr 0 []), (.ptr 1 []), (.ptr 2 [])] [(some (.var (.ints .u64 4 t.2.2.2.1))), (some (.var (.ints .u64 4 t.w.1))), (some (.var (.ints .u64 4 t.w.2)))])
def Fbl.l3_0.res : (LI × LI) → Ex × St
 | u => ((.exit 0), (St.mk [(.ptr 0 []), (.ptr 1 [])] [(some (.var (.ints .u64 4 u.1))), (some (.var (.ints .u64 4 u.2)))]))
noncomputable def Fbl.A (n : Nat) : Ann := ⟨Tryd.f84.ntmps, 0, Fbl.live, [], [none], fun k => match k with
 | 3 => some (.mk' Fbl.l3_0.pat (Fbl.l3_0.m n n) (resKl Fbl.l3_0.res))
 | _ => none, noNL, lookJ []⟩
noncomputable def Fbl.b0 : Code := (loopsIn (Tryd.f84.body.getD .skip)).getD 0 .skip
def Fbl.g {α : Type} (mk0 : LI → α) (n : Nat) (a0 : LI) (a1 : Int) (a2 : Bool) : Option α :=
 bindO (Fbl.l3_0.m n n (0, a2, a1, a0, [0, 0, 0, 0], [0, 0, 0, 0])) fun r2 =>
 some (mk0 r2.1)
def Fbl.m (n : Nat) (t : (LI × (Int × Bool))) : Option LI := Fbl.g (fun a0 => a0) n t.1 t.2.1 t.2.2
def Fbl.pat : List AV → Blks → Option (LI × (Int × Bool))
 | [(.ints .u64 4 a0), (.int .i64 a1), (.bool a2)], [] => some (a0, a1, a2)
 | _, _ => none
def Fbl.shape (t : (LI × (Int × Bool))) : List AV × Blks := ([(.ints .u64 4 t.1), (.int .i64 t.2.1), (.bool t.2.2)], [])
def Fbl.res : LI → AV × Blks
 | u => ((.ints .u64 4 u), [])
def Fbl.c (n : Nat) : Abs.Callee := .mk' [] [none, none, none] Fbl.pat (Fbl.m n) (resKof Fbl.res)
noncomputable def Fci.C (n : Nat) : Ctx := ⟨Tryd.prog, kecG, lookC [(85, Fcg.c n), (84, Fbl.c n)], fun _ => false⟩
noncomputable def Fci.A (n : Nat) : Ann := ⟨Tryd.f80.ntmps, 0, noNL, [], [none], fun k => match k with
 | _ => none, noNL, lookJ []⟩
def Fci.g {α : Type} (mk0 : LI → α) (n : Nat) (a0 a1 : LI) : Option α :=
 bindO (Fcg.m n a0) fun r2 =>
 bindO (Fbl.m n (a1, r2, false)) fun r4 =>
 some (mk0 r4)
def Fci.m (n : Nat) (t : (LI × LI)) : Option LI := Fci.g (fun a0 => a0) n t.1 t.2
def Fci.pat : List AV → Blks → Option (LI × LI)
 | [(.ints .u64 4 a0), (.ints .u64 4 a1)], [] => some (a0, a1)
 | _, _ => none
def Fci.shape (t : (LI × LI)) : List AV × Blks := ([(.ints .u64 4 t.1), (.ints .u64 4 t.2)], [])
def Fci.res : LI → AV × Blks
 | u => ((.ints .u64 4 u), [])
def Fci.c (n : Nat) : Abs.Callee := .mk' [] [none, none] Fci.pat (Fci.m n) (resKof Fci.res)
noncomputable def Fbt.C (n : Nat) : Ctx := ⟨Tryd.prog, kecG, lookC [(56, Faz.c n)], fun _ => false⟩
noncomputable def Fbt.A (n : Nat) : Ann := ⟨Tryd.f78.ntmps, 0, noNL, [], [none], fun k => match k with
 | _ => none, noNL, lookJ []⟩
def Fbt.g {α : Type} (mk0 : Int → α) (n : Nat) (a0 : LI) : Option α :=
 bindO (Faz.m n a0) fun r2 =>
 if (!r2.2) = true then
 some (mk0 256)
 else
 some (mk0 (if 256 < r2.1 then 256 else r2.1))
def Fbt.m (n : Nat) (t : LI) : Option Int := Fbt.g (fun a0 => a0) n t
def Fbt.pat : List AV → Blks → Option LI
 | [(.ints .u64 4 a0)], [] => some a0
 | _, _ => none
def Fbt.shape (t : LI) : List AV × Blks := ([(.ints .u64 4 t)], [])
def Fbt.res : Int → AV × Blks
 | u => ((.int .u64 u), [])
def Fbt.c (n : Nat) : Abs.Callee := .mk' [] [none] Fbt.pat (Fbt.m n) (resKof Fbt.res)
noncomputable def Fbu.C (n : Nat) : Ctx := ⟨Tryd.prog, kecG, lookC [(78, Fbt.c n)], fun _ => false⟩
def Fbu.live : NL := fun k => match k with
 | 4 => ([11, 5, 3, 6, 4], [6, 4])
 | _ => ([], [])
def Fbu.l4_0.r {α : Type} (mk0 : LI → LI → α) (n : Nat) (rc : Int → Int → LI → LI → LI → Option α)  (x0 x1 : Int) (x2 x3 x4 : LI) : Option α :=
 if (decide (x0 < 4)) = true then
 if (decide ((IntKind.wrap .i64 (x0 - (IntKind.wrap .i64 (IntKind.wrap .u64 (Int.tdiv x1 64))))) ≥ 0)) = true then
 if 0 ≤ (IntKind.wrap .i64 (x0 - (IntKind.wrap .i64 (IntKind.wrap .u64 (Int.tdiv x1 64))))) then
 if (IntKind.wrap .i64 (x0 - (IntKind.wrap .i64 (IntKind.wrap .u64 (Int.tdiv x1 64))))) < 4 then
 if 0 ≤ (Int.tmod x1 64) then
 if 0 ≤ x0 then
 if x0 < 4 then
 if (decide ((IntKind.wrap .i64 (x0 - (IntKind.wrap .i64 (IntKind.wrap .u64 (Int.tdiv x1 64))))) > 0)) = true then
 if ((Int.tmod x1 64) != 0) = true then
 if 0 ≤ x0 then
 if x0 < 4 then
 if 0 ≤ (IntKind.wrap .i64 ((IntKind.wrap .i64 (x0 - (IntKind.wrap .i64 (IntKind.wrap .u64 (Int.tdiv x1 64))))) - 1)) then
 if (IntKind.wrap .i64 ((IntKind.wrap .i64 (x0 - (IntKind.wrap .i64 (IntKind.wrap .u64 (Int.tdiv x1 64))))) - 1)) < 4 then
 if 0 ≤ (IntKind.wrap .u64 (64 - (Int.tmod x1 64))) then
 if 0 ≤ x0 then
 if x0 < 4 then
 rc (IntKind.wrap .i64 (x0 + 1)) x1 x2 (List.set (List.set x3 (Int.toNat x0) (ishl .u64 (List.getD x2 (Int.toNat (IntKind.wrap .i64 (x0 - (IntKind.wrap .i64 (IntKind.wrap .u64 (Int.tdiv x1 64)))))) 0) (Int.tmod x1 64))) (Int.toNat x0) (ibits BinOp.or .u64 (List.getD (List.set x3 (Int.toNat x0) (ishl .u64 (List.getD x2 (Int.toNat (IntKind.wrap .i64 (x0 - (IntKind.wrap .i64 (IntKind.wrap .u64 (Int.tdiv x1 64)))))) 0) (Int.tmod x1 64))) (Int.toNat x0) 0) (ishr .u64 (List.getD x2 (Int.toNat (IntKind.wrap .i64 ((IntKind.wrap .i64 (x0 - (IntKind.wrap .i64 (IntKind.wrap .u64 (Int.tdiv x1 64))))) - 1))) 0) (IntKind.wrap .u64 (64 - (Int.tmod x1 64)))))) x4
 else
 none
 else
 none
 else
 none
 else
 none
 else
 none
 else
 none
 else
 none
 else
 rc (IntKind.wrap .i64 (x0 + 1)) x1 x2 (List.set x3 (Int.toNat x0) (ishl .u64 (List.getD x2 (Int.toNat (IntKind.wrap .i64 (x0 - (IntKind.wrap .i64 (IntKind.wrap .u64 (Int.tdiv x1 64)))))) 0) (Int.tmod x1 64))) x4
 else
 rc (IntKind.wrap .i64 (x0 + 1)) x1 x2 (List.set x3 (Int.toNat x0) (ishl .u64 (List.getD x2 (Int.toNat (IntKind.wrap .i64 (x0 - (IntKind.wrap .i64 (IntKind.wrap .u64 (Int.tdiv x1 64)))))) 0) (Int.tmod x1 64))) x4
 else
 none
 else
 none
 else
 none
 else
 none
 else
 none
 else
 if (decide ((IntKind.wrap .i64 (x0 - (IntKind.wrap .i64 (IntKind.wrap .u64 (Int.tdiv x1 64))))) > 0)) = true then
 if ((Int.tmod x1 64) != 0) = true then
 if 0 ≤ x0 then
 if x0 < 4 then
 if 0 ≤ (IntKind.wrap .i64 ((IntKind.wrap .i64 (x0 - (IntKind.wrap .i64 (IntKind.wrap .u64 (Int.tdiv x1 64))))) - 1)) then
 if (IntKind.wrap .i64 ((IntKind.wrap .i64 (x0 - (IntKind.wrap .i64 (IntKind.wrap .u64 (Int.tdiv x1 64))))) - 1)) < 4 then
 if 0 ≤ (IntKind.wrap .u64 (64 - (Int.tmod x1 64))) then
 if 0 ≤ x0 then
 if x0 < 4 then
 rc (IntKind.wrap .i64 (x0 + 1)) x1 x2 (List.set x3 (Int.toNat x0) (ibits BinOp.or .u64 (List.getD x3 (Int.toNat x0) 0) (ishr .u64 (List.getD x2 (Int.toNat (IntKind.wrap .i64 ((IntKind.wrap .i64 (x0 - (IntKind.wrap .i64 (IntKind.wrap .u64 (Int.tdiv x1 64))))) - 1))) 0) (IntKind.wrap .u64 (64 - (Int.tmod x1 64)))))) x4
 else
 none
 else
 none
 else
 none
 else
 none
 else
 none
 else
 none
 else
 none
 else
 rc (IntKind.wrap .i64 (x0 + 1)) x1 x2 x3 x4
 else
 rc (IntKind.wrap .i64 (x0 + 1)) x1 x2 x3 x4
 else
 some (mk0 x3 x4)
def Fbu.l4_0.g {α : Type} (mk0 : LI → LI → α) (n : Nat) : Nat → Int → Int → LI → LI → LI → Option α
 | 0, _, _, _, _, _ => none
 | m + 1, x0, x1, x2, x3, x4 => Fbu.l4_0.r mk0 n (fun y0 y1 y2 y3 y4 => Fbu.l4_0.g mk0 n m y0 y1 y2 y3 y4)  x0 x1 x2 x3 x4
def Fbu.l4_0.m (n m : Nat) (t : (Int × (Int × (LI × (LI × LI))))) : Option (LI × LI) := Fbu.l4_0.g (fun a0 a1 => (a0, a1)) n m t.1 t.2.1 t.2.2.1 t.2.2.2.1 t.w
def Fbu.l4_0.pat : St → Option (Int × (Int × (LI × (LI × LI))))
 | (St.mk [(.int .i64 x0), (.int .u64 x1), (.ptr 0 []), (.ptr 1 []), (.ptr 2 [])] [(some (.var (.ints .u64 4 x2))), (some (.var (.ints .u64 4 x3))), (some (.var (.ints .u64 4 x4)))]) => some (x0, x1, x2, x3, x4)
 | _ => none
def Fbu.l4_0.shape (t : (Int × (Int × (LI × (LI × LI))))) : St := (St.mk [(.int .i64 t.1), (.int .u64 t.2.1), (.ptr 0 []), (.ptr 1 []), (.ptr 2 [])] [(some (.var (.ints .u64 4 t.2.2.1))), (some (.var (.ints .u64 4 t.2.2.2.1))), (some (.var (.ints .u64 4 t.w)))])
def Fbu.l4_0.res : (LI × LI) → Ex × St
 | u => ((.exit 0), (St.mk [(.ptr 0 []), (.ptr 1 [])] [(some (.var (.ints .u64 4 u.1))), (some (.var (.ints .u64 4 u.2)))]))
noncomputable def Fbu.A (n : Nat) : Ann := ⟨Tryd.f65.ntmps, 0, Fbu.live, [], [none], fun k => match k with
 | 4 => some (.mk' Fbu.l4_0.pat (Fbu.l4_0.m n n) (resKl Fbu.l4_0.res))
 | _ => none, noNL, lookJ []⟩
noncomputable def Fbu.b0 : Code := (loopsIn (Tryd.f65.body.getD .skip)).getD 0 .skip
def Fbu.g {α : Type} (mk0 : LI → α) (n : Nat) (a0 a1 : LI) : Option α :=
 bindO (Fbt.m n a0) fun r2 =>
 bindO (Fbu.l4_0.m n n (0, r2, a1, [0, 0, 0, 0], [0, 0, 0, 0])) fun r4 =>
 some (mk0 r4.1)
def Fbu.m (n : Nat) (t : (LI × LI)) : Option LI := Fbu.g (fun a0 => a0) n t.1 t.2
def Fbu.pat : List AV → Blks → Option (LI × LI)
 | [(.ints .u64 4 a0), (.ints .u64 4 a1)], [] => some (a0, a1)
 | _, _ => none
def Fbu.shape (t : (LI × LI)) : List AV × Blks := ([(.ints .u64 4 t.1), (.ints .u64 4 t.2)], [])
def Fbu.res : LI → AV × Blks
 | u => ((.ints .u64 4 u), [])
def Fbu.c (n : Nat) : Abs.Callee := .mk' [] [none, none] Fbu.pat (Fbu.m n) (resKof Fbu.res)
noncomputable def Fbv.C (n : Nat) : Ctx := ⟨Tryd.prog, kecG, lookC [], fun _ => false⟩
def Fbv.live : NL := fun k => match k with
 | 4 => ([5, 4, 3, 0, 2], [3, 2])
 | _ => ([], [])
def Fbv.l4_0.r {α : Type} (mk0 : LI → LI → α) (n : Nat) (rc : Int → Int → LI → LI → LI → Option α)  (x0 x1 : Int) (x2 x3 x4 : LI) : Option α :=
 if (decide (x0 < 32)) = true then
 if (decide (x0 < x1)) = true then
 if 0 ≤ (IntKind.wrap .i64 (Int.tdiv x0 8)) then
 if (IntKind.wrap .i64 (Int.tdiv x0 8)) < 4 then
 if 0 ≤ (IntKind.wrap .i64 ((IntKind.wrap .i64 (x1 - 1)) - x0)) then
 if (IntKind.wrap .i64 ((IntKind.wrap .i64 (x1 - 1)) - x0)) < (x2.length : Int) then
 if 0 ≤ (IntKind.wrap .u64 (IntKind.wrap .i64 ((Int.tmod x0 8) * 8))) then
 if 0 ≤ (IntKind.wrap .i64 (Int.tdiv x0 8)) then
 if (IntKind.wrap .i64 (Int.tdiv x0 8)) < 4 then
 rc (IntKind.wrap .i64 (x0 + 1)) x1 x2 (List.set x3 (Int.toNat (IntKind.wrap .i64 (Int.tdiv x0 8))) (ibits BinOp.or .u64 (List.getD x3 (Int.toNat (IntKind.wrap .i64 (Int.tdiv x0 8))) 0) (ishl .u64 (IntKind.wrap .u64 (List.getD x2 (Int.toNat (IntKind.wrap .i64 ((IntKind.wrap .i64 (x1 - 1)) - x0))) 0)) (IntKind.wrap .u64 (IntKind.wrap .i64 ((Int.tmod x0 8) * 8)))))) x4
 else
 none
 else
 none
 else
 none
 else
 none
 else
 none
 else
 none
 else
 none
 else
 some (mk0 x3 x4)
 else
 some (mk0 x3 x4)
def Fbv.l4_0.g {α : Type} (mk0 : LI → LI → α) (n : Nat) : Nat → Int → Int → LI → LI → LI → Option α
 | 0, _, _, _, _, _ => none
 | m + 1, x0, x1, x2, x3, x4 => Fbv.l4_0.r mk0 n (fun y0 y1 y2 y3 y4 => Fbv.l4_0.g mk0 n m y0 y1 y2 y3 y4)  x0 x1 x2 x3 x4
def Fbv.l4_0.m (n m : Nat) (t : (Int × (Int × (LI × (LI × LI))))) : Option (LI × LI) := Fbv.l4_0.g (fun a0 a1 => (a0, a1)) n m t.1 t.2.1 t.2.2.1 t.2.2.2.1 t.w
def Fbv.l4_0.pat : St → Option (Int × (Int × (LI × (LI × LI))))
 | (St.mk [(.int .i64 x0), (.int .i64 x1), (.ptr 0 []), (.rints .u8 x2), (.ptr 1 [])] [(some (.var (.ints .u64 4 x3))), (some (.var (.ints .u64 4 x4)))]) => some (x0, x1, x2, x3, x4)
 | _ => none
def Fbv.l4_0.shape (t : (Int × (Int × (LI × (LI × LI))))) : St := (St.mk [(.int .i64 t.1), (.int .i64 t.2.1), (.ptr 0 []), (.rints .u8 t.2.2.1), (.ptr 1 [])] [(some (.var (.ints .u64 4 t.2.2.2.1))), (some (.var (.ints .u64 4 t.w)))])
def Fbv.l4_0.res : (LI × LI) → Ex × St
 | u => ((.exit 0), (St.mk [(.ptr 0 []), (.ptr 1 [])] [(some (.var (.ints .u64 4 u.1))), (some (.var (.ints .u64 4 u.2)))]))
noncomputable def Fbv.A (n : Nat) : Ann := ⟨Tryd.f86.ntmps, 0, Fbv.live, [(0, (.ints .u8))], [none], fun k => match k with
 | 4 => some (.mk' Fbv.l4_0.pat (Fbv.l4_0.m n n) (resKl Fbv.l4_0.res))
 | _ => none, noNL, lookJ []⟩
noncomputable def Fbv.b0 : Code := (loopsIn (Tryd.f86.body.getD .skip)).getD 0 .skip
def Fbv.g {α : Type} (mk0 : LI → α) (n : Nat) (a0 : LI) : Option α :=
 bindO (Fbv.l4_0.m n n (0, (a0.length : Int), a0, [0, 0, 0, 0], [0, 0, 0, 0])) fun r2 =>
 some (mk0 r2.1)
def Fbv.m (n : Nat) (t : LI) : Option LI := Fbv.g (fun a0 => a0) n t
def Fbv.pat : List AV → Blks → Option LI
 | [(.rints .u8 a0)], [] => some a0
 | _, _ => none
def Fbv.shape (t : LI) : List AV × Blks := ([(.rints .u8 t)], [])
def Fbv.res : LI → AV × Blks
 | u => ((.ints .u64 4 u), [])
def Fbv.c (n : Nat) : Abs.Callee := .mk' [] [(some (.ints .u8))] Fbv.pat (Fbv.m n) (resKof Fbv.res)
