/- Parts of the proofs of chapter 49's laws: Jcv. -/
import Derived.Test.YtdblnbnofjggnaaGreatDoorK32
import Derived.Test.YtdblnbnofjggnaaGreatDoorK25
namespace Go.Proofs.YtdblnbnofjggnaaGreatDoor
open Go.RowKit
def tV (s : ByteArray) : V := .mk 2 0 s []
def lV (l : List V) : V := .mk 3 0 ⟨#[]⟩ l
def bV (b : Bool) : V := iV (if b then 1 else 0)
def nsV (l : List Int) : V := lV (l.map iV)
def spV (a b : Int) : V := lV [iV a, iV b]
def cutV (c : Cut) : V := lV [bV c.ap, iV c.ix, spV c.mf c.mt, iV c.less]
def nodV (n : Nod) : V := lV [iV n.par, iV n.frm, lV (n.cuts.map cutV)]
def fltL (f : Flt) : List V := [iV f.id, iV f.air, iV f.cls, tV f.call, nsV f.ways, spV f.wf f.wt, bV f.can]
def repLV (r : Rp) : List V := [iV r.st, iV r.no, iV r.mi, iV r.ar, tV r.cl, iV r.vo]
def contL (x : Inp) : List V := [lV [iV x.mi, iV x.ce, iV x.no], iV x.kind, tV x.text, lV (fltL x.flt), lV (x.tree.map nodV), lV [iV x.chg.frm, iV x.chg.cfg, nsV x.chg.modes],
 lV (repLV x.rep), lV [iV x.sts.st, iV x.sts.frm, bV x.sts.wk], iV x.n, lV [nsV x.stn.vols, iV x.stn.sh, iV x.stn.fa]]
def fullL (x : Inp) : List V := contL x ++ [lV [iV x.sr, iV x.ss]]
def nxt (k : Int) : List V → Option (V × List V)
 | [] => none
 | x :: r => if x.kind = k then some (x, r) else none
def numR (l : List V) : Option (Int × List V) := (nxt 1 l).bind fun p => some (p.1.n, p.2)
def txtR (l : List V) : Option (ByteArray × List V) := (nxt 2 l).bind fun p => some (p.1.s, p.2)
def flgR (l : List V) : Option (Bool × List V) := (numR l).bind fun p => some (decide (p.1 = 1), p.2)
def lstR (l : List V) : Option (List V × List V) := (nxt 3 l).bind fun p => some (p.1.l, p.2)
def spnR (l : List V) : Option ((Int × Int) × List V) := (lstR l).bind fun p => (numR p.1).bind fun a => (numR a.2).bind fun b => some ((a.1, b.1), p.2)
def numsA : List V → Option (List Int)
 | [] => some []
 | x :: r => (numR (x :: r)).bind fun a => (numsA r).bind fun q => some (a.1 :: q)
def nssR (l : List V) : Option (List Int × List V) := (lstR l).bind fun p => (numsA p.1).bind fun q => some (q, p.2)
def cutR (l : List V) : Option Cut := (flgR l).bind fun a => (numR a.2).bind fun b => (spnR b.2).bind fun c => (numR c.2).bind fun d => some ⟨a.1, b.1, c.1.1, c.1.2, d.1⟩
def cutsA : List V → Option (List Cut)
 | [] => some []
 | x :: r => (lstR (x :: r)).bind fun a => (cutR a.1).bind fun c => (cutsA r).bind fun q => some (c :: q)
def nodR (l : List V) : Option Nod := (numR l).bind fun a => (numR a.2).bind fun b => (lstR b.2).bind fun c => (cutsA c.1).bind fun d => some ⟨a.1, b.1, d⟩
def nodsA : List V → Option (List Nod)
 | [] => some []
 | x :: r => (lstR (x :: r)).bind fun a => (nodR a.1).bind fun c => (nodsA r).bind fun q => some (c :: q)
def treR (l : List V) : Option (List Nod × List V) := (lstR l).bind fun p => (nodsA p.1).bind fun q => some (q, p.2)
def decC (c0 : List V) : Option Inp :=
 (lstR c0).bind fun s => (numR s.1).bind fun a1 => (numR a1.2).bind fun a2 => (numR a2.2).bind fun a3 => (numR s.2).bind fun k => (txtR k.2).bind fun t =>
 (lstR t.2).bind fun f => (numR f.1).bind fun f1 => (numR f1.2).bind fun f2 => (numR f2.2).bind fun f3 => (txtR f3.2).bind fun f4 => (nssR f4.2).bind fun f5 => (spnR f5.2).bind fun f6 => (flgR f6.2).bind fun f7 =>
 (treR f.2).bind fun tr =>
 (lstR tr.2).bind fun g => (numR g.1).bind fun g1 => (numR g1.2).bind fun g2 => (nssR g2.2).bind fun g3 =>
 (lstR g.2).bind fun r => (numR r.1).bind fun r1 => (numR r1.2).bind fun r2 => (numR r2.2).bind fun r3 => (numR r3.2).bind fun r4 => (txtR r4.2).bind fun r5 => (numR r5.2).bind fun r6 =>
 (lstR r.2).bind fun u => (numR u.1).bind fun u1 => (numR u1.2).bind fun u2 => (flgR u2.2).bind fun u3 =>
 (numR u.2).bind fun n =>
 (lstR n.2).bind fun p => (nssR p.1).bind fun p1 => (numR p1.2).bind fun p2 => (numR p2.2).bind fun p3 =>
 (lstR p.2).bind fun q => (numR q.1).bind fun q1 => (numR q1.2).bind fun q2 =>
 some ⟨a1.1, a2.1, a3.1, k.1, t.1, ⟨f1.1, f2.1, f3.1, f4.1, f5.1, f6.1.1, f6.1.2, f7.1⟩, tr.1, ⟨g1.1, g2.1, g3.1⟩, ⟨r1.1, r2.1, r3.1, r4.1, r5.1, r6.1⟩, ⟨u1.1, u2.1, u3.1⟩, n.1, ⟨p1.1, p2.1, p3.1⟩, q1.1, q2.1⟩
def decI (v : V) : Option Inp := if v.kind = 3 then decC v.l else none
theorem bind_some' {α β : Type} {o : Option α} {p : α} {f : α → Option β} (h : o = some p) : o.bind f = f p := by rw [h]; rfl
theorem bind_none' {α β : Type} {o : Option α} {f : α → Option β} (h : o = none) : o.bind f = none := by rw [h]; rfl
theorem numR_i (n : Int) (r : List V) : numR (iV n :: r) = some (n, r) := rfl
theorem txtR_t (s : ByteArray) (r : List V) : txtR (tV s :: r) = some (s, r) := rfl
theorem flgR_b (b : Bool) (r : List V) : flgR (bV b :: r) = some (b, r) := by cases b <;> rfl
theorem lstR_l (l r : List V) : lstR (lV l :: r) = some (l, r) := rfl
theorem spnR_s (a b : Int) (r : List V) : spnR (spV a b :: r) = some ((a, b), r) := rfl
theorem numsA_map : ∀ l : List Int, numsA (l.map iV) = some l
 | [] => rfl
 | x :: r => by simp only [List.map_cons, numsA, numR_i, Option.bind_some, numsA_map r]
theorem nssR_n (l : List Int) (r : List V) : nssR (nsV l :: r) = some (l, r) := by simp only [nssR, nsV, lstR_l, Option.bind_some, numsA_map]
theorem cutsA_map : ∀ l : List Cut, cutsA (l.map cutV) = some l
 | [] => rfl
 | ⟨a, b, c, d, e⟩ :: r => by simp only [List.map_cons, cutsA, cutV, lstR_l, Option.bind_some, cutR, flgR_b, numR_i, spnR_s, cutsA_map r]
theorem nodsA_map : ∀ l : List Nod, nodsA (l.map nodV) = some l
 | [] => rfl
 | ⟨a, b, c⟩ :: r => by simp only [List.map_cons, nodsA, nodV, lstR_l, Option.bind_some, nodR, numR_i, cutsA_map, nodsA_map r]
theorem treR_t (l : List Nod) (r : List V) : treR (lV (l.map nodV) :: r) = some (l, r) := by simp only [treR, lstR_l, Option.bind_some, nodsA_map]
theorem decI_full (x : Inp) : decI (lV (fullL x)) = some x := by
 obtain ⟨a1, a2, a3, a4, a5, ⟨f1, f2, f3, f4, f5, f6, f7, f8⟩, a7, ⟨g1, g2, g3⟩, ⟨r1, r2, r3, r4, r5, r6⟩, ⟨u1, u2, u3⟩, a11, ⟨p1, p2, p3⟩, a13, a14⟩ := x
 show (if (3 : Int) = 3 then decC (fullL _) else none) = _
 rw [if_pos rfl]
 simp only [decC, fullL, contL, fltL, repLV, List.cons_append, List.nil_append, lV]
 simp only [show ∀ l, V.mk 3 0 ⟨#[]⟩ l = lV l from fun _ => rfl, lstR_l, numR_i, txtR_t, nssR_n, spnR_s, flgR_b, treR_t, Option.bind_some]
end Go.Proofs.YtdblnbnofjggnaaGreatDoor
