/-
  NodeWiths: the law answers true at every two nodes that are read.
-/
import Derived.Test.YtaibdhmiglacdaaGreatDoorWt12

namespace Go.Ev
open Go Go.Proofs
set_option maxRecDepth 100000
set_option linter.unusedSimpArgs false
set_option linter.unusedVariables false

abbrev NodeE : Type := Int × Int × Int × ByteArray × Bool × Bool × Bool × Int × Int × Int × Int × List (List PC) × Int × Int × Int × Int × Int × Int × Int × Int × Int × List (List PC) × Int × Int × Int × Int × Int × List (List PC) × Int × List (List PC) × List (List PC) × Int × Int × Int × Int × ByteArray × Int × Int × Int × Int × Int × Int × List (List PC) × Int × Unit
def nodeE (a : NodeS) (e : Int) : NodeE := (a.id, a.kind, a.parent, a.name, a.hidden, a.locked, a.clip, a.opacity, a.mode, a.mw, a.mh, a.mv, a.ta, a.tb, a.tc, a.td, a.te, a.tf, a.kernel, a.iw, a.ih, a.pix, a.cr, a.cg, a.cb, a.ca, a.sub, a.par, a.spread, a.stops, a.segs, a.rule, a.width, a.join, a.cap, a.text, a.size, a.wrap, a.ref, a.wc, a.wr, a.ws, a.wd, e, ())
abbrev TwoT : Type := Int × Int × Int × ByteArray × Bool × Bool × Bool × Int × Int × Int × Int × List (List PC) × Int × Int × Int × Int × Int × Int × Int × Int × Int × List (List PC) × Int × Int × Int × Int × Int × List (List PC) × Int × List (List PC) × List (List PC) × Int × Int × Int × Int × ByteArray × Int × Int × Int × Int × Int × Int × List (List PC) × Int × Int × Int × ByteArray × Bool × Bool × Bool × Int × Int × Int × Int × List (List PC) × Int × Int × Int × Int × Int × Int × Int × Int × Int × List (List PC) × Int × Int × Int × Int × Int × List (List PC) × Int × List (List PC) × List (List PC) × Int × Int × Int × Int × ByteArray × Int × Int × Int × Int × Int × Int × List (List PC) × Unit
def twoT (a b : NodeS) : TwoT := (a.id, a.kind, a.parent, a.name, a.hidden, a.locked, a.clip, a.opacity, a.mode, a.mw, a.mh, a.mv, a.ta, a.tb, a.tc, a.td, a.te, a.tf, a.kernel, a.iw, a.ih, a.pix, a.cr, a.cg, a.cb, a.ca, a.sub, a.par, a.spread, a.stops, a.segs, a.rule, a.width, a.join, a.cap, a.text, a.size, a.wrap, a.ref, a.wc, a.wr, a.ws, a.wd, b.id, b.kind, b.parent, b.name, b.hidden, b.locked, b.clip, b.opacity, b.mode, b.mw, b.mh, b.mv, b.ta, b.tb, b.tc, b.td, b.te, b.tf, b.kernel, b.iw, b.ih, b.pix, b.cr, b.cg, b.cb, b.ca, b.sub, b.par, b.spread, b.stops, b.segs, b.rule, b.width, b.join, b.cap, b.text, b.size, b.wrap, b.ref, b.wc, b.wr, b.ws, b.wd, ())
noncomputable def g7b (p1 p2 : Bool) (w1 w2 : NodeE) : Tr (Bool × Unit) :=
 .br p1
  (.br p2
   (.br (eqI w1.2.2.2.2.2.2.2.2.2.2.2.2.2.2.2.2.2.2.2.2.2.2.2.2.2.2.2.2.2.2.2.2.2.2.2.2.2.2.2.2.2.2.2.1 w2.2.2.2.2.2.2.2.2.2.2.2.2.2.2.2.2.2.2.2.2.2.2.2.2.2.2.2.2.2.2.2.2.2.2.2.2.2.2.2.2.2.2.2.1)
    (.br (Nat.ble (0 + (List.length w1.2.2.2.2.2.2.2.2.2.2.2.1)) (List.length w1.2.2.2.2.2.2.2.2.2.2.2.1))
     (.br (Nat.ble (0 + (List.length w1.2.2.2.2.2.2.2.2.2.2.2.2.2.2.2.2.2.2.2.2.2.1)) (List.length w1.2.2.2.2.2.2.2.2.2.2.2.2.2.2.2.2.2.2.2.2.2.1))
      (.br (Nat.ble (0 + (List.length w1.2.2.2.2.2.2.2.2.2.2.2.2.2.2.2.2.2.2.2.2.2.2.2.2.2.2.2.1)) (List.length w1.2.2.2.2.2.2.2.2.2.2.2.2.2.2.2.2.2.2.2.2.2.2.2.2.2.2.2.1))
       (.br (Nat.ble (0 + (List.length w1.2.2.2.2.2.2.2.2.2.2.2.2.2.2.2.2.2.2.2.2.2.2.2.2.2.2.2.2.2.1)) (List.length w1.2.2.2.2.2.2.2.2.2.2.2.2.2.2.2.2.2.2.2.2.2.2.2.2.2.2.2.2.2.1))
        (.br (Nat.ble (0 + (List.length w1.2.2.2.2.2.2.2.2.2.2.2.2.2.2.2.2.2.2.2.2.2.2.2.2.2.2.2.2.2.2.1)) (List.length w1.2.2.2.2.2.2.2.2.2.2.2.2.2.2.2.2.2.2.2.2.2.2.2.2.2.2.2.2.2.2.1))
         (.br (Nat.ble (0 + (List.length w1.2.2.2.2.2.2.2.2.2.2.2.2.2.2.2.2.2.2.2.2.2.2.2.2.2.2.2.2.2.2.2.2.2.2.2.2.2.2.2.2.2.2.1)) (List.length w1.2.2.2.2.2.2.2.2.2.2.2.2.2.2.2.2.2.2.2.2.2.2.2.2.2.2.2.2.2.2.2.2.2.2.2.2.2.2.2.2.2.2.1))
          (.br (okT2 (NodeS.mk w1.1 w1.2.1 w1.2.2.1 w1.2.2.2.1 w1.2.2.2.2.1 w1.2.2.2.2.2.1 w1.2.2.2.2.2.2.1 w1.2.2.2.2.2.2.2.1 w1.2.2.2.2.2.2.2.2.1 w1.2.2.2.2.2.2.2.2.2.1 w1.2.2.2.2.2.2.2.2.2.2.1 false (List.take (List.length w1.2.2.2.2.2.2.2.2.2.2.2.1) (List.drop 0 w1.2.2.2.2.2.2.2.2.2.2.2.1)) w1.2.2.2.2.2.2.2.2.2.2.2.2.1 w1.2.2.2.2.2.2.2.2.2.2.2.2.2.1 w1.2.2.2.2.2.2.2.2.2.2.2.2.2.2.1 w1.2.2.2.2.2.2.2.2.2.2.2.2.2.2.2.1 w1.2.2.2.2.2.2.2.2.2.2.2.2.2.2.2.2.1 w1.2.2.2.2.2.2.2.2.2.2.2.2.2.2.2.2.2.1 w1.2.2.2.2.2.2.2.2.2.2.2.2.2.2.2.2.2.2.1 w1.2.2.2.2.2.2.2.2.2.2.2.2.2.2.2.2.2.2.2.1 w1.2.2.2.2.2.2.2.2.2.2.2.2.2.2.2.2.2.2.2.2.1 false (List.take (List.length w1.2.2.2.2.2.2.2.2.2.2.2.2.2.2.2.2.2.2.2.2.2.1) (List.drop 0 w1.2.2.2.2.2.2.2.2.2.2.2.2.2.2.2.2.2.2.2.2.2.1)) w1.2.2.2.2.2.2.2.2.2.2.2.2.2.2.2.2.2.2.2.2.2.2.1 w1.2.2.2.2.2.2.2.2.2.2.2.2.2.2.2.2.2.2.2.2.2.2.2.1 w1.2.2.2.2.2.2.2.2.2.2.2.2.2.2.2.2.2.2.2.2.2.2.2.2.1 w1.2.2.2.2.2.2.2.2.2.2.2.2.2.2.2.2.2.2.2.2.2.2.2.2.2.1 w1.2.2.2.2.2.2.2.2.2.2.2.2.2.2.2.2.2.2.2.2.2.2.2.2.2.2.1 false (List.take (List.length w1.2.2.2.2.2.2.2.2.2.2.2.2.2.2.2.2.2.2.2.2.2.2.2.2.2.2.2.1) (List.drop 0 w1.2.2.2.2.2.2.2.2.2.2.2.2.2.2.2.2.2.2.2.2.2.2.2.2.2.2.2.1)) w1.2.2.2.2.2.2.2.2.2.2.2.2.2.2.2.2.2.2.2.2.2.2.2.2.2.2.2.2.1 false (List.take (List.length w1.2.2.2.2.2.2.2.2.2.2.2.2.2.2.2.2.2.2.2.2.2.2.2.2.2.2.2.2.2.1) (List.drop 0 w1.2.2.2.2.2.2.2.2.2.2.2.2.2.2.2.2.2.2.2.2.2.2.2.2.2.2.2.2.2.1)) false (List.take (List.length w1.2.2.2.2.2.2.2.2.2.2.2.2.2.2.2.2.2.2.2.2.2.2.2.2.2.2.2.2.2.2.1) (List.drop 0 w1.2.2.2.2.2.2.2.2.2.2.2.2.2.2.2.2.2.2.2.2.2.2.2.2.2.2.2.2.2.2.1)) w1.2.2.2.2.2.2.2.2.2.2.2.2.2.2.2.2.2.2.2.2.2.2.2.2.2.2.2.2.2.2.2.1 w1.2.2.2.2.2.2.2.2.2.2.2.2.2.2.2.2.2.2.2.2.2.2.2.2.2.2.2.2.2.2.2.2.1 w1.2.2.2.2.2.2.2.2.2.2.2.2.2.2.2.2.2.2.2.2.2.2.2.2.2.2.2.2.2.2.2.2.2.1 w1.2.2.2.2.2.2.2.2.2.2.2.2.2.2.2.2.2.2.2.2.2.2.2.2.2.2.2.2.2.2.2.2.2.2.1 w1.2.2.2.2.2.2.2.2.2.2.2.2.2.2.2.2.2.2.2.2.2.2.2.2.2.2.2.2.2.2.2.2.2.2.2.1 w1.2.2.2.2.2.2.2.2.2.2.2.2.2.2.2.2.2.2.2.2.2.2.2.2.2.2.2.2.2.2.2.2.2.2.2.2.1 w1.2.2.2.2.2.2.2.2.2.2.2.2.2.2.2.2.2.2.2.2.2.2.2.2.2.2.2.2.2.2.2.2.2.2.2.2.2.1 w1.2.2.2.2.2.2.2.2.2.2.2.2.2.2.2.2.2.2.2.2.2.2.2.2.2.2.2.2.2.2.2.2.2.2.2.2.2.2.1 w1.2.2.2.2.2.2.2.2.2.2.2.2.2.2.2.2.2.2.2.2.2.2.2.2.2.2.2.2.2.2.2.2.2.2.2.2.2.2.2.1 w1.2.2.2.2.2.2.2.2.2.2.2.2.2.2.2.2.2.2.2.2.2.2.2.2.2.2.2.2.2.2.2.2.2.2.2.2.2.2.2.2.1 w1.2.2.2.2.2.2.2.2.2.2.2.2.2.2.2.2.2.2.2.2.2.2.2.2.2.2.2.2.2.2.2.2.2.2.2.2.2.2.2.2.2.1 false (List.take (List.length w1.2.2.2.2.2.2.2.2.2.2.2.2.2.2.2.2.2.2.2.2.2.2.2.2.2.2.2.2.2.2.2.2.2.2.2.2.2.2.2.2.2.2.1) (List.drop 0 w1.2.2.2.2.2.2.2.2.2.2.2.2.2.2.2.2.2.2.2.2.2.2.2.2.2.2.2.2.2.2.2.2.2.2.2.2.2.2.2.2.2.2.1))) (NodeS.mk w2.1 w2.2.1 w2.2.2.1 w2.2.2.2.1 w2.2.2.2.2.1 w2.2.2.2.2.2.1 w2.2.2.2.2.2.2.1 w2.2.2.2.2.2.2.2.1 w2.2.2.2.2.2.2.2.2.1 w2.2.2.2.2.2.2.2.2.2.1 w2.2.2.2.2.2.2.2.2.2.2.1 false w2.2.2.2.2.2.2.2.2.2.2.2.1 w2.2.2.2.2.2.2.2.2.2.2.2.2.1 w2.2.2.2.2.2.2.2.2.2.2.2.2.2.1 w2.2.2.2.2.2.2.2.2.2.2.2.2.2.2.1 w2.2.2.2.2.2.2.2.2.2.2.2.2.2.2.2.1 w2.2.2.2.2.2.2.2.2.2.2.2.2.2.2.2.2.1 w2.2.2.2.2.2.2.2.2.2.2.2.2.2.2.2.2.2.1 w2.2.2.2.2.2.2.2.2.2.2.2.2.2.2.2.2.2.2.1 w2.2.2.2.2.2.2.2.2.2.2.2.2.2.2.2.2.2.2.2.1 w2.2.2.2.2.2.2.2.2.2.2.2.2.2.2.2.2.2.2.2.2.1 false w2.2.2.2.2.2.2.2.2.2.2.2.2.2.2.2.2.2.2.2.2.2.1 w2.2.2.2.2.2.2.2.2.2.2.2.2.2.2.2.2.2.2.2.2.2.2.1 w2.2.2.2.2.2.2.2.2.2.2.2.2.2.2.2.2.2.2.2.2.2.2.2.1 w2.2.2.2.2.2.2.2.2.2.2.2.2.2.2.2.2.2.2.2.2.2.2.2.2.1 w2.2.2.2.2.2.2.2.2.2.2.2.2.2.2.2.2.2.2.2.2.2.2.2.2.2.1 w2.2.2.2.2.2.2.2.2.2.2.2.2.2.2.2.2.2.2.2.2.2.2.2.2.2.2.1 false w2.2.2.2.2.2.2.2.2.2.2.2.2.2.2.2.2.2.2.2.2.2.2.2.2.2.2.2.1 w2.2.2.2.2.2.2.2.2.2.2.2.2.2.2.2.2.2.2.2.2.2.2.2.2.2.2.2.2.1 false w2.2.2.2.2.2.2.2.2.2.2.2.2.2.2.2.2.2.2.2.2.2.2.2.2.2.2.2.2.2.1 false w2.2.2.2.2.2.2.2.2.2.2.2.2.2.2.2.2.2.2.2.2.2.2.2.2.2.2.2.2.2.2.1 w2.2.2.2.2.2.2.2.2.2.2.2.2.2.2.2.2.2.2.2.2.2.2.2.2.2.2.2.2.2.2.2.1 w2.2.2.2.2.2.2.2.2.2.2.2.2.2.2.2.2.2.2.2.2.2.2.2.2.2.2.2.2.2.2.2.2.1 w2.2.2.2.2.2.2.2.2.2.2.2.2.2.2.2.2.2.2.2.2.2.2.2.2.2.2.2.2.2.2.2.2.2.1 w2.2.2.2.2.2.2.2.2.2.2.2.2.2.2.2.2.2.2.2.2.2.2.2.2.2.2.2.2.2.2.2.2.2.2.1 w2.2.2.2.2.2.2.2.2.2.2.2.2.2.2.2.2.2.2.2.2.2.2.2.2.2.2.2.2.2.2.2.2.2.2.2.1 w2.2.2.2.2.2.2.2.2.2.2.2.2.2.2.2.2.2.2.2.2.2.2.2.2.2.2.2.2.2.2.2.2.2.2.2.2.1 w2.2.2.2.2.2.2.2.2.2.2.2.2.2.2.2.2.2.2.2.2.2.2.2.2.2.2.2.2.2.2.2.2.2.2.2.2.2.1 w2.2.2.2.2.2.2.2.2.2.2.2.2.2.2.2.2.2.2.2.2.2.2.2.2.2.2.2.2.2.2.2.2.2.2.2.2.2.2.1 w2.2.2.2.2.2.2.2.2.2.2.2.2.2.2.2.2.2.2.2.2.2.2.2.2.2.2.2.2.2.2.2.2.2.2.2.2.2.2.2.1 w2.2.2.2.2.2.2.2.2.2.2.2.2.2.2.2.2.2.2.2.2.2.2.2.2.2.2.2.2.2.2.2.2.2.2.2.2.2.2.2.2.1 w2.2.2.2.2.2.2.2.2.2.2.2.2.2.2.2.2.2.2.2.2.2.2.2.2.2.2.2.2.2.2.2.2.2.2.2.2.2.2.2.2.2.1 false w2.2.2.2.2.2.2.2.2.2.2.2.2.2.2.2.2.2.2.2.2.2.2.2.2.2.2.2.2.2.2.2.2.2.2.2.2.2.2.2.2.2.2.1))
           (.ret ((cond (sameR (NodeS.mk w1.1 w1.2.1 w1.2.2.1 w1.2.2.2.1 w1.2.2.2.2.1 w1.2.2.2.2.2.1 w1.2.2.2.2.2.2.1 w1.2.2.2.2.2.2.2.1 w1.2.2.2.2.2.2.2.2.1 w1.2.2.2.2.2.2.2.2.2.1 w1.2.2.2.2.2.2.2.2.2.2.1 false (List.take (List.length w1.2.2.2.2.2.2.2.2.2.2.2.1) (List.drop 0 w1.2.2.2.2.2.2.2.2.2.2.2.1)) w1.2.2.2.2.2.2.2.2.2.2.2.2.1 w1.2.2.2.2.2.2.2.2.2.2.2.2.2.1 w1.2.2.2.2.2.2.2.2.2.2.2.2.2.2.1 w1.2.2.2.2.2.2.2.2.2.2.2.2.2.2.2.1 w1.2.2.2.2.2.2.2.2.2.2.2.2.2.2.2.2.1 w1.2.2.2.2.2.2.2.2.2.2.2.2.2.2.2.2.2.1 w1.2.2.2.2.2.2.2.2.2.2.2.2.2.2.2.2.2.2.1 w1.2.2.2.2.2.2.2.2.2.2.2.2.2.2.2.2.2.2.2.1 w1.2.2.2.2.2.2.2.2.2.2.2.2.2.2.2.2.2.2.2.2.1 false (List.take (List.length w1.2.2.2.2.2.2.2.2.2.2.2.2.2.2.2.2.2.2.2.2.2.1) (List.drop 0 w1.2.2.2.2.2.2.2.2.2.2.2.2.2.2.2.2.2.2.2.2.2.1)) w1.2.2.2.2.2.2.2.2.2.2.2.2.2.2.2.2.2.2.2.2.2.2.1 w1.2.2.2.2.2.2.2.2.2.2.2.2.2.2.2.2.2.2.2.2.2.2.2.1 w1.2.2.2.2.2.2.2.2.2.2.2.2.2.2.2.2.2.2.2.2.2.2.2.2.1 w1.2.2.2.2.2.2.2.2.2.2.2.2.2.2.2.2.2.2.2.2.2.2.2.2.2.1 w1.2.2.2.2.2.2.2.2.2.2.2.2.2.2.2.2.2.2.2.2.2.2.2.2.2.2.1 false (List.take (List.length w1.2.2.2.2.2.2.2.2.2.2.2.2.2.2.2.2.2.2.2.2.2.2.2.2.2.2.2.1) (List.drop 0 w1.2.2.2.2.2.2.2.2.2.2.2.2.2.2.2.2.2.2.2.2.2.2.2.2.2.2.2.1)) w1.2.2.2.2.2.2.2.2.2.2.2.2.2.2.2.2.2.2.2.2.2.2.2.2.2.2.2.2.1 false (List.take (List.length w1.2.2.2.2.2.2.2.2.2.2.2.2.2.2.2.2.2.2.2.2.2.2.2.2.2.2.2.2.2.1) (List.drop 0 w1.2.2.2.2.2.2.2.2.2.2.2.2.2.2.2.2.2.2.2.2.2.2.2.2.2.2.2.2.2.1)) false (List.take (List.length w1.2.2.2.2.2.2.2.2.2.2.2.2.2.2.2.2.2.2.2.2.2.2.2.2.2.2.2.2.2.2.1) (List.drop 0 w1.2.2.2.2.2.2.2.2.2.2.2.2.2.2.2.2.2.2.2.2.2.2.2.2.2.2.2.2.2.2.1)) w1.2.2.2.2.2.2.2.2.2.2.2.2.2.2.2.2.2.2.2.2.2.2.2.2.2.2.2.2.2.2.2.1 w1.2.2.2.2.2.2.2.2.2.2.2.2.2.2.2.2.2.2.2.2.2.2.2.2.2.2.2.2.2.2.2.2.1 w1.2.2.2.2.2.2.2.2.2.2.2.2.2.2.2.2.2.2.2.2.2.2.2.2.2.2.2.2.2.2.2.2.2.1 w1.2.2.2.2.2.2.2.2.2.2.2.2.2.2.2.2.2.2.2.2.2.2.2.2.2.2.2.2.2.2.2.2.2.2.1 w1.2.2.2.2.2.2.2.2.2.2.2.2.2.2.2.2.2.2.2.2.2.2.2.2.2.2.2.2.2.2.2.2.2.2.2.1 w1.2.2.2.2.2.2.2.2.2.2.2.2.2.2.2.2.2.2.2.2.2.2.2.2.2.2.2.2.2.2.2.2.2.2.2.2.1 w1.2.2.2.2.2.2.2.2.2.2.2.2.2.2.2.2.2.2.2.2.2.2.2.2.2.2.2.2.2.2.2.2.2.2.2.2.2.1 w1.2.2.2.2.2.2.2.2.2.2.2.2.2.2.2.2.2.2.2.2.2.2.2.2.2.2.2.2.2.2.2.2.2.2.2.2.2.2.1 w1.2.2.2.2.2.2.2.2.2.2.2.2.2.2.2.2.2.2.2.2.2.2.2.2.2.2.2.2.2.2.2.2.2.2.2.2.2.2.2.1 w1.2.2.2.2.2.2.2.2.2.2.2.2.2.2.2.2.2.2.2.2.2.2.2.2.2.2.2.2.2.2.2.2.2.2.2.2.2.2.2.2.1 w1.2.2.2.2.2.2.2.2.2.2.2.2.2.2.2.2.2.2.2.2.2.2.2.2.2.2.2.2.2.2.2.2.2.2.2.2.2.2.2.2.2.1 false (List.take (List.length w1.2.2.2.2.2.2.2.2.2.2.2.2.2.2.2.2.2.2.2.2.2.2.2.2.2.2.2.2.2.2.2.2.2.2.2.2.2.2.2.2.2.2.1) (List.drop 0 w1.2.2.2.2.2.2.2.2.2.2.2.2.2.2.2.2.2.2.2.2.2.2.2.2.2.2.2.2.2.2.2.2.2.2.2.2.2.2.2.2.2.2.1))) (NodeS.mk w2.1 w2.2.1 w2.2.2.1 w2.2.2.2.1 w2.2.2.2.2.1 w2.2.2.2.2.2.1 w2.2.2.2.2.2.2.1 w2.2.2.2.2.2.2.2.1 w2.2.2.2.2.2.2.2.2.1 w2.2.2.2.2.2.2.2.2.2.1 w2.2.2.2.2.2.2.2.2.2.2.1 false w2.2.2.2.2.2.2.2.2.2.2.2.1 w2.2.2.2.2.2.2.2.2.2.2.2.2.1 w2.2.2.2.2.2.2.2.2.2.2.2.2.2.1 w2.2.2.2.2.2.2.2.2.2.2.2.2.2.2.1 w2.2.2.2.2.2.2.2.2.2.2.2.2.2.2.2.1 w2.2.2.2.2.2.2.2.2.2.2.2.2.2.2.2.2.1 w2.2.2.2.2.2.2.2.2.2.2.2.2.2.2.2.2.2.1 w2.2.2.2.2.2.2.2.2.2.2.2.2.2.2.2.2.2.2.1 w2.2.2.2.2.2.2.2.2.2.2.2.2.2.2.2.2.2.2.2.1 w2.2.2.2.2.2.2.2.2.2.2.2.2.2.2.2.2.2.2.2.2.1 false w2.2.2.2.2.2.2.2.2.2.2.2.2.2.2.2.2.2.2.2.2.2.1 w2.2.2.2.2.2.2.2.2.2.2.2.2.2.2.2.2.2.2.2.2.2.2.1 w2.2.2.2.2.2.2.2.2.2.2.2.2.2.2.2.2.2.2.2.2.2.2.2.1 w2.2.2.2.2.2.2.2.2.2.2.2.2.2.2.2.2.2.2.2.2.2.2.2.2.1 w2.2.2.2.2.2.2.2.2.2.2.2.2.2.2.2.2.2.2.2.2.2.2.2.2.2.1 w2.2.2.2.2.2.2.2.2.2.2.2.2.2.2.2.2.2.2.2.2.2.2.2.2.2.2.1 false w2.2.2.2.2.2.2.2.2.2.2.2.2.2.2.2.2.2.2.2.2.2.2.2.2.2.2.2.1 w2.2.2.2.2.2.2.2.2.2.2.2.2.2.2.2.2.2.2.2.2.2.2.2.2.2.2.2.2.1 false w2.2.2.2.2.2.2.2.2.2.2.2.2.2.2.2.2.2.2.2.2.2.2.2.2.2.2.2.2.2.1 false w2.2.2.2.2.2.2.2.2.2.2.2.2.2.2.2.2.2.2.2.2.2.2.2.2.2.2.2.2.2.2.1 w2.2.2.2.2.2.2.2.2.2.2.2.2.2.2.2.2.2.2.2.2.2.2.2.2.2.2.2.2.2.2.2.1 w2.2.2.2.2.2.2.2.2.2.2.2.2.2.2.2.2.2.2.2.2.2.2.2.2.2.2.2.2.2.2.2.2.1 w2.2.2.2.2.2.2.2.2.2.2.2.2.2.2.2.2.2.2.2.2.2.2.2.2.2.2.2.2.2.2.2.2.2.1 w2.2.2.2.2.2.2.2.2.2.2.2.2.2.2.2.2.2.2.2.2.2.2.2.2.2.2.2.2.2.2.2.2.2.2.1 w2.2.2.2.2.2.2.2.2.2.2.2.2.2.2.2.2.2.2.2.2.2.2.2.2.2.2.2.2.2.2.2.2.2.2.2.1 w2.2.2.2.2.2.2.2.2.2.2.2.2.2.2.2.2.2.2.2.2.2.2.2.2.2.2.2.2.2.2.2.2.2.2.2.2.1 w2.2.2.2.2.2.2.2.2.2.2.2.2.2.2.2.2.2.2.2.2.2.2.2.2.2.2.2.2.2.2.2.2.2.2.2.2.2.1 w2.2.2.2.2.2.2.2.2.2.2.2.2.2.2.2.2.2.2.2.2.2.2.2.2.2.2.2.2.2.2.2.2.2.2.2.2.2.2.1 w2.2.2.2.2.2.2.2.2.2.2.2.2.2.2.2.2.2.2.2.2.2.2.2.2.2.2.2.2.2.2.2.2.2.2.2.2.2.2.2.1 w2.2.2.2.2.2.2.2.2.2.2.2.2.2.2.2.2.2.2.2.2.2.2.2.2.2.2.2.2.2.2.2.2.2.2.2.2.2.2.2.2.1 w2.2.2.2.2.2.2.2.2.2.2.2.2.2.2.2.2.2.2.2.2.2.2.2.2.2.2.2.2.2.2.2.2.2.2.2.2.2.2.2.2.2.1 false w2.2.2.2.2.2.2.2.2.2.2.2.2.2.2.2.2.2.2.2.2.2.2.2.2.2.2.2.2.2.2.2.2.2.2.2.2.2.2.2.2.2.2.1)) true false), ()))
           (.fail))
          (.fail))
         (.fail))
        (.fail))
       (.fail))
      (.fail))
     (.fail))
    (.ret (false, ())))
   (.fail))
  (.fail)
theorem g7_eq (a b : NodeS) : g7 (twoT a b) = g7b (g21p (twoT a b)) (g22p (twoT a b)) (g21w (twoT a b)) (g22w (twoT a b)) := by kernel_rfl
def withN (a b : NodeS) : NodeS := ⟨a.id, a.kind, a.parent, a.name, a.hidden, a.locked, a.clip, a.opacity, a.mode, a.mw, a.mh, false, a.mv, a.ta, a.tb, a.tc, a.td, a.te, a.tf, a.kernel, b.iw, b.ih, false, b.pix, b.cr, b.cg, b.cb, b.ca, b.sub, false, b.par, b.spread, false, b.stops, false, b.segs, b.rule, b.width, b.join, b.cap, b.text, b.size, b.wrap, b.ref, b.wc, b.wr, b.ws, false, b.wd⟩
def zeroN : NodeS := ⟨0, 0, 0, ByteArray.mk (Array.mk []), false, false, false, 0, 0, 0, 0, false, [], 0, 0, 0, 0, 0, 0, 0, 0, 0, false, [], 0, 0, 0, 0, 0, false, [], 0, false, [], false, [], 0, 0, 0, 0, ByteArray.mk (Array.mk []), 0, 0, 0, 0, 0, 0, false, []⟩
theorem lok_nil (bs s : Nat) : LOK bs s [] := ⟨Nat.zero_le _, by simp, by simp⟩
theorem eqGo_refl {ty : TypeId} {s : Nat} (hv : ∀ t : Tup (kI s), eqV (kI s) ty t t = true) : ∀ (a : List (List PC)), (∀ e ∈ a, ∃ t, decs (kI s) (e.take s) = some t) → eqGo (cmpE (kI s) ty s) a a = some true
  | [], _ => rfl
  | x :: xs, ha => by
    obtain ⟨t, ht⟩ := ha x (by simp)
    have ih := eqGo_refl hv xs (fun e he => ha e (by simp [he]))
    unfold eqGo
    have e : cmpE (kI s) ty s x x = some true := by unfold cmpE; rw [ht]; show some (eqV (kI s) ty t t) = _; rw [hv t]
    rw [e]
    exact ih
theorem beq_i (a : Int) : (a == a) = true := by simp
theorem eqV3 : ∀ t : Tup (kI 1), eqV (kI 1) 3 t t = true
  | (a, ()) => by
    have e : eqV (kI 1) 3 (a, ()) (a, ()) = (a == a) := by kernel_rfl
    rw [e]; simp
theorem eqV59 : ∀ t : Tup (kI 2), eqV (kI 2) 59 t t = true
  | (a, b, ()) => by
    have e : eqV (kI 2) 59 (a, b, ()) (a, b, ()) = ((a == a) && (b == b)) := by kernel_rfl
    rw [e]; simp
theorem eqV31 : ∀ t : Tup (kI 4), eqV (kI 4) 31 t t = true
  | (a, b, c, d, ()) => by
    have e : eqV (kI 4) 31 (a, b, c, d, ()) (a, b, c, d, ()) = ((a == a) && ((b == b) && ((c == c) && (d == d)))) := by kernel_rfl
    rw [e]; simp
theorem eqV57 : ∀ t : Tup (kI 5), eqV (kI 5) 57 t t = true
  | (a, b, c, d, f, ()) => by
    have e : eqV (kI 5) 57 (a, b, c, d, f, ()) (a, b, c, d, f, ()) = ((a == a) && ((b == b) && ((c == c) && ((d == d) && (f == f))))) := by kernel_rfl
    rw [e]; simp
theorem eqV62 : ∀ t : Tup (kI 7), eqV (kI 7) 62 t t = true
  | (a, b, c, d, f, g, h, ()) => by
    have e : eqV (kI 7) 62 (a, b, c, d, f, g, h, ()) (a, b, c, d, f, g, h, ()) = ((a == a) && (((b == b) && (c == c)) && (((d == d) && (f == f)) && (((g == g) && (h == h)) && true)))) := by kernel_rfl
    rw [e]; simp
theorem eqG26 (n : NodeS) : eqG 26 n.t n.t = true := by
  have e : eqG 26 n.t n.t = ((n.ta == n.ta) && ((n.tb == n.tb) && ((n.tc == n.tc) && ((n.td == n.td) && ((n.te == n.te) && (n.tf == n.tf)))))) := by kernel_rfl
  rw [e]; simp
theorem eqG31 (n : NodeS) : eqG 31 n.color n.color = true := by
  have e : eqG 31 n.color n.color = ((n.cr == n.cr) && ((n.cg == n.cg) && ((n.cb == n.cb) && (n.ca == n.ca)))) := by kernel_rfl
  rw [e]; simp
theorem eqL_refl {ty : TypeId} {bs s : Nat} (hv : ∀ t : Tup (kI s), eqV (kI s) ty t t = true) {l : List (List PC)} (h : LOK bs s l) : eqL (kI s) ty s l l = true := by
  unfold eqL
  rw [eqGo_refl hv l (fun e he => h.dec he)]
  simp
theorem eqN_refl (a : Int) : eqN a a = true := eqI_iff.2 rfl
theorem eqB_refl (a : Bool) : eqB a a = true := by unfold eqB; simp
theorem eqS_refl (a : ByteArray) : eqS a a = true := by unfold eqS; simp
theorem neI_refl (a : Int) : neI a a = false := by unfold neI; simp
theorem sameR_refl {n : NodeS} (h : NodeOK n) : sameR n n = true := by
  have i1 : sameImg n.iw n.ih n.iw n.ih n.pix n.pix = true := by
    unfold sameImg
    rw [eqGo_refl eqV31 n.pix (fun e he => h.pix.dec he)]
    simp [neI_refl]
  have i2 : sameWrp n.wc n.wr n.ws n.wc n.wr n.ws n.wd n.wd = true := by
    unfold sameWrp
    rw [eqGo_refl eqV59 n.wd (fun e he => h.wd.dec he)]
    simp [neI_refl]
  unfold sameR head11 maskB content31 tail31
  simp only [and2, eqN_refl, eqB_refl, eqS_refl, eqG26, eqG31, i1, i2, eqL_refl eqV3 h.mv, eqL_refl eqV3 h.par, eqL_refl eqV57 h.stops, eqL_refl eqV62 h.segs, cond_true]
theorem ble0 (n : Nat) : Nat.ble (0 + n) n = true := by simp

theorem g7b_val {n : NodeS} (h : NodeOK n) (e : Int) : (g7b true true (nodeE n e) (nodeE n e)).val = some (true, ()) := by
  have ok := okT2_of h h
  have sm := sameR_refl h
  obtain ⟨i0, i1, i2, i3, i4, i5, i6, i7, i8, i9, i10, i11, i12, i13, i14, i15, i16, i17, i18, i19, i20, i21, i22, i23, i24, i25, i26, i27, i28, i29, i30, i31, i32, i33, i34, i35, i36, i37, i38, i39, i40, i41, i42, i43, i44, i45, i46, i47, i48⟩ := n
  have q0 : i11 = false := h.mvn
  subst q0
  have q1 : i22 = false := h.pixn
  subst q1
  have q2 : i29 = false := h.parn
  subst q2
  have q3 : i32 = false := h.stopn
  subst q3
  have q4 : i34 = false := h.segn
  subst q4
  have q5 : i47 = false := h.wdn
  subst q5
  have he : eqI e e = true := eqI_iff.2 rfl
  unfold g7b
  simp only [nodeE, Tr.val_br, Tr.val_ret, he, ble0, if_true, List.drop_zero, List.take_length, ok, sm, cond_true]

theorem withN_ok {a b : NodeS} (ha : NodeOK a) (hb : NodeOK b) : NodeOK (withN a b) := ⟨ha.id, ha.kind, ha.parent, ha.name, ha.opacity, ha.mode, ha.mw, ha.mh, ha.mv, rfl, ha.ta, ha.tb, ha.tc, ha.td, ha.te, ha.tf, ha.kernel, hb.iw, hb.ih, hb.pix, rfl, hb.cr, hb.cg, hb.cb, hb.ca, hb.sub, hb.par, rfl, hb.spread, hb.stops, rfl, hb.segs, rfl, hb.rule, hb.width, hb.join, hb.cap, hb.text, hb.size, hb.wrap, hb.ref, hb.wc, hb.wr, hb.ws, hb.wd, rfl⟩
theorem zeroN_ok : NodeOK zeroN := ⟨by decide, by decide, by decide, by decide, by decide, by decide, by decide, by decide, lok_nil 8 1, rfl, by decide, by decide, by decide, by decide, by decide, by decide, by decide, by decide, by decide, lok_nil 32 4, rfl, by decide, by decide, by decide, by decide, by decide, lok_nil 8 1, rfl, by decide, lok_nil 40 5, rfl, lok_nil 56 7, rfl, by decide, by decide, by decide, by decide, by decide, by decide, by decide, by decide, by decide, by decide, by decide, lok_nil 16 2, rfl⟩
theorem clone_le {bs s : Nat} {l : List (List PC)} (h : LOK bs s l) : decide ((l.length * bs) ≤ 140737488355328) = true := decide_eq_true (Nat.le_trans h.bytes (by decide))
theorem g21_same {a b : NodeS} (ha : NodeOK a) (hb : NodeOK b) (hk : a.kind = b.kind) : (g21 (twoT a b)).val = some (nodeE (withN a b) 0) := by
  have e : eqI a.kind b.kind = true := eqI_iff.2 hk
  unfold g21
  simp only [twoT, Tr.val_br, Tr.val_ret, e, Bool.not_true, if_true, clone_le ha.mv, clone_le hb.pix, clone_le hb.par, clone_le hb.stops, clone_le hb.segs, clone_le hb.wd, ble0, List.drop_zero, List.take_length, nodeE, withN]
  simp
  exact ⟨clone_le ha.mv, clone_le hb.pix, clone_le hb.par, clone_le hb.stops, clone_le hb.segs, clone_le hb.wd⟩
theorem g22_same {a b : NodeS} (hk : a.kind = b.kind) : (g22 (twoT a b)).val = some (nodeE (withN a b) 0) := by
  have e : eqI a.kind b.kind = true := eqI_iff.2 hk
  unfold g22
  simp only [twoT, Tr.val_br, Tr.val_ret, e, Bool.not_true, nodeE, withN, hk]
  simp
  exact eqI_iff.2 rfl
theorem g21_diff {a b : NodeS} (hk : a.kind ≠ b.kind) : ∃ e, (g21 (twoT a b)).val = some (nodeE zeroN e) ∧ (g22 (twoT a b)).val = some (nodeE zeroN e) := by
  have e : eqI a.kind b.kind = false := by
    cases h : eqI a.kind b.kind with
    | false => rfl
    | true => exact absurd (eqI_iff.1 h) hk
  refine ⟨(8 : Int), ?_, ?_⟩
  · unfold g21
    simp only [twoT, Tr.val_br, Tr.val_ret, e, Bool.not_false, if_true, nodeE, zeroN]
  · unfold g22
    simp only [twoT, Tr.val_br, Tr.val_ret, e, Bool.not_false, if_true, nodeE, zeroN]
theorem g7_val {a b : NodeS} (ha : NodeOK a) (hb : NodeOK b) : (g7 (twoT a b)).val = some (true, ()) := by
  rw [g7_eq]
  have fin : ∀ (n : NodeS) (e : Int), NodeOK n → (g21 (twoT a b)).val = some (nodeE n e) → (g22 (twoT a b)).val = some (nodeE n e) → (g7b (g21p (twoT a b)) (g22p (twoT a b)) (g21w (twoT a b)) (g22w (twoT a b))).val = some (true, ()) := by
    intro n e hn h1 h2
    have k1 : F21.val (twoT a b) = some (nodeE n e) := h1
    have k2 : F22.val (twoT a b) = some (nodeE n e) := h2
    have p1 : g21p (twoT a b) = true := by unfold g21p; rw [k1]; rfl
    have p2 : g22p (twoT a b) = true := by unfold g22p; rw [k2]; rfl
    have w1 : g21w (twoT a b) = nodeE n e := by unfold g21w; rw [k1]; rfl
    have w2 : g22w (twoT a b) = nodeE n e := by unfold g22w; rw [k2]; rfl
    rw [p1, p2, w1, w2]
    exact g7b_val hn e
  by_cases hk : a.kind = b.kind
  · exact fin _ _ (withN_ok ha hb) (g21_same ha hb hk) (g22_same hk)
  · obtain ⟨e, h1, h2⟩ := g21_diff (a := a) (b := b) hk
    exact fin _ _ zeroN_ok h1 h2
theorem args_two {a b : NodeS} (ha : NodeOK a) (hb : NodeOK b) : F7.args (twoT a b) = [.pagg (a.cells ++ b.cells)] := by
  unfold NodeS.cells
  rw [ha.mvn, ha.pixn, ha.parn, ha.stopn, ha.segn, ha.wdn, hb.mvn, hb.pixn, hb.parn, hb.stopn, hb.segn, hb.wdn]
  kernel_rfl
theorem law7 {a b : NodeS} (ha : NodeOK a) (hb : NodeOK b) : Law EC 7 [.pagg (a.cells ++ b.cells)] [.v (.bool true)] := by
  have := F7_ok (twoT a b) (true, ()) ((F7_val _).trans (g7_val ha hb))
  rw [args_two ha hb] at this
  exact this
end Go.Ev
