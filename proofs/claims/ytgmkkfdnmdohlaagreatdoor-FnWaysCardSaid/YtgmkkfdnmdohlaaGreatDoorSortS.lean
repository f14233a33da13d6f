
import Derived.Test.YtgmkkfdnmdohlaaGreatDoorSort
set_option linter.unusedSimpArgs false
set_option linter.unusedVariables false
set_option maxHeartbeats 4000000
namespace Go.Proofs.YtgmkkfdnmdohlaaGreatDoor
open Go.ChangeShapes Go.WideShapes Go.ChangeAt Go.RowKit
set_option maxRecDepth 20000
def befB (x y:Int) (d:Bool) (x' y':Int) (d':Bool):Bool:=decide (sV x y d<sV x' y' d')
theorem Bt (x y x' y':Int) (d d':Bool):befB x y d x' y' d'=(decide (y*8+x<y'*8+x')||(decide (y*8+x=y'*8+x')&& !d&&d')):=by
 unfold befB sV
 rw[Bool.eq_iff_iff]
 cases d<;>cases d'<;>simp<;>omega
set_option maxHeartbeats 2000000 in
theorem jU (x y:Int) (d:Bool) (x' y':Int) (d':Bool) (h:okd x y d=true) (h':okd x' y' d'=true) (w:World):
  Calls Tryz.prog 103 #[.agg #[.int .i64 x,.int .i64 y,.bool d],.agg #[.int .i64 x',.int .i64 y',.bool d']] w fun e w'=>e= .returned (.bool (befB x y d x' y' d'))∧Below w.heap.size w w':=by
 have HB:=Lib.hid (Bt x y x' y' d d')
 have h1:=km.1 h
 have h2:=km.1 h'
 have b1:0≤x∧x≤7∧0≤y∧y≤7:=by split at h1<;>omega
 have b2:0≤x'∧x'≤7∧0≤y'∧y'≤7:=by split at h2<;>omega
 clear h1 h2
 obtain⟨b11,b12,b13,b14⟩:=b1
 obtain⟨b21,b22,b23,b24⟩:=b2
 cases d<;>cases d'
 all_goals
  go_enter Tryz.func103,Tryz.ntmps103
  go_wp2_with (go_at_call 86;refine(hZ _ _ _ _).mono ?_;rintro e w1 ⟨rfl,hb1⟩;have p0:w1.cell? ⟨w.heap.size,0,none⟩=some (.int .i64 x):=(by((repeat(first |with_reducible assumption |with_reducible refine aH ?_ (by with_reducible assumption) |with_reducible refine aD ?_ |with_reducible refine az ?_ _ |(refine ai rfl ?_;with_reducible rfl) |(refine ai rfl ?_;simp;done) |with_reducible refine aw ?_ _))));have p1:w1.cell? ⟨w.heap.size,1,none⟩=some (.int .i64 y):=(by((repeat(first |with_reducible assumption |with_reducible refine aH ?_ (by with_reducible assumption) |with_reducible refine aD ?_ |with_reducible refine az ?_ _ |(refine ai rfl ?_;with_reducible rfl) |(refine ai rfl ?_;simp;done) |with_reducible refine aw ?_ _))));have p2:w1.cell? ⟨w.heap.size,2,none⟩=some (.bool _):=(by((repeat(first |with_reducible assumption |with_reducible refine aH ?_ (by with_reducible assumption) |with_reducible refine aD ?_ |with_reducible refine az ?_ _ |(refine ai rfl ?_;with_reducible rfl) |(refine ai rfl ?_;simp;done) |with_reducible refine aw ?_ _))));have q0:w1.cell? ⟨w.heap.size+1,0,none⟩=some (.int .i64 x'):=(by((repeat(first |with_reducible assumption |with_reducible refine aH ?_ (by with_reducible assumption) |with_reducible refine aD ?_ |with_reducible refine az ?_ _ |(refine ai rfl ?_;with_reducible rfl) |(refine ai rfl ?_;simp;done) |with_reducible refine aw ?_ _))));have q1:w1.cell? ⟨w.heap.size+1,1,none⟩=some (.int .i64 y'):=(by((repeat(first |with_reducible assumption |with_reducible refine aH ?_ (by with_reducible assumption) |with_reducible refine aD ?_ |with_reducible refine az ?_ _ |(refine ai rfl ?_;with_reducible rfl) |(refine ai rfl ?_;simp;done) |with_reducible refine aw ?_ _))));have q2:w1.cell? ⟨w.heap.size+1,2,none⟩=some (.bool _):=(by((repeat(first |with_reducible assumption |with_reducible refine aH ?_ (by with_reducible assumption) |with_reducible refine aD ?_ |with_reducible refine az ?_ _ |(refine ai rfl ?_;with_reducible rfl) |(refine ai rfl ?_;simp;done) |with_reducible refine aw ?_ _)))))
  all_goals (go_ret;refine⟨fb ?_,by((repeat(first |exact Below.refl _ _ |with_reducible assumption |refine Below.alloc0 ?_ _ |refine Below.step0 ?_ (by with_reducible assumption) |refine Below.step ?_ (by with_reducible assumption) ?_ |refine Below.alloc ?_ ?_ _ |refine Below.drew ?_ |refine bb ?_ _ |refine Below.setCell ?_ ?_ _))<;>(first |omega |exact hsz |exact Below.size (by with_reducible assumption) |(simp;done) |(simp;omega) |(simp at*;omega)))⟩)
  all_goals (rw[HB.out];simp_all)
theorem pB {w0 w w':World} {B e s n:Nat} {v:Value} {xs:List Value} {row:Option Nat} (h0:w0.ownsRow B e s v n xs) (h:w.ownsRow B e s v n xs) (hg:w.grownBy w' row) (hr:∀ k,row=some k→w0.heap.size≤k):w'.ownsRow B e s v n xs:=by
 refine h.kept hg ?_
 rcases hv:v.ownBlock with _ |k
 ·exact .inl rfl
 ·right;intro e
  have a:=(h0.lt k hv).2
  have b:=hr k e.symm
  omega
theorem pF (l:List Dom) (A:Option Addr) (n c:Nat) (w:World) (hrd:Rd w 3 A n (dsl l)) (hl:n≤4194304):
  Calls Tryz.prog 80 #[.slice A n c] w fun e w'=>∃ v,e= .returned v∧w'.ownsRow w.heap.size 62 3 v (cG l).length (dsl (cG l))∧Below w.heap.size w w':=by
 obtain rfl:=hrd.len3
 obtain⟨i0,hi0,hz0,hz1,hz2⟩:=info_parts xF
 have hown0:(w.alloc (.cells #[] 62)).ownsRow w.heap.size 62 3 (.slice (some ⟨w.heap.size,0,none⟩) 0 0) 0 []:=rQ w 62 3 0 #[] rfl (Nat.zero_le _)
 have HO:=Lib.hid hown0
 clear hown0
 go_enter Tryz.func80,Tryz.ntmps80
 go_wp2
 go_loopw [3,4,5,6] (fun v i _ _ wr=>∃ (k:Nat),k≤l.length∧i= .int .i64 k∧wr.ownsRow w.heap.size 62 3 v (cG (l.take k)).length (dsl (cG (l.take k)))∧Below w.heap.size w wr) (fun _ i _ _ _=>l.length-(intOf i).toNat)
 case atStart=>exact⟨0,by omega,rfl,by simpa [cG,fO,dsl] using HO.out,by((repeat(first |exact Below.refl _ _ |with_reducible assumption |refine Below.alloc0 ?_ _ |refine Below.step0 ?_ (by with_reducible assumption) |refine Below.step ?_ (by with_reducible assumption) ?_ |refine Below.alloc ?_ ?_ _ |refine Below.drew ?_ |refine bb ?_ _ |refine Below.setCell ?_ ?_ _))<;>(first |omega |exact hsz |exact Below.size (by with_reducible assumption) |(simp;done) |(simp;omega) |(simp at*;omega)))⟩
 case round=>
  obtain⟨k,hk,rfl,hown,hbw⟩:=hrel
  clear HO
  have hsz:=hbw.size
  have hln:(cG (l.take k)).length≤k:=Nat.le_trans (ol _) (by simp;omega)
  by_cases hlt:k<l.length
  ·obtain⟨g,off,rfl,hg,c0,c1,c2⟩:=(hrd.below hbw (Nat.le_refl _)).doms hlt
   have k0:(0:Int)≤(k:Int):=by omega
   have k1:(k:Int)<(l.length:Int):=by omega
   by_cases hok:l[k].ok=true
   ·have hok2:okd l[k].x l[k].y l[k].d=true:=hok
    have HY:=Lib.hid (show cG (l.take (k+1))=ig (cG (l.take k)) l[k] from tK hlt hok)
    obtain⟨hss,hval⟩:=qE oZ (l.take k)
    have HSS:=Lib.hid (show SS (cG (l.take k)) from hss)
    have HVAL:=Lib.hid (show ∀ e∈cG (l.take k),e.valid from hval)
    have HOKS:=Lib.hid (show ∀ e∈cG (l.take k),e.ok=true from vD (l.take k))
    clear hss hval hok
    generalize cG (l.take k)=out at HY HSS HVAL HOKS hown hln
    generalize l[k]=d at HY hok2 c0 c1 c2
    obtain⟨A3,c3,hv3,hr3,hc3,hc3'⟩:=me hown
    subst hv3
    go_wp2_with (go_at_call 86;refine(hZ _ _ _ _).mono ?_;rintro e w1 ⟨rfl,hb1⟩)
    obtain⟨wo,rfl⟩:∃ wo:World,wo=wr:=⟨_,rfl⟩
    go_loopw [5] (fun j wi=>∃ m:Nat,m≤out.length∧j= .int .i64 m∧(∀ e∈out.take m,e.ord<d.ord)∧Below wo.heap.size wo wi) (fun j _=>out.length-(intOf j).toNat)
    case atStart=>exact⟨0,Nat.zero_le _,rfl,by simp,by((repeat(first |exact Below.refl _ _ |with_reducible assumption |refine Below.alloc0 ?_ _ |refine Below.step0 ?_ (by with_reducible assumption) |refine Below.step ?_ (by with_reducible assumption) ?_ |refine Below.alloc ?_ ?_ _ |refine Below.drew ?_ |refine bb ?_ _ |refine Below.setCell ?_ ?_ _))<;>(first |omega |exact hsz |exact Below.size (by with_reducible assumption) |(simp;done) |(simp;omega) |(simp at*;omega)))⟩
    case round=>
     obtain⟨m,hm,rfl,hlts,hbi⟩:=hrel
     have hown1:wr.ownsRow w.heap.size 62 3 (.slice A3 out.length c3) out.length (dsl out):=by((repeat(first |with_reducible assumption |with_reducible refine cr ?_ _ |with_reducible refine dB ?_ (by with_reducible assumption) |with_reducible refine cF ?_ |with_reducible refine cP ?_ _)))
     have q0:wr.cell? ⟨g,off+k*3,none⟩=some (.int .i64 d.x):=(by((repeat(first |with_reducible assumption |with_reducible refine aH ?_ (by with_reducible assumption) |with_reducible refine aD ?_ |with_reducible refine az ?_ _ |(refine ai rfl ?_;with_reducible rfl) |(refine ai rfl ?_;simp;done) |with_reducible refine aw ?_ _))));have q1:wr.cell? ⟨g,off+k*3+1,none⟩=some (.int .i64 d.y):=(by((repeat(first |with_reducible assumption |with_reducible refine aH ?_ (by with_reducible assumption) |with_reducible refine aD ?_ |with_reducible refine az ?_ _ |(refine ai rfl ?_;with_reducible rfl) |(refine ai rfl ?_;simp;done) |with_reducible refine aw ?_ _))));have q2:wr.cell? ⟨g,off+k*3+2,none⟩=some (.bool d.d):=(by((repeat(first |with_reducible assumption |with_reducible refine aH ?_ (by with_reducible assumption) |with_reducible refine aD ?_ |with_reducible refine az ?_ _ |(refine ai rfl ?_;with_reducible rfl) |(refine ai rfl ?_;simp;done) |with_reducible refine aw ?_ _))))
     have hbw1:Below w.heap.size w wr:=by((repeat(first |exact Below.refl _ _ |with_reducible assumption |refine Below.alloc0 ?_ _ |refine Below.step0 ?_ (by with_reducible assumption) |refine Below.step ?_ (by with_reducible assumption) ?_ |refine Below.alloc ?_ ?_ _ |refine Below.drew ?_ |refine bb ?_ _ |refine Below.setCell ?_ ?_ _))<;>(first |omega |exact hsz |exact Below.size (by with_reducible assumption) |(simp;done) |(simp;omega) |(simp at*;omega)))
     have HLTS:=Lib.hid hlts
     clear hlts
     have hln2:out.length≤4194304:=by omega
     have z0:(0:Int)≤(m:Int):=by omega
     by_cases hmo:m<out.length
     ·obtain⟨g3,off3,hA3,hg3,d0,d1,d2⟩:=(nV hown1).doms hmo
      subst hA3
      have hok3:okd out[m].x out[m].y out[m].d=true:=HOKS.out _ (List.getElem_mem hmo)
      have HO1:=Lib.hid (rO out[m])
      have HO2:=Lib.hid (rO d)
      have z1:(m:Int)<(out.length:Int):=by omega
      have ht:decide ((m:Int)<(out.length:Int))=true:=by simp;omega
      have ht':decide (m<out.length)=true:=by simp;omega
      by_cases hcmp:out[m].ord<d.ord
      ·have HL2:=Lib.hid (Bc HSS.out hmo hcmp)
       have hc1:befB out[m].x out[m].y out[m].d d.x d.y d.d=true:=by unfold befB;rw[HO1.out,HO2.out];simpa using hcmp
       go_wp2
       go_region_held3 (fun w'=>w'.cell? ⟨g,off+k*3,none⟩=some (.int .i64 d.x)∧w'.cell? ⟨g,off+k*3+1,none⟩=some (.int .i64 d.y)∧w'.cell? ⟨g,off+k*3+2,none⟩=some (.bool d.d)∧w'.cell? ⟨g3,off3+m*3,none⟩=some (.int .i64 out[m].x)∧w'.cell? ⟨g3,off3+m*3+1,none⟩=some (.int .i64 out[m].y)∧w'.cell? ⟨g3,off3+m*3+2,none⟩=some (.bool out[m].d)) (go_keep) ((go_at_call 103;with_reducible refine(jU _ _ _ _ _ _ hok3 hok2 _).mono ?_;rintro e w2 ⟨rfl,hb2⟩;have x0:w2.cell? ⟨g,off+k*3,none⟩=some (.int .i64 d.x):=(by((repeat(first |with_reducible assumption |with_reducible refine aH ?_ (by with_reducible assumption) |with_reducible refine aD ?_ |with_reducible refine az ?_ _ |(refine ai rfl ?_;with_reducible rfl) |(refine ai rfl ?_;simp;done) |with_reducible refine aw ?_ _))));have x1:w2.cell? ⟨g,off+k*3+1,none⟩=some (.int .i64 d.y):=(by((repeat(first |with_reducible assumption |with_reducible refine aH ?_ (by with_reducible assumption) |with_reducible refine aD ?_ |with_reducible refine az ?_ _ |(refine ai rfl ?_;with_reducible rfl) |(refine ai rfl ?_;simp;done) |with_reducible refine aw ?_ _))));have x2:w2.cell? ⟨g,off+k*3+2,none⟩=some (.bool d.d):=(by((repeat(first |with_reducible assumption |with_reducible refine aH ?_ (by with_reducible assumption) |with_reducible refine aD ?_ |with_reducible refine az ?_ _ |(refine ai rfl ?_;with_reducible rfl) |(refine ai rfl ?_;simp;done) |with_reducible refine aw ?_ _))));have y0:w2.cell? ⟨g3,off3+m*3,none⟩=some (.int .i64 out[m].x):=(by((repeat(first |with_reducible assumption |with_reducible refine aH ?_ (by with_reducible assumption) |with_reducible refine aD ?_ |with_reducible refine az ?_ _ |(refine ai rfl ?_;with_reducible rfl) |(refine ai rfl ?_;simp;done) |with_reducible refine aw ?_ _))));have y1:w2.cell? ⟨g3,off3+m*3+1,none⟩=some (.int .i64 out[m].y):=(by((repeat(first |with_reducible assumption |with_reducible refine aH ?_ (by with_reducible assumption) |with_reducible refine aD ?_ |with_reducible refine az ?_ _ |(refine ai rfl ?_;with_reducible rfl) |(refine ai rfl ?_;simp;done) |with_reducible refine aw ?_ _))));have y2:w2.cell? ⟨g3,off3+m*3+2,none⟩=some (.bool out[m].d):=(by((repeat(first |with_reducible assumption |with_reducible refine aH ?_ (by with_reducible assumption) |with_reducible refine aD ?_ |with_reducible refine az ?_ _ |(refine ai rfl ?_;with_reducible rfl) |(refine ai rfl ?_;simp;done) |with_reducible refine aw ?_ _))))))
       all_goals
        go_wp2
        go_roundw
        case rel=>exact⟨m+1,by omega,by go_num,HL2.out,by((repeat(first |exact Below.refl _ _ |with_reducible assumption |refine Below.alloc0 ?_ _ |refine Below.step0 ?_ (by with_reducible assumption) |refine Below.step ?_ (by with_reducible assumption) ?_ |refine Below.alloc ?_ ?_ _ |refine Below.drew ?_ |refine bb ?_ _ |refine Below.setCell ?_ ?_ _))<;>(first |omega |exact hsz |exact Below.size (by with_reducible assumption) |(simp;done) |(simp;omega) |(simp at*;omega)))⟩
        case measure=>simp [intOf];omega
      ·have hc1:befB out[m].x out[m].y out[m].d d.x d.y d.d=false:=by unfold befB;rw[HO1.out,HO2.out];simpa using hcmp
       have hrun:=ga out[m].x out[m].y out[m].d d.x d.y d.d
       by_cases heq:out[m]=d
       ·have HSAME:=Lib.hid (uH (k:=m) (d:=d) HLTS.out hmo heq (by rw[←heq];exact xn HSS.out hmo))
        have hdq:dEq out[m].x out[m].y out[m].d d.x d.y d.d=true:=by rw[em];simpa using heq
        clear heq hcmp
        go_wp2
        go_region_held3 (fun w'=>w'.cell? ⟨g,off+k*3,none⟩=some (.int .i64 d.x)∧w'.cell? ⟨g,off+k*3+1,none⟩=some (.int .i64 d.y)∧w'.cell? ⟨g,off+k*3+2,none⟩=some (.bool d.d)∧w'.cell? ⟨g3,off3+m*3,none⟩=some (.int .i64 out[m].x)∧w'.cell? ⟨g3,off3+m*3+1,none⟩=some (.int .i64 out[m].y)∧w'.cell? ⟨g3,off3+m*3+2,none⟩=some (.bool out[m].d)) (go_keep) ((go_at_call 103;with_reducible refine(jU _ _ _ _ _ _ hok3 hok2 _).mono ?_;rintro e w2 ⟨rfl,hb2⟩;have x0:w2.cell? ⟨g,off+k*3,none⟩=some (.int .i64 d.x):=(by((repeat(first |with_reducible assumption |with_reducible refine aH ?_ (by with_reducible assumption) |with_reducible refine aD ?_ |with_reducible refine az ?_ _ |(refine ai rfl ?_;with_reducible rfl) |(refine ai rfl ?_;simp;done) |with_reducible refine aw ?_ _))));have x1:w2.cell? ⟨g,off+k*3+1,none⟩=some (.int .i64 d.y):=(by((repeat(first |with_reducible assumption |with_reducible refine aH ?_ (by with_reducible assumption) |with_reducible refine aD ?_ |with_reducible refine az ?_ _ |(refine ai rfl ?_;with_reducible rfl) |(refine ai rfl ?_;simp;done) |with_reducible refine aw ?_ _))));have x2:w2.cell? ⟨g,off+k*3+2,none⟩=some (.bool d.d):=(by((repeat(first |with_reducible assumption |with_reducible refine aH ?_ (by with_reducible assumption) |with_reducible refine aD ?_ |with_reducible refine az ?_ _ |(refine ai rfl ?_;with_reducible rfl) |(refine ai rfl ?_;simp;done) |with_reducible refine aw ?_ _))));have y0:w2.cell? ⟨g3,off3+m*3,none⟩=some (.int .i64 out[m].x):=(by((repeat(first |with_reducible assumption |with_reducible refine aH ?_ (by with_reducible assumption) |with_reducible refine aD ?_ |with_reducible refine az ?_ _ |(refine ai rfl ?_;with_reducible rfl) |(refine ai rfl ?_;simp;done) |with_reducible refine aw ?_ _))));have y1:w2.cell? ⟨g3,off3+m*3+1,none⟩=some (.int .i64 out[m].y):=(by((repeat(first |with_reducible assumption |with_reducible refine aH ?_ (by with_reducible assumption) |with_reducible refine aD ?_ |with_reducible refine az ?_ _ |(refine ai rfl ?_;with_reducible rfl) |(refine ai rfl ?_;simp;done) |with_reducible refine aw ?_ _))));have y2:w2.cell? ⟨g3,off3+m*3+2,none⟩=some (.bool out[m].d):=(by((repeat(first |with_reducible assumption |with_reducible refine aH ?_ (by with_reducible assumption) |with_reducible refine aD ?_ |with_reducible refine az ?_ _ |(refine ai rfl ?_;with_reducible rfl) |(refine ai rfl ?_;simp;done) |with_reducible refine aw ?_ _))))))
        all_goals
         go_wp2
         go_quiet (fail)
         go_wp2
         go_roundw
         case rel=>
          refine⟨k+1,by omega,by go_num,?_,by((repeat(first |exact Below.refl _ _ |with_reducible assumption |refine Below.alloc0 ?_ _ |refine Below.step0 ?_ (by with_reducible assumption) |refine Below.step ?_ (by with_reducible assumption) ?_ |refine Below.alloc ?_ ?_ _ |refine Below.drew ?_ |refine bb ?_ _ |refine Below.setCell ?_ ?_ _))<;>(first |omega |exact hsz |exact Below.size (by with_reducible assumption) |(simp;done) |(simp;omega) |(simp at*;omega)))⟩
          rw[HY.out,HSAME.out]
          ((repeat(first |with_reducible assumption |with_reducible refine cr ?_ _ |with_reducible refine dB ?_ (by with_reducible assumption) |with_reducible refine cF ?_ |with_reducible refine cP ?_ _)))
         case measure=>simp [intOf];omega
       ·have hlt3:d.ord<out[m].ord:=by
         have:=rP (HVAL.out _ (List.getElem_mem hmo)) (oZ _ hok2)
         rcases Int.lt_or_le d.ord out[m].ord with h |h
         ·exact h
         ·exact absurd (this (by omega)) heq
        have HINS:=Lib.hid (rL (k:=m) HLTS.out (Ae HSS.out hmo hlt3))
        have hdq:dEq out[m].x out[m].y out[m].d d.x d.y d.d=false:=by rw[em];simpa using heq
        clear heq hcmp hlt3
        go_wp2
        go_region_held3 (fun w'=>w'.cell? ⟨g,off+k*3,none⟩=some (.int .i64 d.x)∧w'.cell? ⟨g,off+k*3+1,none⟩=some (.int .i64 d.y)∧w'.cell? ⟨g,off+k*3+2,none⟩=some (.bool d.d)∧w'.cell? ⟨g3,off3+m*3,none⟩=some (.int .i64 out[m].x)∧w'.cell? ⟨g3,off3+m*3+1,none⟩=some (.int .i64 out[m].y)∧w'.cell? ⟨g3,off3+m*3+2,none⟩=some (.bool out[m].d)) (go_keep) ((go_at_call 103;with_reducible refine(jU _ _ _ _ _ _ hok3 hok2 _).mono ?_;rintro e w2 ⟨rfl,hb2⟩;have x0:w2.cell? ⟨g,off+k*3,none⟩=some (.int .i64 d.x):=(by((repeat(first |with_reducible assumption |with_reducible refine aH ?_ (by with_reducible assumption) |with_reducible refine aD ?_ |with_reducible refine az ?_ _ |(refine ai rfl ?_;with_reducible rfl) |(refine ai rfl ?_;simp;done) |with_reducible refine aw ?_ _))));have x1:w2.cell? ⟨g,off+k*3+1,none⟩=some (.int .i64 d.y):=(by((repeat(first |with_reducible assumption |with_reducible refine aH ?_ (by with_reducible assumption) |with_reducible refine aD ?_ |with_reducible refine az ?_ _ |(refine ai rfl ?_;with_reducible rfl) |(refine ai rfl ?_;simp;done) |with_reducible refine aw ?_ _))));have x2:w2.cell? ⟨g,off+k*3+2,none⟩=some (.bool d.d):=(by((repeat(first |with_reducible assumption |with_reducible refine aH ?_ (by with_reducible assumption) |with_reducible refine aD ?_ |with_reducible refine az ?_ _ |(refine ai rfl ?_;with_reducible rfl) |(refine ai rfl ?_;simp;done) |with_reducible refine aw ?_ _))));have y0:w2.cell? ⟨g3,off3+m*3,none⟩=some (.int .i64 out[m].x):=(by((repeat(first |with_reducible assumption |with_reducible refine aH ?_ (by with_reducible assumption) |with_reducible refine aD ?_ |with_reducible refine az ?_ _ |(refine ai rfl ?_;with_reducible rfl) |(refine ai rfl ?_;simp;done) |with_reducible refine aw ?_ _))));have y1:w2.cell? ⟨g3,off3+m*3+1,none⟩=some (.int .i64 out[m].y):=(by((repeat(first |with_reducible assumption |with_reducible refine aH ?_ (by with_reducible assumption) |with_reducible refine aD ?_ |with_reducible refine az ?_ _ |(refine ai rfl ?_;with_reducible rfl) |(refine ai rfl ?_;simp;done) |with_reducible refine aw ?_ _))));have y2:w2.cell? ⟨g3,off3+m*3+2,none⟩=some (.bool out[m].d):=(by((repeat(first |with_reducible assumption |with_reducible refine aH ?_ (by with_reducible assumption) |with_reducible refine aD ?_ |with_reducible refine az ?_ _ |(refine ai rfl ?_;with_reducible rfl) |(refine ai rfl ?_;simp;done) |with_reducible refine aw ?_ _))))))
        all_goals go_wp2
        all_goals go_quiet (fail)
        all_goals
         have hct:=Dw Tryz.prog 31 62 3 Tryz.underlying31 (by rw[hi0];simp [hz1]) (some ⟨g3,off3,none⟩) out.length c3 m (m:Int) rfl (by omega)
         obtain⟨D2,L2,C2,hD2,hcut2⟩:=kb Tryz.prog 31 62 3 Tryz.underlying31 (by rw[hi0];simp [hz1]) (some ⟨g3,off3,none⟩) out.length c3 m (m:Int) rfl (by omega)
         have HD2:=Lib.hid hD2
         have hL2:L2≤4194304:=by rw[hD2.2.1];omega
         have HOW:=Lib.hid (show w2.ownsRow w.heap.size 62 3 (.slice (some ⟨g3,off3,none⟩) out.length c3) out.length (dsl out) by((repeat(first |with_reducible assumption |with_reducible refine cr ?_ _ |with_reducible refine dB ?_ (by with_reducible assumption) |with_reducible refine cF ?_ |with_reducible refine cP ?_ _))))
         have hm2:m≤4194304:=by omega
         have hgW:g<w2.heap.size:=ka x0
         clear hD2
         have hsw:w.heap.size≤w2.heap.size:=by((repeat(first |exact Nat.le_refl _ |with_reducible assumption |with_reducible refine Nat.le_trans ?_ (Below.size (by with_reducible assumption)) |with_reducible refine Nat.le_trans ?_ (ck (by with_reducible assumption)) |with_reducible refine co ?_ _ |with_reducible refine cp ?_ _ |with_reducible refine cB ?_)))
         go_wp2_with (first
          | (with_reducible refine up (o:=⟨some 56,_,_,_,_,_⟩) ?_;go_must (refine dJ rfl (.tmp 52) (.tmp 55) 31 rfl w2.heap.size 62 i0 (.agg #[.int .i64 0,.int .i64 0,.bool false]) 3 24 Tryz.underlying31 hi0 hz0 hz1 hz2 rfl (by omega) (.slice (some ⟨w2.heap.size,0,none⟩) 0 0) 0 [] rfl (some ⟨g3,off3,none⟩) m c3 rfl ?_ (dsl (out.take m)) ?_ (jG _) ?_ ?_ ?_ ?_);go_must (first |exact nG _ _ _ _ |exact sX _ _ _);go_must (refine rb (nV (base:=w.heap.size) (e:=62) (c:=c3) ?_) hm);go_must (((repeat(first |with_reducible assumption |with_reducible refine cr ?_ _ |with_reducible refine dB ?_ (by with_reducible assumption) |with_reducible refine cF ?_ |with_reducible refine cP ?_ _))));go_must (unfold maxLen;omega);go_must (omega);go_must (((repeat(first |exact Nat.le_refl _ |with_reducible assumption |with_reducible refine Nat.le_trans ?_ (Below.size (by with_reducible assumption)) |with_reducible refine Nat.le_trans ?_ (ck (by with_reducible assumption)) |with_reducible refine co ?_ _ |with_reducible refine cp ?_ _ |with_reducible refine cB ?_))));go_must (intro v4 w4 hown4 hgr4 hat4;have hk4:=pB HOW.out (w':=w4) (by((repeat(first |with_reducible assumption |with_reducible refine cr ?_ _ |with_reducible refine dB ?_ (by with_reducible assumption) |with_reducible refine cF ?_ |with_reducible refine cP ?_ _)))) hgr4 (fun j hj=>by have:=pS hj;omega);obtain⟨A4,c4,hv4⟩:=ko hown4;subst hv4;have hne4:(Value.slice (some ⟨w2.heap.size,0,none⟩) 0 0).ownBlock≠some g:=(fun e=>by have:=pS e;omega);have q40:w4.cell? ⟨g,off+k*3,none⟩=some (.int .i64 d.x):=cj (by((repeat(first |with_reducible assumption |with_reducible refine aH ?_ (by with_reducible assumption) |with_reducible refine aD ?_ |with_reducible refine az ?_ _ |(refine ai rfl ?_;with_reducible rfl) |(refine ai rfl ?_;simp;done) |with_reducible refine aw ?_ _)))) hgr4 hne4;have q41:w4.cell? ⟨g,off+k*3+1,none⟩=some (.int .i64 d.y):=cj (by((repeat(first |with_reducible assumption |with_reducible refine aH ?_ (by with_reducible assumption) |with_reducible refine aD ?_ |with_reducible refine az ?_ _ |(refine ai rfl ?_;with_reducible rfl) |(refine ai rfl ?_;simp;done) |with_reducible refine aw ?_ _)))) hgr4 hne4;have q42:w4.cell? ⟨g,off+k*3+2,none⟩=some (.bool d.d):=cj (by((repeat(first |with_reducible assumption |with_reducible refine aH ?_ (by with_reducible assumption) |with_reducible refine aD ?_ |with_reducible refine az ?_ _ |(refine ai rfl ?_;with_reducible rfl) |(refine ai rfl ?_;simp;done) |with_reducible refine aw ?_ _)))) hgr4 hne4;have hs4:w2.heap.size≤w4.heap.size:=(Nat.le_trans (by((repeat(first |exact Nat.le_refl _ |with_reducible assumption |with_reducible refine Nat.le_trans ?_ (Below.size (by with_reducible assumption)) |with_reducible refine Nat.le_trans ?_ (ck (by with_reducible assumption)) |with_reducible refine co ?_ _ |with_reducible refine cp ?_ _ |with_reducible refine cB ?_)))) hgr4.size);have hb4:=Lib.hid (dc (B:=w.heap.size) (a:=w) (by((repeat(first |exact Below.refl _ _ |with_reducible assumption |refine Below.alloc0 ?_ _ |refine Below.step0 ?_ (by with_reducible assumption) |refine Below.step ?_ (by with_reducible assumption) ?_ |refine Below.alloc ?_ ?_ _ |refine Below.drew ?_ |refine bb ?_ _ |refine Below.setCell ?_ ?_ _))<;>(first |omega |exact hsz |exact Below.size (by with_reducible assumption) |(simp;done) |(simp;omega) |(simp at*;omega)))) hgr4 (fun j hj=>by have:=pS hj;omega) (by((repeat(first |exact Nat.le_refl _ |with_reducible assumption |with_reducible refine Nat.le_trans ?_ (Below.size (by with_reducible assumption)) |with_reducible refine Nat.le_trans ?_ (ck (by with_reducible assumption)) |with_reducible refine co ?_ _ |with_reducible refine cp ?_ _ |with_reducible refine cB ?_)))));have HK4:=Lib.hid hk4;have HO4:=Lib.hid (show w4.ownsRow w2.heap.size 62 3 (.slice A4 m c4) m (dsl (out.take m)) by simpa using hown4);clear hk4 hown4 hgr4 hat4 hne4))
          | (with_reducible refine up (o:=⟨some 63,_,_,_,_,_⟩) ?_;go_must (refine dJ rfl (.tmp 57) (.tmp 62) 31 rfl w2.heap.size 62 i0 (.agg #[.int .i64 0,.int .i64 0,.bool false]) 3 24 Tryz.underlying31 hi0 hz0 hz1 hz2 rfl (by omega) (.slice A4 m c4) m (dsl (out.take m)) rfl (some ⟨w4.heap.size,0,none⟩) 1 1 rfl ?_ (dsl [d]) (tx d _) (jG _) ?_ ?_ ?_ ?_);go_must (exact cr HO4.out _);go_must (unfold maxLen;omega);go_must (omega);go_must (((repeat(first |exact Nat.le_refl _ |with_reducible assumption |with_reducible refine Nat.le_trans ?_ (Below.size (by with_reducible assumption)) |with_reducible refine Nat.le_trans ?_ (ck (by with_reducible assumption)) |with_reducible refine co ?_ _ |with_reducible refine cp ?_ _ |with_reducible refine cB ?_))));go_must (intro v5 w5 hown5 hgr5 hat5;have hr5:∀ j,(Value.slice A4 m c4).ownBlock=some j→w2.heap.size≤j:=(fun j hj=>(HO4.out.lt j hj).1);have hk5:=pB HOW.out (w':=w5) (cr HK4.out _) hgr5 hr5;obtain⟨A5,c5,hv5⟩:=ko hown5;subst hv5;have hs5:=hgr5.size;have hb5:=Lib.hid (dc (B:=w.heap.size) (a:=w) (hb4.out.alloc (Nat.le_trans hsw hs4) _) hgr5 (fun j hj=>Nat.le_trans hsw (hr5 j hj)) (Nat.le_trans hsw (Nat.le_trans hs4 (by simp))));have HK5:=Lib.hid hk5;have HO5:=Lib.hid hown5;clear hk5 hown5 hgr5 hat5 hr5))
          | (with_reducible refine up (o:=⟨some 68,_,_,_,_,_⟩) ?_;go_must (refine dJ rfl (.tmp 64) (.tmp 67) 31 rfl w2.heap.size 62 i0 (.agg #[.int .i64 0,.int .i64 0,.bool false]) 3 24 Tryz.underlying31 hi0 hz0 hz1 hz2 rfl (by omega) (.slice A5 (m+1) c5) (m+1) (dsl (out.take m)++dsl [d]) rfl D2 L2 C2 rfl ?_ (dsl (out.drop m)) ?_ (jG _) ?_ ?_ ?_ ?_);go_must (exact HO5.out);go_must (exact ra (nV HK5.out) hc3 hm HD2.out.1 HD2.out.2.1);go_must (unfold maxLen;omega);go_must (omega);go_must (exact Nat.le_trans hs4 (Nat.le_trans (by simp) hs5));go_must (intro v6 w6 hown6 hgr6 hat6;have hb6:=Lib.hid (dc (B:=w.heap.size) (a:=w) hb5.out hgr6 (fun j hj=>Nat.le_trans hsw (HO5.out.lt j hj).1) (Nat.le_trans hsw (Nat.le_trans hs4 (Nat.le_trans (by simp) hs5))));have HO6:=Lib.hid hown6;clear hown6 hgr6 hat6)))
         go_roundw
         case rel=>
          refine⟨k+1,by omega,by go_num,?_,hb6.out⟩
          rw[HY.out,HINS.out]
          refine mS (pa (xS HO6.out hsw) ?_) ?_
          ·have:=HD2.out.2.1;simp;omega
          ·rw[dv,show d::out.drop m=[d]++out.drop m from rfl,dv];simp
         case measure=>simp [intOf];omega
     ·have hmo':m=out.length:=by omega
      have HINS:=Lib.hid (rL (k:=m) HLTS.out (by rw[List.drop_eq_nil_of_le (by omega)];simp))
      have ht:decide ((m:Int)<(out.length:Int))=false:=by simp;omega
      have ht':decide (m<out.length)=false:=by simp;omega
      have HMO:=Lib.hid hmo'
      clear hmo'
      go_wp2
      go_quiet (fail)
      go_wp2
      go_quiet (fail)
      all_goals
       have hct:=Dw Tryz.prog 31 62 3 Tryz.underlying31 (by rw[hi0];simp [hz1]) A3 out.length c3 m (m:Int) rfl (by omega)
       obtain⟨D2,L2,C2,hD2,hcut2⟩:=kb Tryz.prog 31 62 3 Tryz.underlying31 (by rw[hi0];simp [hz1]) A3 out.length c3 m (m:Int) rfl (by omega)
       have HD2:=Lib.hid hD2
       have hL2:L2≤4194304:=by rw[hD2.2.1];omega
       have HOW:=Lib.hid (show wr.ownsRow w.heap.size 62 3 (.slice A3 out.length c3) out.length (dsl out) by((repeat(first |with_reducible assumption |with_reducible refine cr ?_ _ |with_reducible refine dB ?_ (by with_reducible assumption) |with_reducible refine cF ?_ |with_reducible refine cP ?_ _))))
       have hm2:m≤4194304:=by omega
       have hgW:g<wr.heap.size:=ka q0
       clear hD2
       have hsw:w.heap.size≤wr.heap.size:=by((repeat(first |exact Nat.le_refl _ |with_reducible assumption |with_reducible refine Nat.le_trans ?_ (Below.size (by with_reducible assumption)) |with_reducible refine Nat.le_trans ?_ (ck (by with_reducible assumption)) |with_reducible refine co ?_ _ |with_reducible refine cp ?_ _ |with_reducible refine cB ?_)))
       go_wp2_with (first
        | (with_reducible refine up (o:=⟨some 56,_,_,_,_,_⟩) ?_;go_must (refine dJ rfl (.tmp 52) (.tmp 55) 31 rfl wr.heap.size 62 i0 (.agg #[.int .i64 0,.int .i64 0,.bool false]) 3 24 Tryz.underlying31 hi0 hz0 hz1 hz2 rfl (by omega) (.slice (some ⟨wr.heap.size,0,none⟩) 0 0) 0 [] rfl A3 m c3 rfl ?_ (dsl (out.take m)) ?_ (jG _) ?_ ?_ ?_ ?_);go_must (first |exact nG _ _ _ _ |exact sX _ _ _);go_must (refine rb (nV (base:=w.heap.size) (e:=62) (c:=c3) ?_) hm);go_must (((repeat(first |with_reducible assumption |with_reducible refine cr ?_ _ |with_reducible refine dB ?_ (by with_reducible assumption) |with_reducible refine cF ?_ |with_reducible refine cP ?_ _))));go_must (unfold maxLen;omega);go_must (omega);go_must (((repeat(first |exact Nat.le_refl _ |with_reducible assumption |with_reducible refine Nat.le_trans ?_ (Below.size (by with_reducible assumption)) |with_reducible refine Nat.le_trans ?_ (ck (by with_reducible assumption)) |with_reducible refine co ?_ _ |with_reducible refine cp ?_ _ |with_reducible refine cB ?_))));go_must (intro v4 w4 hown4 hgr4 hat4;have hk4:=pB HOW.out (w':=w4) (by((repeat(first |with_reducible assumption |with_reducible refine cr ?_ _ |with_reducible refine dB ?_ (by with_reducible assumption) |with_reducible refine cF ?_ |with_reducible refine cP ?_ _)))) hgr4 (fun j hj=>by have:=pS hj;omega);obtain⟨A4,c4,hv4⟩:=ko hown4;subst hv4;have hne4:(Value.slice (some ⟨wr.heap.size,0,none⟩) 0 0).ownBlock≠some g:=(fun e=>by have:=pS e;omega);have q40:w4.cell? ⟨g,off+k*3,none⟩=some (.int .i64 d.x):=cj (by((repeat(first |with_reducible assumption |with_reducible refine aH ?_ (by with_reducible assumption) |with_reducible refine aD ?_ |with_reducible refine az ?_ _ |(refine ai rfl ?_;with_reducible rfl) |(refine ai rfl ?_;simp;done) |with_reducible refine aw ?_ _)))) hgr4 hne4;have q41:w4.cell? ⟨g,off+k*3+1,none⟩=some (.int .i64 d.y):=cj (by((repeat(first |with_reducible assumption |with_reducible refine aH ?_ (by with_reducible assumption) |with_reducible refine aD ?_ |with_reducible refine az ?_ _ |(refine ai rfl ?_;with_reducible rfl) |(refine ai rfl ?_;simp;done) |with_reducible refine aw ?_ _)))) hgr4 hne4;have q42:w4.cell? ⟨g,off+k*3+2,none⟩=some (.bool d.d):=cj (by((repeat(first |with_reducible assumption |with_reducible refine aH ?_ (by with_reducible assumption) |with_reducible refine aD ?_ |with_reducible refine az ?_ _ |(refine ai rfl ?_;with_reducible rfl) |(refine ai rfl ?_;simp;done) |with_reducible refine aw ?_ _)))) hgr4 hne4;have hs4:wr.heap.size≤w4.heap.size:=(Nat.le_trans (by((repeat(first |exact Nat.le_refl _ |with_reducible assumption |with_reducible refine Nat.le_trans ?_ (Below.size (by with_reducible assumption)) |with_reducible refine Nat.le_trans ?_ (ck (by with_reducible assumption)) |with_reducible refine co ?_ _ |with_reducible refine cp ?_ _ |with_reducible refine cB ?_)))) hgr4.size);have hb4:=Lib.hid (dc (B:=w.heap.size) (a:=w) (by((repeat(first |exact Below.refl _ _ |with_reducible assumption |refine Below.alloc0 ?_ _ |refine Below.step0 ?_ (by with_reducible assumption) |refine Below.step ?_ (by with_reducible assumption) ?_ |refine Below.alloc ?_ ?_ _ |refine Below.drew ?_ |refine bb ?_ _ |refine Below.setCell ?_ ?_ _))<;>(first |omega |exact hsz |exact Below.size (by with_reducible assumption) |(simp;done) |(simp;omega) |(simp at*;omega)))) hgr4 (fun j hj=>by have:=pS hj;omega) (by((repeat(first |exact Nat.le_refl _ |with_reducible assumption |with_reducible refine Nat.le_trans ?_ (Below.size (by with_reducible assumption)) |with_reducible refine Nat.le_trans ?_ (ck (by with_reducible assumption)) |with_reducible refine co ?_ _ |with_reducible refine cp ?_ _ |with_reducible refine cB ?_)))));have HK4:=Lib.hid hk4;have HO4:=Lib.hid (show w4.ownsRow wr.heap.size 62 3 (.slice A4 m c4) m (dsl (out.take m)) by simpa using hown4);clear hk4 hown4 hgr4 hat4 hne4))
        | (with_reducible refine up (o:=⟨some 63,_,_,_,_,_⟩) ?_;go_must (refine dJ rfl (.tmp 57) (.tmp 62) 31 rfl wr.heap.size 62 i0 (.agg #[.int .i64 0,.int .i64 0,.bool false]) 3 24 Tryz.underlying31 hi0 hz0 hz1 hz2 rfl (by omega) (.slice A4 m c4) m (dsl (out.take m)) rfl (some ⟨w4.heap.size,0,none⟩) 1 1 rfl ?_ (dsl [d]) (tx d _) (jG _) ?_ ?_ ?_ ?_);go_must (exact cr HO4.out _);go_must (unfold maxLen;omega);go_must (omega);go_must (((repeat(first |exact Nat.le_refl _ |with_reducible assumption |with_reducible refine Nat.le_trans ?_ (Below.size (by with_reducible assumption)) |with_reducible refine Nat.le_trans ?_ (ck (by with_reducible assumption)) |with_reducible refine co ?_ _ |with_reducible refine cp ?_ _ |with_reducible refine cB ?_))));go_must (intro v5 w5 hown5 hgr5 hat5;have hr5:∀ j,(Value.slice A4 m c4).ownBlock=some j→wr.heap.size≤j:=(fun j hj=>(HO4.out.lt j hj).1);have hk5:=pB HOW.out (w':=w5) (cr HK4.out _) hgr5 hr5;obtain⟨A5,c5,hv5⟩:=ko hown5;subst hv5;have hs5:=hgr5.size;have hb5:=Lib.hid (dc (B:=w.heap.size) (a:=w) (hb4.out.alloc (Nat.le_trans hsw hs4) _) hgr5 (fun j hj=>Nat.le_trans hsw (hr5 j hj)) (Nat.le_trans hsw (Nat.le_trans hs4 (by simp))));have HK5:=Lib.hid hk5;have HO5:=Lib.hid hown5;clear hk5 hown5 hgr5 hat5 hr5))
        | (with_reducible refine up (o:=⟨some 68,_,_,_,_,_⟩) ?_;go_must (refine dJ rfl (.tmp 64) (.tmp 67) 31 rfl wr.heap.size 62 i0 (.agg #[.int .i64 0,.int .i64 0,.bool false]) 3 24 Tryz.underlying31 hi0 hz0 hz1 hz2 rfl (by omega) (.slice A5 (m+1) c5) (m+1) (dsl (out.take m)++dsl [d]) rfl D2 L2 C2 rfl ?_ (dsl (out.drop m)) ?_ (jG _) ?_ ?_ ?_ ?_);go_must (exact HO5.out);go_must (exact ra (nV HK5.out) hc3 hm HD2.out.1 HD2.out.2.1);go_must (unfold maxLen;omega);go_must (omega);go_must (exact Nat.le_trans hs4 (Nat.le_trans (by simp) hs5));go_must (intro v6 w6 hown6 hgr6 hat6;have hb6:=Lib.hid (dc (B:=w.heap.size) (a:=w) hb5.out hgr6 (fun j hj=>Nat.le_trans hsw (HO5.out.lt j hj).1) (Nat.le_trans hsw (Nat.le_trans hs4 (Nat.le_trans (by simp) hs5))));have HO6:=Lib.hid hown6;clear hown6 hgr6 hat6)))
       go_roundw
       case rel=>
        refine⟨k+1,by omega,by go_num,?_,hb6.out⟩
        rw[HY.out,HINS.out]
        refine mS (pa (xS HO6.out hsw) ?_) ?_
        ·have:=HD2.out.2.1;simp;omega
        ·rw[dv,show d::out.drop m=[d]++out.drop m from rfl,dv];simp
       case measure=>simp [intOf];omega
   ·have HY:=Lib.hid (show cG (l.take (k+1))=cG (l.take k) from vC hlt (by simpa using hok))
    have hok2:okd l[k].x l[k].y l[k].d=false:=by simpa [Dom.ok] using hok
    clear hok
    go_wp2_with (go_at_call 86;refine(hZ _ _ _ _).mono ?_;rintro e w1 ⟨rfl,hb1⟩)
    go_roundw
    case rel=>exact⟨k+1,by omega,by go_num,by rw[HY.out];((repeat(first |with_reducible assumption |with_reducible refine cr ?_ _ |with_reducible refine dB ?_ (by with_reducible assumption) |with_reducible refine cF ?_ |with_reducible refine cP ?_ _))),by((repeat(first |exact Below.refl _ _ |with_reducible assumption |refine Below.alloc0 ?_ _ |refine Below.step0 ?_ (by with_reducible assumption) |refine Below.step ?_ (by with_reducible assumption) ?_ |refine Below.alloc ?_ ?_ _ |refine Below.drew ?_ |refine bb ?_ _ |refine Below.setCell ?_ ?_ _))<;>(first |omega |exact hsz |exact Below.size (by with_reducible assumption) |(simp;done) |(simp;omega) |(simp at*;omega)))⟩
    case measure=>simp [intOf];omega
  ·obtain rfl:k=l.length:=by omega
   go_wp2
   go_ret
   rw[List.take_length]at hown
   exact⟨_,rfl,hown,hbw⟩
end Go.Proofs.YtgmkkfdnmdohlaaGreatDoor
