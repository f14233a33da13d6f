
import Derived.Test.YtgmkkfdnmdohlaaGreatDoorDoms
import Derived.Test.YtgmkkfdnmdohlaaGreatDoorCels
set_option linter.unusedSimpArgs false
set_option linter.unusedVariables false
set_option maxHeartbeats 4000000
namespace Go.Proofs.YtgmkkfdnmdohlaaGreatDoor
open Go.ChangeShapes Go.WideShapes Go.ChangeAt Go.RowKit
set_option maxRecDepth 20000
def eJ (l:List Dom) (x y:Int) (d:Bool):Bool:=decide ((⟨x,y,d⟩:Dom)∈l)
theorem xf {x y:Int} {d:Bool} {z:Dom}:dEq x y d z.x z.y z.d=true↔(⟨x,y,d⟩:Dom)=z:=by
 have:=em ⟨x,y,d⟩ z
 simp only at this
 rw[this];simp
theorem nF {α:Type} {l:List α} {k:Nat} (h:k<l.length) {a:α}:a∈l.take (k+1)↔a∈l.take k∨a=l[k]:=by
 rw[List.take_succ_eq_append_getElem h,List.mem_append];simp
set_option maxHeartbeats 1000000 in
theorem xB (l:List Dom) (A:Option Addr) (n c:Nat) (x y:Int) (d:Bool) (w:World) (hrd:Rd w 3 A n (dsl l)) (hl:n≤4194304):
  Calls Tryz.prog 73 #[.slice A n c,.agg #[.int .i64 x,.int .i64 y,.bool d]] w fun e w'=>e= .returned (.bool (eJ l x y d))∧Below w.heap.size w w':=by
 obtain rfl:=hrd.len3
 go_enter Tryz.func73,Tryz.ntmps73
 go_wp2
 go_loopw [6,9] (fun _ i wr=>∃ k:Nat,k≤l.length∧i= .int .i64 k∧(⟨x,y,d⟩:Dom)∉l.take k∧wr.cell? ⟨w.heap.size,0,none⟩=some (.int .i64 x)∧wr.cell? ⟨w.heap.size,1,none⟩=some (.int .i64 y)∧wr.cell? ⟨w.heap.size,2,none⟩=some (.bool d)∧Below w.heap.size w wr) (fun _ i _=>l.length-(intOf i).toNat)
 case atStart=>exact⟨0,Nat.zero_le _,rfl,by simp,by((repeat(first |with_reducible assumption |with_reducible refine aH ?_ (by with_reducible assumption) |with_reducible refine aD ?_ |with_reducible refine az ?_ _ |(refine ai rfl ?_;with_reducible rfl) |(refine ai rfl ?_;simp;done) |with_reducible refine aw ?_ _))),by((repeat(first |with_reducible assumption |with_reducible refine aH ?_ (by with_reducible assumption) |with_reducible refine aD ?_ |with_reducible refine az ?_ _ |(refine ai rfl ?_;with_reducible rfl) |(refine ai rfl ?_;simp;done) |with_reducible refine aw ?_ _))),by((repeat(first |with_reducible assumption |with_reducible refine aH ?_ (by with_reducible assumption) |with_reducible refine aD ?_ |with_reducible refine az ?_ _ |(refine ai rfl ?_;with_reducible rfl) |(refine ai rfl ?_;simp;done) |with_reducible refine aw ?_ _))),by((repeat(first |exact Below.refl _ _ |with_reducible assumption |refine Below.alloc0 ?_ _ |refine Below.step0 ?_ (by with_reducible assumption) |refine Below.step ?_ (by with_reducible assumption) ?_ |refine Below.alloc ?_ ?_ _ |refine Below.drew ?_ |refine bb ?_ _ |refine Below.setCell ?_ ?_ _))<;>(first |omega |exact hsz |exact Below.size (by with_reducible assumption) |(simp;done) |(simp;omega) |(simp at*;omega)))⟩
 case round=>
  obtain⟨k,hk,rfl,hni,b0,b1,b2,hbw⟩:=hrel
  have HNI:=Lib.hid hni
  clear hni
  have hsz:=hbw.size
  have a0:=fun o=>aw b0 o
  have a1:=fun o=>aw b1 o
  have a2:=fun o=>aw b2 o
  by_cases hlt:k<l.length
  ·obtain⟨g,off,rfl,hg,c0,c1,c2⟩:=(hrd.below hbw (Nat.le_refl _)).doms hlt
   have heq:=ga x y d l[k].x l[k].y l[k].d
   have HS:=Lib.hid (show dEq x y d l[k].x l[k].y l[k].d=false→(⟨x,y,d⟩:Dom)∉l.take (k+1) by
    intro h hm
    rw[nF hlt]at hm
    rcases hm with hm |hm
    ·exact HNI.out hm
    ·rw[xf.2 hm]at h;cases h)
   have HR:=Lib.hid (show dEq x y d l[k].x l[k].y l[k].d=true→eJ l x y d=true by
    intro h;unfold eJ;rw[xf.1 h];simp)
   go_wp2
   all_goals first
    | (go_roundw;(case rel=>exact⟨k+1,by omega,by go_num,HS.out (by first |assumption |simp_all),by((repeat(first |with_reducible assumption |with_reducible refine aH ?_ (by with_reducible assumption) |with_reducible refine aD ?_ |with_reducible refine az ?_ _ |(refine ai rfl ?_;with_reducible rfl) |(refine ai rfl ?_;simp;done) |with_reducible refine aw ?_ _))),by((repeat(first |with_reducible assumption |with_reducible refine aH ?_ (by with_reducible assumption) |with_reducible refine aD ?_ |with_reducible refine az ?_ _ |(refine ai rfl ?_;with_reducible rfl) |(refine ai rfl ?_;simp;done) |with_reducible refine aw ?_ _))),by((repeat(first |with_reducible assumption |with_reducible refine aH ?_ (by with_reducible assumption) |with_reducible refine aD ?_ |with_reducible refine az ?_ _ |(refine ai rfl ?_;with_reducible rfl) |(refine ai rfl ?_;simp;done) |with_reducible refine aw ?_ _))),by((repeat(first |exact Below.refl _ _ |with_reducible assumption |refine Below.alloc0 ?_ _ |refine Below.step0 ?_ (by with_reducible assumption) |refine Below.step ?_ (by with_reducible assumption) ?_ |refine Below.alloc ?_ ?_ _ |refine Below.drew ?_ |refine bb ?_ _ |refine Below.setCell ?_ ?_ _))<;>(first |omega |exact hsz |exact Below.size (by with_reducible assumption) |(simp;done) |(simp;omega) |(simp at*;omega)))⟩);(case measure=>simp [intOf];omega))
    | (go_ret;exact⟨fb (HR.out (by first |assumption |simp_all)).symm,by((repeat(first |exact Below.refl _ _ |with_reducible assumption |refine Below.alloc0 ?_ _ |refine Below.step0 ?_ (by with_reducible assumption) |refine Below.step ?_ (by with_reducible assumption) ?_ |refine Below.alloc ?_ ?_ _ |refine Below.drew ?_ |refine bb ?_ _ |refine Below.setCell ?_ ?_ _))<;>(first |omega |exact hsz |exact Below.size (by with_reducible assumption) |(simp;done) |(simp;omega) |(simp at*;omega)))⟩)
  ·obtain rfl:k=l.length:=by omega
   have HR:=Lib.hid (show eJ l x y d=false by have:=HNI.out;rw[List.take_length]at this;unfold eJ;simpa using this)
   go_wp2
   go_ret
   exact⟨fb HR.out.symm,hbw⟩
theorem AJ (x y:Int) (h1:0≤x) (h2:x≤6) (h3:0≤y) (h4:y≤6) (w:World):
  Calls Tryz.prog 72 #[.agg #[.int .i64 x,.int .i64 y]] w fun e w'=>e= .returned (.tuple #[.agg #[.int .i64 x,.int .i64 y,.bool false,.int .i64 x,.int .i64 (y+1),.bool false],.agg #[.int .i64 x,.int .i64 y,.bool true,.int .i64 (x+1),.int .i64 y,.bool true]])∧Below w.heap.size w w':=by
 have e1:IntKind.i64.wrap (x+1)=x+1:=IntWalk.i64_in _ (by omega)
 have e2:IntKind.i64.wrap (y+1)=y+1:=IntWalk.i64_in _ (by omega)
 go_enter Tryz.func72,Tryz.ntmps72
 go_wp2
 go_region_held3 (fun w'=>w'.cell? ⟨w.heap.size,0,none⟩=some (.int .i64 x)∧w'.cell? ⟨w.heap.size,1,none⟩=some (.int .i64 y)) (go_keep) (fail)
 all_goals go_wp2
 all_goals exact bodyPost_ret (by simp [results,Tryz.results72,go_sem];rfl) rfl ⟨by simp,by((repeat(first |exact Below.refl _ _ |with_reducible assumption |refine Below.alloc0 ?_ _ |refine Below.step0 ?_ (by with_reducible assumption) |refine Below.step ?_ (by with_reducible assumption) ?_ |refine Below.alloc ?_ ?_ _ |refine Below.drew ?_ |refine bb ?_ _ |refine Below.setCell ?_ ?_ _))<;>(first |omega |exact hsz |exact Below.size (by with_reducible assumption) |(simp;done) |(simp;omega) |(simp at*;omega)))⟩
def acB (l:List Dom) (x y:Int):Bool:=eJ l x y false&&eJ l x (y+1) false
def dnB (l:List Dom) (x y:Int):Bool:=eJ l x y true&&eJ l (x+1) y true
def cS (l:List Dom) (x y:Int):Bool:=inB x 0 6&&inB y 0 6&&(acB l x y||dnB l x y)
theorem Dl {l:List Dom} {x y:Int} (h:(inB x 0 6&&inB y 0 6)=false):cS l x y=false:=by unfold cS;rw[h];rfl
theorem Gv {l:List Dom} {x y:Int} (h:(inB x 0 6&&inB y 0 6)=true):cS l x y=(acB l x y||dnB l x y):=by unfold cS;rw[h];rfl
theorem in66 {x y:Int}:(inB x 0 6&&inB y 0 6)=true↔(0≤x∧x≤6)∧(0≤y∧y≤6):=by rw[Bool.and_eq_true,bP,bP]
set_option maxHeartbeats 2000000 in
theorem kN (l:List Dom) (A:Option Addr) (n c:Nat) (x y:Int) (w:World) (hrd:Rd w 3 A n (dsl l)) (hl:n≤4194304):
  Calls Tryz.prog 70 #[.slice A n c,.agg #[.int .i64 x,.int .i64 y]] w fun e w'=>e= .returned (.bool (cS l x y))∧Below w.heap.size w w':=by
 by_cases hin:(inB x 0 6&&inB y 0 6)=true
 ·have H:=Lib.hid (Gv (l:=l) hin)
  obtain⟨⟨h1,h2⟩,h3,h4⟩:=in66.1 hin
  have i1:inB x 0 6=true:=bP.2 ⟨h1,h2⟩
  have i2:inB y 0 6=true:=bP.2 ⟨h3,h4⟩
  clear hin
  go_enter Tryz.func70,Tryz.ntmps70
  go_wp2_with (first
   | (go_at_call 61;refine(mB _ _ _ _).mono ?_;rintro e w2 ⟨rfl,rfl⟩)
   | (go_at_call 72;refine(AJ _ _ h1 h2 h3 h4 _).mono ?_;rintro e w1 ⟨rfl,hb1⟩)
   | (go_at_call 73;refine Calls.mono (xB l _ _ _ _ _ _ _ ?_ hl) ?_;(((repeat(first |with_reducible assumption |with_reducible refine Rd.alloc ?_ _ |with_reducible refine Rd.step ?_ (by with_reducible assumption) |with_reducible refine Rd.drew ?_ |with_reducible refine Rd.drewN ?_ _ |with_reducible refine RdA.alloc ?_ _ |with_reducible refine RdA.step ?_ (by with_reducible assumption) |with_reducible refine RdA.drew ?_ |with_reducible refine RdA.drewN ?_ _))));rintro e w3 ⟨rfl,hb3⟩;have q0_0:w3.cell? ⟨w1.heap.size,0,none⟩=some (.int .i64 x):=(by((repeat(first |with_reducible assumption |with_reducible refine aH ?_ (by with_reducible assumption) |with_reducible refine aD ?_ |with_reducible refine az ?_ _ |(refine ai rfl ?_;with_reducible rfl) |(refine ai rfl ?_;simp;done) |with_reducible refine aw ?_ _))));have q0_1:w3.cell? ⟨w1.heap.size,1,none⟩=some (.int .i64 y):=(by((repeat(first |with_reducible assumption |with_reducible refine aH ?_ (by with_reducible assumption) |with_reducible refine aD ?_ |with_reducible refine az ?_ _ |(refine ai rfl ?_;with_reducible rfl) |(refine ai rfl ?_;simp;done) |with_reducible refine aw ?_ _))));have q0_2:w3.cell? ⟨w1.heap.size,2,none⟩=some (.bool false):=(by((repeat(first |with_reducible assumption |with_reducible refine aH ?_ (by with_reducible assumption) |with_reducible refine aD ?_ |with_reducible refine az ?_ _ |(refine ai rfl ?_;with_reducible rfl) |(refine ai rfl ?_;simp;done) |with_reducible refine aw ?_ _))));have q0_3:w3.cell? ⟨w1.heap.size,3,none⟩=some (.int .i64 x):=(by((repeat(first |with_reducible assumption |with_reducible refine aH ?_ (by with_reducible assumption) |with_reducible refine aD ?_ |with_reducible refine az ?_ _ |(refine ai rfl ?_;with_reducible rfl) |(refine ai rfl ?_;simp;done) |with_reducible refine aw ?_ _))));have q0_4:w3.cell? ⟨w1.heap.size,4,none⟩=some (.int .i64 (y+1)):=(by((repeat(first |with_reducible assumption |with_reducible refine aH ?_ (by with_reducible assumption) |with_reducible refine aD ?_ |with_reducible refine az ?_ _ |(refine ai rfl ?_;with_reducible rfl) |(refine ai rfl ?_;simp;done) |with_reducible refine aw ?_ _))));have q0_5:w3.cell? ⟨w1.heap.size,5,none⟩=some (.bool false):=(by((repeat(first |with_reducible assumption |with_reducible refine aH ?_ (by with_reducible assumption) |with_reducible refine aD ?_ |with_reducible refine az ?_ _ |(refine ai rfl ?_;with_reducible rfl) |(refine ai rfl ?_;simp;done) |with_reducible refine aw ?_ _))));have q1_0:w3.cell? ⟨w1.heap.size+1,0,none⟩=some (.int .i64 x):=(by((repeat(first |with_reducible assumption |with_reducible refine aH ?_ (by with_reducible assumption) |with_reducible refine aD ?_ |with_reducible refine az ?_ _ |(refine ai rfl ?_;with_reducible rfl) |(refine ai rfl ?_;simp;done) |with_reducible refine aw ?_ _))));have q1_1:w3.cell? ⟨w1.heap.size+1,1,none⟩=some (.int .i64 y):=(by((repeat(first |with_reducible assumption |with_reducible refine aH ?_ (by with_reducible assumption) |with_reducible refine aD ?_ |with_reducible refine az ?_ _ |(refine ai rfl ?_;with_reducible rfl) |(refine ai rfl ?_;simp;done) |with_reducible refine aw ?_ _))));have q1_2:w3.cell? ⟨w1.heap.size+1,2,none⟩=some (.bool true):=(by((repeat(first |with_reducible assumption |with_reducible refine aH ?_ (by with_reducible assumption) |with_reducible refine aD ?_ |with_reducible refine az ?_ _ |(refine ai rfl ?_;with_reducible rfl) |(refine ai rfl ?_;simp;done) |with_reducible refine aw ?_ _))));have q1_3:w3.cell? ⟨w1.heap.size+1,3,none⟩=some (.int .i64 (x+1)):=(by((repeat(first |with_reducible assumption |with_reducible refine aH ?_ (by with_reducible assumption) |with_reducible refine aD ?_ |with_reducible refine az ?_ _ |(refine ai rfl ?_;with_reducible rfl) |(refine ai rfl ?_;simp;done) |with_reducible refine aw ?_ _))));have q1_4:w3.cell? ⟨w1.heap.size+1,4,none⟩=some (.int .i64 y):=(by((repeat(first |with_reducible assumption |with_reducible refine aH ?_ (by with_reducible assumption) |with_reducible refine aD ?_ |with_reducible refine az ?_ _ |(refine ai rfl ?_;with_reducible rfl) |(refine ai rfl ?_;simp;done) |with_reducible refine aw ?_ _))));have q1_5:w3.cell? ⟨w1.heap.size+1,5,none⟩=some (.bool true):=(by((repeat(first |with_reducible assumption |with_reducible refine aH ?_ (by with_reducible assumption) |with_reducible refine aD ?_ |with_reducible refine az ?_ _ |(refine ai rfl ?_;with_reducible rfl) |(refine ai rfl ?_;simp;done) |with_reducible refine aw ?_ _))))))
  all_goals (go_ret;refine⟨fb ?_,by((repeat(first |exact Below.refl _ _ |with_reducible assumption |refine Below.alloc0 ?_ _ |refine Below.step0 ?_ (by with_reducible assumption) |refine Below.step ?_ (by with_reducible assumption) ?_ |refine Below.alloc ?_ ?_ _ |refine Below.drew ?_ |refine bb ?_ _ |refine Below.setCell ?_ ?_ _))<;>(first |omega |exact hsz |exact Below.size (by with_reducible assumption) |(simp;done) |(simp;omega) |(simp at*;omega)))⟩;rw[H.out];unfold acB dnB;simp_all)
 ·have H:=Lib.hid (Dl (l:=l) (show(inB x 0 6&&inB y 0 6)=false by simpa using hin))
  have hcase:inB x 0 6=false∨(inB x 0 6=true∧inB y 0 6=false):=by
   revert hin;cases inB x 0 6<;>cases inB y 0 6<;>simp
  clear hin
  rcases hcase with i1 |⟨i1,i2⟩
  all_goals
   go_enter Tryz.func70,Tryz.ntmps70
   go_wp2_with (go_at_call 61;refine(mB _ _ _ _).mono ?_;rintro e w2 ⟨rfl,rfl⟩)
   go_ret
   exact⟨fb H.out.symm,by((repeat(first |exact Below.refl _ _ |with_reducible assumption |refine Below.alloc0 ?_ _ |refine Below.step0 ?_ (by with_reducible assumption) |refine Below.step ?_ (by with_reducible assumption) ?_ |refine Below.alloc ?_ ?_ _ |refine Below.drew ?_ |refine bb ?_ _ |refine Below.setCell ?_ ?_ _))<;>(first |omega |exact hsz |exact Below.size (by with_reducible assumption) |(simp;done) |(simp;omega) |(simp at*;omega)))⟩
set_option maxHeartbeats 1000000 in
theorem xK (l:List Dom) (A:Option Addr) (n c:Nat) (x y:Int) (d:Bool) (w:World) (hrd:Rd w 3 A n (dsl l)) (hl:n≤4194304):
  Calls Tryz.prog 96 #[.slice A n c,.agg #[.int .i64 x,.int .i64 y,.bool d]] w fun e w'=>∃ r:Int,e= .returned (.int .i64 r)∧decide (0≤r)=eJ l x y d∧Below w.heap.size w w':=by
 obtain rfl:=hrd.len3
 go_enter Tryz.func96,Tryz.ntmps96
 go_wp2
 go_loopw [5] (fun i wr=>∃ k:Nat,k≤l.length∧i= .int .i64 k∧(⟨x,y,d⟩:Dom)∉l.take k∧wr.cell? ⟨w.heap.size,0,none⟩=some (.int .i64 x)∧wr.cell? ⟨w.heap.size,1,none⟩=some (.int .i64 y)∧wr.cell? ⟨w.heap.size,2,none⟩=some (.bool d)∧Below w.heap.size w wr) (fun i _=>l.length-(intOf i).toNat)
 case atStart=>exact⟨0,Nat.zero_le _,rfl,by simp,by((repeat(first |with_reducible assumption |with_reducible refine aH ?_ (by with_reducible assumption) |with_reducible refine aD ?_ |with_reducible refine az ?_ _ |(refine ai rfl ?_;with_reducible rfl) |(refine ai rfl ?_;simp;done) |with_reducible refine aw ?_ _))),by((repeat(first |with_reducible assumption |with_reducible refine aH ?_ (by with_reducible assumption) |with_reducible refine aD ?_ |with_reducible refine az ?_ _ |(refine ai rfl ?_;with_reducible rfl) |(refine ai rfl ?_;simp;done) |with_reducible refine aw ?_ _))),by((repeat(first |with_reducible assumption |with_reducible refine aH ?_ (by with_reducible assumption) |with_reducible refine aD ?_ |with_reducible refine az ?_ _ |(refine ai rfl ?_;with_reducible rfl) |(refine ai rfl ?_;simp;done) |with_reducible refine aw ?_ _))),by((repeat(first |exact Below.refl _ _ |with_reducible assumption |refine Below.alloc0 ?_ _ |refine Below.step0 ?_ (by with_reducible assumption) |refine Below.step ?_ (by with_reducible assumption) ?_ |refine Below.alloc ?_ ?_ _ |refine Below.drew ?_ |refine bb ?_ _ |refine Below.setCell ?_ ?_ _))<;>(first |omega |exact hsz |exact Below.size (by with_reducible assumption) |(simp;done) |(simp;omega) |(simp at*;omega)))⟩
 case round=>
  obtain⟨k,hk,rfl,hni,b0,b1,b2,hbw⟩:=hrel
  have HNI:=Lib.hid hni
  clear hni
  have hsz:=hbw.size
  by_cases hlt:k<l.length
  ·obtain⟨g,off,rfl,hg,c0,c1,c2⟩:=(hrd.below hbw (Nat.le_refl _)).doms hlt
   have k0:(0:Int)≤(k:Int):=by omega
   have k1:(k:Int)<(l.length:Int):=by omega
   have heq:=ga l[k].x l[k].y l[k].d x y d
   have HS:=Lib.hid (show dEq l[k].x l[k].y l[k].d x y d=false→(⟨x,y,d⟩:Dom)∉l.take (k+1) by
    intro h hm
    rw[nF hlt]at hm
    rcases hm with hm |hm
    ·exact HNI.out hm
    ·have:=em l[k] ⟨x,y,d⟩
     simp only at this
     rw[this]at h
     simp [←hm]at h)
   have HR:=Lib.hid (show dEq l[k].x l[k].y l[k].d x y d=true→decide ((0:Int)≤(k:Int))=eJ l x y d by
    intro h
    have h2:=em l[k] ⟨x,y,d⟩
    simp only at h2
    rw[h2]at h
    have h3:l[k]=⟨x,y,d⟩:=by simpa using h
    unfold eJ;rw[←h3];simp)
   go_wp2
   go_quiet (fail)
   go_wp2
   all_goals first
    | (go_roundw;(case rel=>exact⟨k+1,by omega,by go_num,HS.out (by first |assumption |simp_all),by((repeat(first |with_reducible assumption |with_reducible refine aH ?_ (by with_reducible assumption) |with_reducible refine aD ?_ |with_reducible refine az ?_ _ |(refine ai rfl ?_;with_reducible rfl) |(refine ai rfl ?_;simp;done) |with_reducible refine aw ?_ _))),by((repeat(first |with_reducible assumption |with_reducible refine aH ?_ (by with_reducible assumption) |with_reducible refine aD ?_ |with_reducible refine az ?_ _ |(refine ai rfl ?_;with_reducible rfl) |(refine ai rfl ?_;simp;done) |with_reducible refine aw ?_ _))),by((repeat(first |with_reducible assumption |with_reducible refine aH ?_ (by with_reducible assumption) |with_reducible refine aD ?_ |with_reducible refine az ?_ _ |(refine ai rfl ?_;with_reducible rfl) |(refine ai rfl ?_;simp;done) |with_reducible refine aw ?_ _))),by((repeat(first |exact Below.refl _ _ |with_reducible assumption |refine Below.alloc0 ?_ _ |refine Below.step0 ?_ (by with_reducible assumption) |refine Below.step ?_ (by with_reducible assumption) ?_ |refine Below.alloc ?_ ?_ _ |refine Below.drew ?_ |refine bb ?_ _ |refine Below.setCell ?_ ?_ _))<;>(first |omega |exact hsz |exact Below.size (by with_reducible assumption) |(simp;done) |(simp;omega) |(simp at*;omega)))⟩);(case measure=>simp [intOf];omega))
    | (go_ret;exact⟨_,rfl,HR.out (by first |assumption |simp_all),by((repeat(first |exact Below.refl _ _ |with_reducible assumption |refine Below.alloc0 ?_ _ |refine Below.step0 ?_ (by with_reducible assumption) |refine Below.step ?_ (by with_reducible assumption) ?_ |refine Below.alloc ?_ ?_ _ |refine Below.drew ?_ |refine bb ?_ _ |refine Below.setCell ?_ ?_ _))<;>(first |omega |exact hsz |exact Below.size (by with_reducible assumption) |(simp;done) |(simp;omega) |(simp at*;omega)))⟩)
  ·obtain rfl:k=l.length:=by omega
   have HR:=Lib.hid (show eJ l x y d=false by have:=HNI.out;rw[List.take_length]at this;unfold eJ;simpa using this)
   go_wp2
   go_ret
   exact⟨-1,rfl,by rw[HR.out];rfl,hbw⟩
theorem ql (x y:Int) (b:Bool) (h1:0≤x) (h2:x≤6) (h3:0≤y) (h4:y≤6) (w:World):
  Calls Tryz.prog 79 #[.agg #[.int .i64 x,.int .i64 y],.bool b] w fun e w'=>e= .returned (.tuple #[.agg #[.int .i64 x,.int .i64 y,.bool b],.agg #[.int .i64 (if b then x+1 else x),.int .i64 (if b then y else y+1),.bool b]])∧Below w.heap.size w w':=by
 have e1:IntKind.i64.wrap (x+1)=x+1:=IntWalk.i64_in _ (by omega)
 have e2:IntKind.i64.wrap (y+1)=y+1:=IntWalk.i64_in _ (by omega)
 cases b
 all_goals
  go_enter Tryz.func79,Tryz.ntmps79
  go_wp2
  go_region_held3 (fun w'=>w'.cell? ⟨w.heap.size,0,none⟩=some (.int .i64 x)∧w'.cell? ⟨w.heap.size,1,none⟩=some (.int .i64 y)) (go_keep) (fail)
  all_goals go_wp2
  all_goals exact bodyPost_ret (by simp [results,Tryz.results79,go_sem];rfl) rfl ⟨by simp,by((repeat(first |exact Below.refl _ _ |with_reducible assumption |refine Below.alloc0 ?_ _ |refine Below.step0 ?_ (by with_reducible assumption) |refine Below.step ?_ (by with_reducible assumption) ?_ |refine Below.alloc ?_ ?_ _ |refine Below.drew ?_ |refine bb ?_ _ |refine Below.setCell ?_ ?_ _))<;>(first |omega |exact hsz |exact Below.size (by with_reducible assumption) |(simp;done) |(simp;omega) |(simp at*;omega)))⟩
theorem xD {r:Int} {b:Bool} (h:decide (0≤r)=b):(0≤r→b=true)∧(r<0→b=false):=by
 subst h;exact⟨fun h=>by simp [h],fun h=>by simp;omega⟩
def bc (l:List Dom) (x y:Int):Int:=if(inB x 0 6&&inB y 0 6)then(if acB l x y then 1 else if dnB l x y then 2 else 0)else 0
theorem uL (l:List Dom) (x y:Int):decide (0<bc l x y)=cS l x y:=by
 unfold bc cS
 cases h:(inB x 0 6&&inB y 0 6)<;>cases h2:acB l x y<;>cases h3:dnB l x y<;>rfl
theorem BK (l:List Dom) (A:Option Addr) (n c:Nat) (x y:Int) (w:World) (hrd:Rd w 3 A n (dsl l)) (hl:n≤4194304):
  Calls Tryz.prog 69 #[.slice A n c,.agg #[.int .i64 x,.int .i64 y]] w fun e w'=>e= .returned (.int .i64 (bc l x y))∧Below w.heap.size w w':=by
 by_cases hin:(inB x 0 6&&inB y 0 6)=true
 ·have H:=Lib.hid (show bc l x y=if acB l x y then 1 else if dnB l x y then 2 else 0 by unfold bc;rw[if_pos hin])
  obtain⟨⟨h1,h2⟩,h3,h4⟩:=in66.1 hin
  have i1:inB x 0 6=true:=bP.2 ⟨h1,h2⟩
  have i2:inB y 0 6=true:=bP.2 ⟨h3,h4⟩
  clear hin
  go_enter Tryz.func69,Tryz.ntmps69
  go_wp2_with (go_at_call 59;refine(mN _ _ _ _).mono ?_;rintro e w2 ⟨rfl,rfl⟩)
  refine wp_loop_rounds 3 ?_
  rw[rounds_succ]
  go_wp2_with (first
   | (go_at_call 59;refine(mN _ _ _ _).mono ?_;rintro e w2 ⟨rfl,rfl⟩)
   | (go_at_call 79;refine(ql _ _ _ h1 h2 h3 h4 _).mono ?_;rintro e w1 ⟨rfl,hb1⟩;have p0:w1.cell? ⟨w.heap.size,0,none⟩=some (.int .i64 x):=(by((repeat(first |with_reducible assumption |with_reducible refine aH ?_ (by with_reducible assumption) |with_reducible refine aD ?_ |with_reducible refine az ?_ _ |(refine ai rfl ?_;with_reducible rfl) |(refine ai rfl ?_;simp;done) |with_reducible refine aw ?_ _))));have p1:w1.cell? ⟨w.heap.size,1,none⟩=some (.int .i64 y):=(by((repeat(first |with_reducible assumption |with_reducible refine aH ?_ (by with_reducible assumption) |with_reducible refine aD ?_ |with_reducible refine az ?_ _ |(refine ai rfl ?_;with_reducible rfl) |(refine ai rfl ?_;simp;done) |with_reducible refine aw ?_ _)))))
   | (go_at_call 96;refine Calls.mono (xK l _ _ _ _ _ _ _ ?_ hl) ?_;(((repeat(first |with_reducible assumption |with_reducible refine Rd.alloc ?_ _ |with_reducible refine Rd.step ?_ (by with_reducible assumption) |with_reducible refine Rd.drew ?_ |with_reducible refine Rd.drewN ?_ _ |with_reducible refine RdA.alloc ?_ _ |with_reducible refine RdA.step ?_ (by with_reducible assumption) |with_reducible refine RdA.drew ?_ |with_reducible refine RdA.drewN ?_ _))));rintro e w3 ⟨r,rfl,hr,hb3⟩;obtain⟨hc3,hf3,hs3⟩:=qN hb3;have HR:=Lib.hid (xD hr);clear hr;have p0:w3.cell? ⟨w.heap.size,0,none⟩=some (.int .i64 x):=(by((repeat(first |with_reducible assumption |with_reducible refine aH ?_ (by with_reducible assumption) |with_reducible refine aD ?_ |with_reducible refine az ?_ _ |(refine ai rfl ?_;with_reducible rfl) |(refine ai rfl ?_;simp;done) |with_reducible refine aw ?_ _))));have p1:w3.cell? ⟨w.heap.size,1,none⟩=some (.int .i64 y):=(by((repeat(first |with_reducible assumption |with_reducible refine aH ?_ (by with_reducible assumption) |with_reducible refine aD ?_ |with_reducible refine az ?_ _ |(refine ai rfl ?_;with_reducible rfl) |(refine ai rfl ?_;simp;done) |with_reducible refine aw ?_ _))))))
  any_goals (rw[rounds_succ];go_wp2_with (first
   | (go_at_call 59;refine(mN _ _ _ _).mono ?_;rintro e w2 ⟨rfl,rfl⟩)
   | (go_at_call 79;refine(ql _ _ _ h1 h2 h3 h4 _).mono ?_;rintro e w1 ⟨rfl,hb1⟩;have p0:w1.cell? ⟨w.heap.size,0,none⟩=some (.int .i64 x):=(by((repeat(first |with_reducible assumption |with_reducible refine aH ?_ (by with_reducible assumption) |with_reducible refine aD ?_ |with_reducible refine az ?_ _ |(refine ai rfl ?_;with_reducible rfl) |(refine ai rfl ?_;simp;done) |with_reducible refine aw ?_ _))));have p1:w1.cell? ⟨w.heap.size,1,none⟩=some (.int .i64 y):=(by((repeat(first |with_reducible assumption |with_reducible refine aH ?_ (by with_reducible assumption) |with_reducible refine aD ?_ |with_reducible refine az ?_ _ |(refine ai rfl ?_;with_reducible rfl) |(refine ai rfl ?_;simp;done) |with_reducible refine aw ?_ _)))))
   | (go_at_call 96;refine Calls.mono (xK l _ _ _ _ _ _ _ ?_ hl) ?_;(((repeat(first |with_reducible assumption |with_reducible refine Rd.alloc ?_ _ |with_reducible refine Rd.step ?_ (by with_reducible assumption) |with_reducible refine Rd.drew ?_ |with_reducible refine Rd.drewN ?_ _ |with_reducible refine RdA.alloc ?_ _ |with_reducible refine RdA.step ?_ (by with_reducible assumption) |with_reducible refine RdA.drew ?_ |with_reducible refine RdA.drewN ?_ _))));rintro e w3 ⟨r,rfl,hr,hb3⟩;obtain⟨hc3,hf3,hs3⟩:=qN hb3;have HR:=Lib.hid (xD hr);clear hr;have p0:w3.cell? ⟨w.heap.size,0,none⟩=some (.int .i64 x):=(by((repeat(first |with_reducible assumption |with_reducible refine aH ?_ (by with_reducible assumption) |with_reducible refine aD ?_ |with_reducible refine az ?_ _ |(refine ai rfl ?_;with_reducible rfl) |(refine ai rfl ?_;simp;done) |with_reducible refine aw ?_ _))));have p1:w3.cell? ⟨w.heap.size,1,none⟩=some (.int .i64 y):=(by((repeat(first |with_reducible assumption |with_reducible refine aH ?_ (by with_reducible assumption) |with_reducible refine aD ?_ |with_reducible refine az ?_ _ |(refine ai rfl ?_;with_reducible rfl) |(refine ai rfl ?_;simp;done) |with_reducible refine aw ?_ _)))))))
  any_goals (rw[rounds_succ];go_wp2)
  all_goals (go_ret;refine⟨rU ?_,by((repeat(first |exact Below.refl _ _ |with_reducible assumption |refine Below.alloc0 ?_ _ |refine Below.step0 ?_ (by with_reducible assumption) |refine Below.step ?_ (by with_reducible assumption) ?_ |refine Below.alloc ?_ ?_ _ |refine Below.drew ?_ |refine bb ?_ _ |refine Below.setCell ?_ ?_ _))<;>(first |omega |exact hsz |exact Below.size (by with_reducible assumption) |(simp;done) |(simp;omega) |(simp at*;omega)))⟩;rw[H.out];simp_all [Hid,acB,dnB])
 ·have H:=Lib.hid (show bc l x y=0 by unfold bc;rw[if_neg hin])
  have hcase:inB x 0 6=false∨(inB x 0 6=true∧inB y 0 6=false):=by
   revert hin;cases inB x 0 6<;>cases inB y 0 6<;>simp
  clear hin
  rcases hcase with i1 |⟨i1,i2⟩
  all_goals
   go_enter Tryz.func69,Tryz.ntmps69
   go_wp2_with (go_at_call 59;refine(mN _ _ _ _).mono ?_;rintro e w2 ⟨rfl,rfl⟩)
   go_ret
   exact⟨rU H.out.symm,by((repeat(first |exact Below.refl _ _ |with_reducible assumption |refine Below.alloc0 ?_ _ |refine Below.step0 ?_ (by with_reducible assumption) |refine Below.step ?_ (by with_reducible assumption) ?_ |refine Below.alloc ?_ ?_ _ |refine Below.drew ?_ |refine bb ?_ _ |refine Below.setCell ?_ ?_ _))<;>(first |omega |exact hsz |exact Below.size (by with_reducible assumption) |(simp;done) |(simp;omega) |(simp at*;omega)))⟩
end Go.Proofs.YtgmkkfdnmdohlaaGreatDoor
