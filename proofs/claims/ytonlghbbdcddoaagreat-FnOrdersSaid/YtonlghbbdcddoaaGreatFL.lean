/- Parts put together: Flip, Flips. -/
import Derived.Test.YtonlghbbdcddoaaGreatDoms
import Derived.Test.YtonlghbbdcddoaaGreatCels
set_option maxHeartbeats 4000000
namespace Go.Proofs.YtonlghbbdcddoaaGreat
open Go.ChangeShapes Go.WideShapes Go.ChangeAt Go.RowKit
set_option maxRecDepth 20000
def mH (l:List Dom) (x y:Int) (d:Bool):Bool:=decide ((⟨x,y,d⟩:Dom)∈l)
theorem wH {α:Type} {l:List α} {k:Nat} (h:k<l.length) {a:α}:a∈l.take (k+1)↔a∈l.take k∨a=l[k]:=by
 rw[List.take_succ_eq_append_getElem h,List.mem_append];simp
def acB (l:List Dom) (x y:Int):Bool:=mH l x y false&&mH l x (y+1) false
def dnB (l:List Dom) (x y:Int):Bool:=mH l x y true&&mH l (x+1) y true
def gK (l:List Dom) (x y:Int):Bool:=inB x 0 6&&inB y 0 6&&(acB l x y||dnB l x y)
theorem in66 {x y:Int}:(inB x 0 6&&inB y 0 6)=true↔(0≤x∧x≤6)∧(0≤y∧y≤6):=by rw[Bool.and_eq_true,bw,bw]
set_option maxHeartbeats 1000000 in
theorem An (l:List Dom) (A:Option Addr) (n c:Nat) (x y:Int) (d:Bool) (w:World) (hrd:Rd w 3 A n (dsl l)) (hl:n≤4194304):
  Calls Tryz.prog 99 #[.slice A n c,.agg #[.int .i64 x,.int .i64 y,.bool d]] w fun e w'=>∃ r:Int,e= .returned (.int .i64 r)∧decide (0≤r)=mH l x y d∧Below w.heap.size w w':=by
 obtain rfl:=hrd.len3
 go_enter Tryz.func99,Tryz.ntmps99
 go_wp2
 go_loopw [5] (fun i wr=>∃ k:Nat,k≤l.length∧i= .int .i64 k∧(⟨x,y,d⟩:Dom)∉l.take k∧wr.cell? ⟨w.heap.size,0,none⟩=some (.int .i64 x)∧wr.cell? ⟨w.heap.size,1,none⟩=some (.int .i64 y)∧wr.cell? ⟨w.heap.size,2,none⟩=some (.bool d)∧Below w.heap.size w wr) (fun i _=>l.length-(intOf i).toNat)
 case atStart=>exact⟨0,Nat.zero_le _,rfl,by simp,by((repeat(first |with_reducible assumption |with_reducible refine bi ?_ (by with_reducible assumption) |with_reducible refine bh ?_ |with_reducible refine ba ?_ _ |(refine aE rfl ?_;with_reducible rfl) |(refine aE rfl ?_;simp;done) |with_reducible refine aZ ?_ _))),by((repeat(first |with_reducible assumption |with_reducible refine bi ?_ (by with_reducible assumption) |with_reducible refine bh ?_ |with_reducible refine ba ?_ _ |(refine aE rfl ?_;with_reducible rfl) |(refine aE rfl ?_;simp;done) |with_reducible refine aZ ?_ _))),by((repeat(first |with_reducible assumption |with_reducible refine bi ?_ (by with_reducible assumption) |with_reducible refine bh ?_ |with_reducible refine ba ?_ _ |(refine aE rfl ?_;with_reducible rfl) |(refine aE rfl ?_;simp;done) |with_reducible refine aZ ?_ _))),by((repeat(first |exact Below.refl _ _ |with_reducible assumption |refine Below.alloc0 ?_ _ |refine Below.step0 ?_ (by with_reducible assumption) |refine Below.step ?_ (by with_reducible assumption) ?_ |refine Below.alloc ?_ ?_ _ |refine Below.drew ?_ |refine bK ?_ _ |refine Below.setCell ?_ ?_ _))<;>(first |omega |exact hsz |exact Below.size (by with_reducible assumption) |(simp;done) |(simp;omega) |(simp at*;omega)))⟩
 case round=>
  obtain⟨k,hk,rfl,hni,b0,b1,b2,hbw⟩:=hrel
  have HNI:=Lib.hid hni
  clear hni
  have hsz:=hbw.size
  by_cases hlt:k<l.length
  ·obtain⟨g,off,rfl,hg,c0,c1,c2⟩:=(hrd.below hbw (Nat.le_refl _)).doms hlt
   have k0:(0:Int)≤(k:Int):=by omega
   have k1:(k:Int)<(l.length:Int):=by omega
   have heq:=oo l[k].x l[k].y l[k].d x y d
   have HS:=Lib.hid (show dEq l[k].x l[k].y l[k].d x y d=false→(⟨x,y,d⟩:Dom)∉l.take (k+1) by
    intro h hm
    rw[wH hlt]at hm
    rcases hm with hm |hm
    ·exact HNI.out hm
    ·have:=jE l[k] ⟨x,y,d⟩
     simp only at this
     rw[this]at h
     simp [←hm]at h)
   have HR:=Lib.hid (show dEq l[k].x l[k].y l[k].d x y d=true→decide ((0:Int)≤(k:Int))=mH l x y d by
    intro h
    have h2:=jE l[k] ⟨x,y,d⟩
    simp only at h2
    rw[h2]at h
    have h3:l[k]=⟨x,y,d⟩:=by simpa using h
    unfold mH;rw[←h3];simp)
   go_wp2
   go_quiet (fail)
   go_wp2
   all_goals first
    | (go_roundw;(case rel=>exact⟨k+1,by omega,by go_num,HS.out (by first |assumption |simp_all),by((repeat(first |with_reducible assumption |with_reducible refine bi ?_ (by with_reducible assumption) |with_reducible refine bh ?_ |with_reducible refine ba ?_ _ |(refine aE rfl ?_;with_reducible rfl) |(refine aE rfl ?_;simp;done) |with_reducible refine aZ ?_ _))),by((repeat(first |with_reducible assumption |with_reducible refine bi ?_ (by with_reducible assumption) |with_reducible refine bh ?_ |with_reducible refine ba ?_ _ |(refine aE rfl ?_;with_reducible rfl) |(refine aE rfl ?_;simp;done) |with_reducible refine aZ ?_ _))),by((repeat(first |with_reducible assumption |with_reducible refine bi ?_ (by with_reducible assumption) |with_reducible refine bh ?_ |with_reducible refine ba ?_ _ |(refine aE rfl ?_;with_reducible rfl) |(refine aE rfl ?_;simp;done) |with_reducible refine aZ ?_ _))),by((repeat(first |exact Below.refl _ _ |with_reducible assumption |refine Below.alloc0 ?_ _ |refine Below.step0 ?_ (by with_reducible assumption) |refine Below.step ?_ (by with_reducible assumption) ?_ |refine Below.alloc ?_ ?_ _ |refine Below.drew ?_ |refine bK ?_ _ |refine Below.setCell ?_ ?_ _))<;>(first |omega |exact hsz |exact Below.size (by with_reducible assumption) |(simp;done) |(simp;omega) |(simp at*;omega)))⟩);(case measure=>simp [intOf];omega))
    | (go_ret;exact⟨_,rfl,HR.out (by first |assumption |simp_all),by((repeat(first |exact Below.refl _ _ |with_reducible assumption |refine Below.alloc0 ?_ _ |refine Below.step0 ?_ (by with_reducible assumption) |refine Below.step ?_ (by with_reducible assumption) ?_ |refine Below.alloc ?_ ?_ _ |refine Below.drew ?_ |refine bK ?_ _ |refine Below.setCell ?_ ?_ _))<;>(first |omega |exact hsz |exact Below.size (by with_reducible assumption) |(simp;done) |(simp;omega) |(simp at*;omega)))⟩)
  ·obtain rfl:k=l.length:=by omega
   have HR:=Lib.hid (show mH l x y d=false by have:=HNI.out;rw[List.take_length]at this;unfold mH;simpa using this)
   go_wp2
   go_ret
   exact⟨-1,rfl,by rw[HR.out];rfl,hbw⟩
theorem si (x y:Int) (b:Bool) (h1:0≤x) (h2:x≤6) (h3:0≤y) (h4:y≤6) (w:World):
  Calls Tryz.prog 74 #[.agg #[.int .i64 x,.int .i64 y],.bool b] w fun e w'=>e= .returned (.tuple #[.agg #[.int .i64 x,.int .i64 y,.bool b],.agg #[.int .i64 (if b then x+1 else x),.int .i64 (if b then y else y+1),.bool b]])∧Below w.heap.size w w':=by
 have e1:IntKind.i64.wrap (x+1)=x+1:=IntWalk.i64_in _ (by omega)
 have e2:IntKind.i64.wrap (y+1)=y+1:=IntWalk.i64_in _ (by omega)
 cases b
 all_goals
  go_enter Tryz.func74,Tryz.ntmps74
  go_wp2
  go_region_held3 (fun w'=>w'.cell? ⟨w.heap.size,0,none⟩=some (.int .i64 x)∧w'.cell? ⟨w.heap.size,1,none⟩=some (.int .i64 y)) (go_keep) (fail)
  all_goals go_wp2
  all_goals exact bodyPost_ret (by simp [results,Tryz.results74,go_sem];rfl) rfl ⟨by simp,by((repeat(first |exact Below.refl _ _ |with_reducible assumption |refine Below.alloc0 ?_ _ |refine Below.step0 ?_ (by with_reducible assumption) |refine Below.step ?_ (by with_reducible assumption) ?_ |refine Below.alloc ?_ ?_ _ |refine Below.drew ?_ |refine bK ?_ _ |refine Below.setCell ?_ ?_ _))<;>(first |omega |exact hsz |exact Below.size (by with_reducible assumption) |(simp;done) |(simp;omega) |(simp at*;omega)))⟩
theorem Af {r:Int} {b:Bool} (h:decide (0≤r)=b):(0≤r→b=true)∧(r<0→b=false):=by
 subst h;exact⟨fun h=>by simp [h],fun h=>by simp;omega⟩
def bg (l:List Dom) (x y:Int):Int:=if(inB x 0 6&&inB y 0 6)then(if acB l x y then 1 else if dnB l x y then 2 else 0)else 0
theorem oO (l:List Dom) (x y:Int):decide (0<bg l x y)=gK l x y:=by
 unfold bg gK
 cases h:(inB x 0 6&&inB y 0 6)<;>cases h2:acB l x y<;>cases h3:dnB l x y<;>rfl
theorem sh (l:List Dom) (A:Option Addr) (n c:Nat) (x y:Int) (w:World) (hrd:Rd w 3 A n (dsl l)) (hl:n≤4194304):
  Calls Tryz.prog 73 #[.slice A n c,.agg #[.int .i64 x,.int .i64 y]] w fun e w'=>e= .returned (.int .i64 (bg l x y))∧Below w.heap.size w w':=by
 by_cases hin:(inB x 0 6&&inB y 0 6)=true
 ·have H:=Lib.hid (show bg l x y=if acB l x y then 1 else if dnB l x y then 2 else 0 by unfold bg;rw[if_pos hin])
  obtain⟨⟨h1,h2⟩,h3,h4⟩:=in66.1 hin
  have i1:inB x 0 6=true:=bw.2 ⟨h1,h2⟩
  have i2:inB y 0 6=true:=bw.2 ⟨h3,h4⟩
  clear hin
  go_enter Tryz.func73,Tryz.ntmps73
  go_wp2_with (go_at_call 38;refine(mO _ _ _ _).mono ?_;rintro e w2 ⟨rfl,rfl⟩)
  refine wp_loop_rounds 3 ?_
  rw[rounds_succ]
  go_wp2_with (first
   | (go_at_call 38;refine(mO _ _ _ _).mono ?_;rintro e w2 ⟨rfl,rfl⟩)
   | (go_at_call 74;refine(si _ _ _ h1 h2 h3 h4 _).mono ?_;rintro e w1 ⟨rfl,hb1⟩;have p0:w1.cell? ⟨w.heap.size,0,none⟩=some (.int .i64 x):=(by((repeat(first |with_reducible assumption |with_reducible refine bi ?_ (by with_reducible assumption) |with_reducible refine bh ?_ |with_reducible refine ba ?_ _ |(refine aE rfl ?_;with_reducible rfl) |(refine aE rfl ?_;simp;done) |with_reducible refine aZ ?_ _))));have p1:w1.cell? ⟨w.heap.size,1,none⟩=some (.int .i64 y):=(by((repeat(first |with_reducible assumption |with_reducible refine bi ?_ (by with_reducible assumption) |with_reducible refine bh ?_ |with_reducible refine ba ?_ _ |(refine aE rfl ?_;with_reducible rfl) |(refine aE rfl ?_;simp;done) |with_reducible refine aZ ?_ _)))))
   | (go_at_call 99;refine Calls.mono (An l _ _ _ _ _ _ _ ?_ hl) ?_;(((repeat(first |with_reducible assumption |with_reducible refine Rd.alloc ?_ _ |with_reducible refine Rd.step ?_ (by with_reducible assumption) |with_reducible refine Rd.drew ?_ |with_reducible refine Rd.drewN ?_ _ |with_reducible refine RdA.alloc ?_ _ |with_reducible refine RdA.step ?_ (by with_reducible assumption) |with_reducible refine RdA.drew ?_ |with_reducible refine RdA.drewN ?_ _))));rintro e w3 ⟨r,rfl,hr,hb3⟩;obtain⟨hc3,hf3,hs3⟩:=uA hb3;have HR:=Lib.hid (Af hr);clear hr;have p0:w3.cell? ⟨w.heap.size,0,none⟩=some (.int .i64 x):=(by((repeat(first |with_reducible assumption |with_reducible refine bi ?_ (by with_reducible assumption) |with_reducible refine bh ?_ |with_reducible refine ba ?_ _ |(refine aE rfl ?_;with_reducible rfl) |(refine aE rfl ?_;simp;done) |with_reducible refine aZ ?_ _))));have p1:w3.cell? ⟨w.heap.size,1,none⟩=some (.int .i64 y):=(by((repeat(first |with_reducible assumption |with_reducible refine bi ?_ (by with_reducible assumption) |with_reducible refine bh ?_ |with_reducible refine ba ?_ _ |(refine aE rfl ?_;with_reducible rfl) |(refine aE rfl ?_;simp;done) |with_reducible refine aZ ?_ _))))))
  any_goals (rw[rounds_succ];go_wp2_with (first
   | (go_at_call 38;refine(mO _ _ _ _).mono ?_;rintro e w2 ⟨rfl,rfl⟩)
   | (go_at_call 74;refine(si _ _ _ h1 h2 h3 h4 _).mono ?_;rintro e w1 ⟨rfl,hb1⟩;have p0:w1.cell? ⟨w.heap.size,0,none⟩=some (.int .i64 x):=(by((repeat(first |with_reducible assumption |with_reducible refine bi ?_ (by with_reducible assumption) |with_reducible refine bh ?_ |with_reducible refine ba ?_ _ |(refine aE rfl ?_;with_reducible rfl) |(refine aE rfl ?_;simp;done) |with_reducible refine aZ ?_ _))));have p1:w1.cell? ⟨w.heap.size,1,none⟩=some (.int .i64 y):=(by((repeat(first |with_reducible assumption |with_reducible refine bi ?_ (by with_reducible assumption) |with_reducible refine bh ?_ |with_reducible refine ba ?_ _ |(refine aE rfl ?_;with_reducible rfl) |(refine aE rfl ?_;simp;done) |with_reducible refine aZ ?_ _)))))
   | (go_at_call 99;refine Calls.mono (An l _ _ _ _ _ _ _ ?_ hl) ?_;(((repeat(first |with_reducible assumption |with_reducible refine Rd.alloc ?_ _ |with_reducible refine Rd.step ?_ (by with_reducible assumption) |with_reducible refine Rd.drew ?_ |with_reducible refine Rd.drewN ?_ _ |with_reducible refine RdA.alloc ?_ _ |with_reducible refine RdA.step ?_ (by with_reducible assumption) |with_reducible refine RdA.drew ?_ |with_reducible refine RdA.drewN ?_ _))));rintro e w3 ⟨r,rfl,hr,hb3⟩;obtain⟨hc3,hf3,hs3⟩:=uA hb3;have HR:=Lib.hid (Af hr);clear hr;have p0:w3.cell? ⟨w.heap.size,0,none⟩=some (.int .i64 x):=(by((repeat(first |with_reducible assumption |with_reducible refine bi ?_ (by with_reducible assumption) |with_reducible refine bh ?_ |with_reducible refine ba ?_ _ |(refine aE rfl ?_;with_reducible rfl) |(refine aE rfl ?_;simp;done) |with_reducible refine aZ ?_ _))));have p1:w3.cell? ⟨w.heap.size,1,none⟩=some (.int .i64 y):=(by((repeat(first |with_reducible assumption |with_reducible refine bi ?_ (by with_reducible assumption) |with_reducible refine bh ?_ |with_reducible refine ba ?_ _ |(refine aE rfl ?_;with_reducible rfl) |(refine aE rfl ?_;simp;done) |with_reducible refine aZ ?_ _)))))))
  any_goals (rw[rounds_succ];go_wp2)
  all_goals (go_ret;refine⟨rj ?_,by((repeat(first |exact Below.refl _ _ |with_reducible assumption |refine Below.alloc0 ?_ _ |refine Below.step0 ?_ (by with_reducible assumption) |refine Below.step ?_ (by with_reducible assumption) ?_ |refine Below.alloc ?_ ?_ _ |refine Below.drew ?_ |refine bK ?_ _ |refine Below.setCell ?_ ?_ _))<;>(first |omega |exact hsz |exact Below.size (by with_reducible assumption) |(simp;done) |(simp;omega) |(simp at*;omega)))⟩;rw[H.out];simp_all [Hid,acB,dnB])
 ·have H:=Lib.hid (show bg l x y=0 by unfold bg;rw[if_neg hin])
  have hcase:inB x 0 6=false∨(inB x 0 6=true∧inB y 0 6=false):=by
   revert hin;cases inB x 0 6<;>cases inB y 0 6<;>simp
  clear hin
  rcases hcase with i1 |⟨i1,i2⟩
  all_goals
   go_enter Tryz.func73,Tryz.ntmps73
   go_wp2_with (go_at_call 38;refine(mO _ _ _ _).mono ?_;rintro e w2 ⟨rfl,rfl⟩)
   go_ret
   exact⟨rj H.out.symm,by((repeat(first |exact Below.refl _ _ |with_reducible assumption |refine Below.alloc0 ?_ _ |refine Below.step0 ?_ (by with_reducible assumption) |refine Below.step ?_ (by with_reducible assumption) ?_ |refine Below.alloc ?_ ?_ _ |refine Below.drew ?_ |refine bK ?_ _ |refine Below.setCell ?_ ?_ _))<;>(first |omega |exact hsz |exact Below.size (by with_reducible assumption) |(simp;done) |(simp;omega) |(simp at*;omega)))⟩
end Go.Proofs.YtonlghbbdcddoaaGreat
namespace Go.Proofs.YtonlghbbdcddoaaGreat
open Go.ChangeShapes Go.WideShapes Go.ChangeAt Go.RowKit
set_option maxRecDepth 20000
def gH (i:Nat):Cel:=⟨((i%8:Nat):Int),((i/8:Nat):Int)⟩
theorem sY (i:Nat) (hi:i<64) (w:World):
  Calls Tryz.prog 72 #[.int .i64 (i:Int)] w fun e w'=>e= .returned (.tuple #[.agg #[.int .i64 (gH i).x,.int .i64 (gH i).y],.bool true])∧Below w.heap.size w w':=by
 have h:inB i 0 63=true:=bw.2 (by omega)
 go_enter Tryz.func72,Tryz.ntmps72
 go_wp2_with (go_at_call 38;refine(mO _ _ _ _).mono ?_;rintro e w2 ⟨rfl,rfl⟩)
 exact bodyPost_ret (v:= .tuple #[.agg #[.int .i64 (gH i).x,.int .i64 (gH i).y],.bool true]) (by simp [results,Tryz.results72,go_sem,gH]) rfl ⟨rfl,by((repeat(first |exact Below.refl _ _ |with_reducible assumption |refine Below.alloc0 ?_ _ |refine Below.step0 ?_ (by with_reducible assumption) |refine Below.step ?_ (by with_reducible assumption) ?_ |refine Below.alloc ?_ ?_ _ |refine Below.drew ?_ |refine bK ?_ _ |refine Below.setCell ?_ ?_ _))<;>(first |omega |exact hsz |exact Below.size (by with_reducible assumption) |(simp;done) |(simp;omega) |(simp at*;omega)))⟩
def canN (l:List Dom) (i:Nat):Bool:=gK l (gH i).x (gH i).y
def flN (l:List Dom) (k:Nat):List Cel:=((List.range k).filter (canN l)).map gH
theorem JI {l:List Dom} {k:Nat} (h:canN l k=true):flN l (k+1)=flN l k++[gH k]:=by
 unfold flN;rw[List.range_succ,List.filter_append,List.map_append];simp [h]
theorem MG {l:List Dom} {k:Nat} (h:canN l k=false):flN l (k+1)=flN l k:=by
 unfold flN;rw[List.range_succ,List.filter_append,List.map_append];simp [h]
theorem Dh (l:List Dom) (k:Nat):(flN l k).length≤k:=by
 unfold flN;rw[List.length_map];exact Nat.le_trans (List.length_filter_le _ _) (by simp)
def ch (l:List Dom):List Cel:=flN l 64
set_option maxHeartbeats 2000000 in
theorem yp (l:List Dom) (A:Option Addr) (n c:Nat) (w:World) (hrd:Rd w 3 A n (dsl l)) (hl:n≤4194304):
    Calls Tryz.prog 36 #[.slice A n c] w fun e w'=>∃ v,e= .returned v∧w'.ownsRow w.heap.size 67 2 v (ch l).length (csl (ch l))∧Below w.heap.size w w':=by
  obtain⟨i0,hi0,hz0,hz1,hz2⟩:=info_parts Hg
  have hown0:(w.alloc (.cells #[] 67)).ownsRow w.heap.size 67 2 (.slice (some ⟨w.heap.size,0,none⟩) 0 0) 0 []:=yW w 67 2 0 #[] rfl (Nat.zero_le _)
  have HO:=Lib.hid hown0
  clear hown0
  go_enter Tryz.func36,Tryz.ntmps36
  go_wp2
  go_loopw [3,4] (fun v i wr=>∃ (k:Nat),k≤64∧i= .int .i64 k∧wr.ownsRow w.heap.size 67 2 v (flN l k).length (csl (flN l k))∧Below w.heap.size w wr) (fun _ i _=>64-(intOf i).toNat)
  case atStart=>exact⟨0,by omega,rfl,by simpa [flN,csl] using HO.out,by((repeat(first |exact Below.refl _ _ |with_reducible assumption |refine Below.alloc0 ?_ _ |refine Below.step0 ?_ (by with_reducible assumption) |refine Below.step ?_ (by with_reducible assumption) ?_ |refine Below.alloc ?_ ?_ _ |refine Below.drew ?_ |refine bK ?_ _ |refine Below.setCell ?_ ?_ _))<;>(first |omega |exact hsz |exact Below.size (by with_reducible assumption) |(simp;done) |(simp;omega) |(simp at*;omega)))⟩
  case round=>
    obtain⟨k,hk,rfl,hown,hbw⟩:=hrel
    clear HO
    have hsz:=hbw.size
    have hln:=Dh l k
    by_cases hlt:k<64
    · by_cases hcan:canN l k=true
      · have HY:=Lib.hid (JI hcan)
        have hc2:decide (0<bg l (gH k).x (gH k).y)=true:=by rw[oO];exact hcan
        clear hcan
        go_wp2_with (first
          | (go_at_call 72;refine(sY _ hlt _).mono ?_;rintro e w1 ⟨rfl,hb1⟩)
          | (go_at_call 73;refine Calls.mono (sh l _ _ _ _ _ _ ?_ hl) ?_;(((repeat(first |with_reducible assumption |with_reducible refine Rd.alloc ?_ _ |with_reducible refine Rd.step ?_ (by with_reducible assumption) |with_reducible refine Rd.drew ?_ |with_reducible refine Rd.drewN ?_ _ |with_reducible refine RdA.alloc ?_ _ |with_reducible refine RdA.step ?_ (by with_reducible assumption) |with_reducible refine RdA.drew ?_ |with_reducible refine RdA.drewN ?_ _))));rintro e w2 ⟨rfl,hb2⟩;have q0:w2.cell? ⟨w1.heap.size,0,none⟩=some (.int .i64 (gH k).x):=(by((repeat(first |with_reducible assumption |with_reducible refine bi ?_ (by with_reducible assumption) |with_reducible refine bh ?_ |with_reducible refine ba ?_ _ |(refine aE rfl ?_;with_reducible rfl) |(refine aE rfl ?_;simp;done) |with_reducible refine aZ ?_ _))));have q1:w2.cell? ⟨w1.heap.size,1,none⟩=some (.int .i64 (gH k).y):=(by((repeat(first |with_reducible assumption |with_reducible refine bi ?_ (by with_reducible assumption) |with_reducible refine bh ?_ |with_reducible refine ba ?_ _ |(refine aE rfl ?_;with_reducible rfl) |(refine aE rfl ?_;simp;done) |with_reducible refine aZ ?_ _)))))
          | (at_builtin;refine wpList_append_own_at _ rfl (.tmp 21) (.tmp 23) 63 rfl w.heap.size 67 i0 (.agg #[.int .i64 0,.int .i64 0]) 2 16 Tryz.underlying63 hi0 hz0 hz1 hz2 rfl (by omega) u3 (flN l k).length (csl (flN l k)) rfl ?_ ⟨w2.heap.size,0,none⟩ 1 1 [.int .i64 (gH k).x,.int .i64 (gH k).y] rfl rfl ?_ ?_ ?_ ?_ ?_ ?_;(((repeat(first |with_reducible assumption |with_reducible refine dW ?_ _ |with_reducible refine gd ?_ (by with_reducible assumption) |with_reducible refine gb ?_ |with_reducible refine fp ?_ _))));(exact BC _ _ _ _);(simp [Value.oneCell']);(unfold maxLen;omega);omega;(((repeat(first |exact Nat.le_refl _ |with_reducible assumption |with_reducible refine Nat.le_trans ?_ (Below.size (by with_reducible assumption)) |with_reducible refine Nat.le_trans ?_ (er (by with_reducible assumption)) |with_reducible refine ew ?_ _ |with_reducible refine ez ?_ _ |with_reducible refine eO ?_))));intro v' w4 hown4 hgr4 _ hat4))
        go_roundw
        case rel=>
          refine⟨k+1,by omega,by go_num,?_,?_⟩
          · rw[HY.out,List.length_append,pR];exact hown4
          · refine fX ?_ hgr4 (fun j hj=>(hown.lt j hj).1) ?_
            · ((repeat(first |exact Below.refl _ _ |with_reducible assumption |refine Below.alloc0 ?_ _ |refine Below.step0 ?_ (by with_reducible assumption) |refine Below.step ?_ (by with_reducible assumption) ?_ |refine Below.alloc ?_ ?_ _ |refine Below.drew ?_ |refine bK ?_ _ |refine Below.setCell ?_ ?_ _))<;>(first |omega |exact hsz |exact Below.size (by with_reducible assumption) |(simp;done) |(simp;omega) |(simp at*;omega)))
            · ((repeat(first |exact Nat.le_refl _ |with_reducible assumption |with_reducible refine Nat.le_trans ?_ (Below.size (by with_reducible assumption)) |with_reducible refine Nat.le_trans ?_ (er (by with_reducible assumption)) |with_reducible refine ew ?_ _ |with_reducible refine ez ?_ _ |with_reducible refine eO ?_)))
        case measure=>simp [intOf];omega
      · have hc2:decide (0<bg l (gH k).x (gH k).y)=false:=by rw[oO];simpa [canN] using hcan
        have HY:=Lib.hid (MG (l:=l) (k:=k) (by simpa using hcan))
        clear hcan
        go_wp2_with (first
          | (go_at_call 72;refine(sY _ hlt _).mono ?_;rintro e w1 ⟨rfl,hb1⟩)
          | (go_at_call 73;refine Calls.mono (sh l _ _ _ _ _ _ ?_ hl) ?_;(((repeat(first |with_reducible assumption |with_reducible refine Rd.alloc ?_ _ |with_reducible refine Rd.step ?_ (by with_reducible assumption) |with_reducible refine Rd.drew ?_ |with_reducible refine Rd.drewN ?_ _ |with_reducible refine RdA.alloc ?_ _ |with_reducible refine RdA.step ?_ (by with_reducible assumption) |with_reducible refine RdA.drew ?_ |with_reducible refine RdA.drewN ?_ _))));rintro e w2 ⟨rfl,hb2⟩;have q0:w2.cell? ⟨w1.heap.size,0,none⟩=some (.int .i64 (gH k).x):=(by((repeat(first |with_reducible assumption |with_reducible refine bi ?_ (by with_reducible assumption) |with_reducible refine bh ?_ |with_reducible refine ba ?_ _ |(refine aE rfl ?_;with_reducible rfl) |(refine aE rfl ?_;simp;done) |with_reducible refine aZ ?_ _))));have q1:w2.cell? ⟨w1.heap.size,1,none⟩=some (.int .i64 (gH k).y):=(by((repeat(first |with_reducible assumption |with_reducible refine bi ?_ (by with_reducible assumption) |with_reducible refine bh ?_ |with_reducible refine ba ?_ _ |(refine aE rfl ?_;with_reducible rfl) |(refine aE rfl ?_;simp;done) |with_reducible refine aZ ?_ _))))))
        go_roundw
        case rel=>
          refine⟨k+1,by omega,by go_num,?_,?_⟩
          · rw[HY.out];((repeat(first |with_reducible assumption |with_reducible refine dW ?_ _ |with_reducible refine gd ?_ (by with_reducible assumption) |with_reducible refine gb ?_ |with_reducible refine fp ?_ _)))
          · ((repeat(first |exact Below.refl _ _ |with_reducible assumption |refine Below.alloc0 ?_ _ |refine Below.step0 ?_ (by with_reducible assumption) |refine Below.step ?_ (by with_reducible assumption) ?_ |refine Below.alloc ?_ ?_ _ |refine Below.drew ?_ |refine bK ?_ _ |refine Below.setCell ?_ ?_ _))<;>(first |omega |exact hsz |exact Below.size (by with_reducible assumption) |(simp;done) |(simp;omega) |(simp at*;omega)))
        case measure=>simp [intOf];omega
    · obtain rfl:k=64:=by omega
      go_wp2
      go_ret
      exact⟨_,rfl,hown,hbw⟩
end Go.Proofs.YtonlghbbdcddoaaGreat
