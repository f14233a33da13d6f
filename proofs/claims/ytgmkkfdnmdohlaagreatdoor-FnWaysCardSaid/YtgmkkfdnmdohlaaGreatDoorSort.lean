
import Derived.Test.YtgmkkfdnmdohlaaGreatDoorDoms
import Derived.Test.YtgmkkfdnmdohlaaGreatDoorSortM
import Derived.Test.YtgmkkfdnmdohlaaGreatDoorCopy
import Derived.Deep.DeepMust
set_option linter.unusedSimpArgs false
set_option linter.unusedVariables false
set_option maxHeartbeats 4000000
namespace Go.Proofs.YtgmkkfdnmdohlaaGreatDoor
open Go.ChangeShapes Go.WideShapes Go.ChangeAt Go.RowKit
set_option maxRecDepth 20000
def sV (x y:Int) (d:Bool):Int:=2*(y*8+x)+(if d then 1 else 0)
theorem uc (x y:Int) (h:okc x y=true) (w:World):
  Calls Tryz.prog 118 #[.agg #[.int .i64 x,.int .i64 y]] w fun e w'=>e= .returned (.int .i64 (y*8+x))∧Below w.heap.size w w':=by
 obtain⟨⟨h1,h2⟩,h3,h4⟩:=bL.1 h
 go_enter Tryz.func118,Tryz.ntmps118
 go_wp2_with (go_at_call 112;refine(lN _ _ _).mono ?_;rintro e w2 ⟨rfl,hb2⟩;obtain⟨hc2,hf2,hs2⟩:=qN hb2)
 go_ret
 exact⟨rU rfl,by((repeat(first |exact Below.refl _ _ |with_reducible assumption |refine Below.alloc0 ?_ _ |refine Below.step0 ?_ (by with_reducible assumption) |refine Below.step ?_ (by with_reducible assumption) ?_ |refine Below.alloc ?_ ?_ _ |refine Below.drew ?_ |refine bb ?_ _ |refine Below.setCell ?_ ?_ _))<;>(first |omega |exact hsz |exact Below.size (by with_reducible assumption) |(simp;done) |(simp;omega) |(simp at*;omega)))⟩
theorem mR (x y:Int) (d:Bool) (h:okc x y=true) (w:World):
  Calls Tryz.prog 97 #[.agg #[.int .i64 x,.int .i64 y,.bool d]] w fun e w'=>e= .returned (.int .i64 (sV x y d))∧Below w.heap.size w w':=by
 obtain⟨⟨h1,h2⟩,h3,h4⟩:=bL.1 h
 cases d
 all_goals
  go_enter Tryz.func97,Tryz.ntmps97
  go_wp2_with (go_at_call 118;refine(uc _ _ h _).mono ?_;rintro e w2 ⟨rfl,hb2⟩;obtain⟨hc2,hf2,hs2⟩:=qN hb2)
  go_ret
  exact⟨rU (by simp [sV]),by((repeat(first |exact Below.refl _ _ |with_reducible assumption |refine Below.alloc0 ?_ _ |refine Below.step0 ?_ (by with_reducible assumption) |refine Below.step ?_ (by with_reducible assumption) ?_ |refine Below.alloc ?_ ?_ _ |refine Below.drew ?_ |refine bb ?_ _ |refine Below.setCell ?_ ?_ _))<;>(first |omega |exact hsz |exact Below.size (by with_reducible assumption) |(simp;done) |(simp;omega) |(simp at*;omega)))⟩
def cG (l:List Dom):List Dom:=fO Dom.ok l
theorem oZ (d:Dom) (h:d.ok=true):d.valid:=by
 have:=km.1 h
 unfold Dom.valid
 cases hd:d.d<;>simp [hd]at this<;>omega
theorem Kg {d:Dom} (h:d.ok=true):okc d.x d.y=true:=by
 unfold Dom.ok okd at h
 rw[Bool.and_eq_true]at h
 exact h.1
theorem CT {d:Dom} (h:d.valid):okc d.x d.y=true:=bL.2 (by unfold Dom.valid at h;omega)
theorem rO (d:Dom):sV d.x d.y d.d=d.ord:=by unfold sV Dom.ord;omega
theorem uJ (out:List Dom) (M:Nat) (hM:M≤out.length):
  (dsl out++[Value.int .i64 0,.int .i64 0,.bool false]).take ((M+1)*3)++dsl (out.drop M)++(dsl out++[Value.int .i64 0,.int .i64 0,.bool false]).drop ((M+1)*3+(dsl (out.drop M)).length)=dsl ((out++[dom0]).take (M+1)++out.drop M):=by
 have e:dsl out++[Value.int .i64 0,.int .i64 0,.bool false]=dsl (out++[dom0]):=by rw[dv];rfl
 rw[e,oJ]
 have hd:(dsl (out++[dom0])).drop ((M+1)*3+(dsl (out.drop M)).length)=[]:=List.drop_eq_nil_of_le (by rw[cc,cc];simp;omega)
 rw[hd,List.append_nil,←dv]
theorem Au (out:List Dom) (d:Dom) (M:Nat) (hM:M≤out.length):((out++[dom0]).take (M+1)++out.drop M).set M d=out.take M++d::out.drop M:=by
 rw[List.set_append_left _ _ (by simp;omega)]
 have h1:(out++[dom0]).take (M+1)=out.take M++[(out++[dom0])[M]'(by simp;omega)]:=by
  rw[List.take_succ_eq_append_getElem (by simp;omega),List.take_append_of_le_length hM]
 rw[h1,List.set_append_right _ _ (by simp;omega)]
 have:M-(out.take M).length=0:=by rw[List.length_take];omega
 rw[this];simp
theorem Dt (out:List Dom) (M:Nat) (h:M≤out.length) {L1 L2:Nat} (h1:L1=out.length+1-(M+1)) (h2:L2=out.length+1-M):(dsl (out.drop M)).length=Nat.min L2 L1*3:=by
 subst h1;subst h2
 rw[cc,List.length_drop];congr 1;exact((Nat.min_eq_right (by omega)).trans (by omega)).symm
theorem xb (out:List Dom) (M:Nat) (h:M≤out.length):(M+1)*3+(dsl (out.drop M)).length≤(out.length+1)*3:=by
 rw[cc,List.length_drop];omega
theorem xd (out:List Dom) (M:Nat) (h:M≤out.length) {w:World} {B e c g:Nat} {D1 D2:Option Addr} {ys:List Value} (hc:out.length+1≤c) (h1:c≠M+1→D1=(some (⟨g,0,none⟩:Addr)).map (·.add ((M+1)*3))) (h2:c≠M→D2=(some (⟨g,0,none⟩:Addr)).map (·.add (M*3)))
    (hown:w.ownsRow B e 3 (.slice (some ⟨g,0,none⟩) (out.length+1) c) (out.length+1) (dsl out++ys)):
    0<(dsl (out.drop M)).length→D1=some ⟨g,(M+1)*3,none⟩∧∃ ad,D2=some ad∧∀ j v,(dsl (out.drop M))[j]? =some v→w.cell? (ad.add j)=some v:=by
  intro hp
  rw[cc,List.length_drop]at hp
  have e1:=h1 (by omega)
  have e2:=h2 (by omega)
  have hadd:∀ j,(⟨g,0,none⟩:Addr).add j=⟨g,j,none⟩:=by intro j;unfold Addr.add;split<;>simp_all
  refine⟨by rw[e1];simp [hadd],_,by rw[e2];rfl,fun j v hv=> ?_⟩
  rw[nK]
  refine hown.cells rfl (M*3+j) v ?_
  rw[←sv,List.getElem?_drop]at hv
  rw[List.getElem?_append_left]
  · exact hv
  · rcases Nat.lt_or_ge (M*3+j) (dsl out).length with h |h
    · exact h
    · rw[List.getElem?_eq_none h]at hv;cases hv
theorem pE (l:List Dom) (A:Option Addr) (n c:Nat) (w:World) (hrd:Rd w 3 A n (dsl l)) (hl:n≤4194304):
  Calls Tryz.prog 74 #[.slice A n c] w fun e w'=>∃ v,e= .returned v∧w'.ownsRow w.heap.size 62 3 v (cG l).length (dsl (cG l))∧Below w.heap.size w w':=by
 obtain rfl:=hrd.len3
 obtain⟨i0,hi0,hz0,hz1,hz2⟩:=info_parts xF
 have hown0:(w.alloc (.cells #[] 62)).ownsRow w.heap.size 62 3 (.slice (some ⟨w.heap.size,0,none⟩) 0 0) 0 []:=rQ w 62 3 0 #[] rfl (Nat.zero_le _)
 have HO:=Lib.hid hown0
 clear hown0
 go_enter Tryz.func74,Tryz.ntmps74
 go_wp2
 go_loopw [3,5,6,10] (fun v _ _ i wr=>∃ (k:Nat),k≤l.length∧i= .int .i64 k∧wr.ownsRow w.heap.size 62 3 v (cG (l.take k)).length (dsl (cG (l.take k)))∧Below w.heap.size w wr) (fun _ _ _ i _=>l.length-(intOf i).toNat)
 case atStart=>exact⟨0,by omega,rfl,by simpa [cG,fO,dsl] using HO.out,by((repeat(first |exact Below.refl _ _ |with_reducible assumption |refine Below.alloc0 ?_ _ |refine Below.step0 ?_ (by with_reducible assumption) |refine Below.step ?_ (by with_reducible assumption) ?_ |refine Below.alloc ?_ ?_ _ |refine Below.drew ?_ |refine bb ?_ _ |refine Below.setCell ?_ ?_ _))<;>(first |omega |exact hsz |exact Below.size (by with_reducible assumption) |(simp;done) |(simp;omega) |(simp at*;omega)))⟩
 case round=>
  obtain⟨k,hk,rfl,hown,hbw⟩:=hrel
  clear HO
  have hsz:=hbw.size
  have hln:(cG (l.take k)).length≤k:=Nat.le_trans (ol _) (by simp;omega)
  by_cases hlt:k<l.length
  ·obtain⟨g,off,rfl,hg,c0,c1,c2⟩:=(hrd.below hbw (Nat.le_refl _)).doms hlt
   have ht:decide ((k:Int)<(l.length:Int))=true:=by simp;omega
   have ht2:decide (k<l.length)=true:=by simp;omega
   by_cases hok:l[k].ok=true
   ·have hok2:okd l[k].x l[k].y l[k].d=true:=hok
    obtain⟨A3,c3,hv3⟩:=ko hown
    subst hv3
    have HY:=Lib.hid (show cG (l.take (k+1))=ig (cG (l.take k)) l[k] from tK hlt hok)
    obtain⟨hss,hval⟩:=qE oZ (l.take k)
    have HSS:=Lib.hid (show SS (cG (l.take k)) from hss)
    have HVAL:=Lib.hid (show ∀ e∈cG (l.take k),e.valid from hval)
    clear hss hval
    have hkc:=Kg hok
    clear hok
    generalize cG (l.take k)=out at HY HSS HVAL hown hln
    generalize l[k]=d at HY hok2 hkc c0 c1 c2
    go_wp2_with (go_at_call 92;refine(jT _ _ _ _).mono ?_;rintro e w1 ⟨rfl,hb1⟩;have q0:w1.cell? ⟨wr.heap.size,0,none⟩=some (.int .i64 d.x):=(by((repeat(first |with_reducible assumption |with_reducible refine aH ?_ (by with_reducible assumption) |with_reducible refine aD ?_ |with_reducible refine az ?_ _ |(refine ai rfl ?_;with_reducible rfl) |(refine ai rfl ?_;simp;done) |with_reducible refine aw ?_ _))));have q1:w1.cell? ⟨wr.heap.size,1,none⟩=some (.int .i64 d.y):=(by((repeat(first |with_reducible assumption |with_reducible refine aH ?_ (by with_reducible assumption) |with_reducible refine aD ?_ |with_reducible refine az ?_ _ |(refine ai rfl ?_;with_reducible rfl) |(refine ai rfl ?_;simp;done) |with_reducible refine aw ?_ _))));have q2:w1.cell? ⟨wr.heap.size,2,none⟩=some (.bool d.d):=(by((repeat(first |with_reducible assumption |with_reducible refine aH ?_ (by with_reducible assumption) |with_reducible refine aD ?_ |with_reducible refine az ?_ _ |(refine ai rfl ?_;with_reducible rfl) |(refine ai rfl ?_;simp;done) |with_reducible refine aw ?_ _)))))
    obtain⟨wo,rfl⟩:∃ wo:World,wo=wr:=⟨_,rfl⟩
    go_loopw [6] (fun j wi=>∃ m:Nat,m≤out.length∧j= .int .i64 m∧(∀ e∈out.drop m,d.ord<e.ord)∧Below w1.heap.size w1 wi) (fun j _=>(intOf j).toNat)
    case atStart=>exact⟨out.length,Nat.le_refl _,by go_num,by simp,Below.refl _ _⟩
    case round=>
     obtain⟨m,hm,rfl,hgt,hbi⟩:=hrel
     have hown1:wr.ownsRow w.heap.size 62 3 (.slice A3 out.length c3) out.length (dsl out):=by((repeat(first |with_reducible assumption |with_reducible refine cr ?_ _ |with_reducible refine dB ?_ (by with_reducible assumption) |with_reducible refine cF ?_ |with_reducible refine cP ?_ _)))
     have q0':wr.cell? ⟨wo.heap.size,0,none⟩=some (.int .i64 d.x):=by((repeat(first |with_reducible assumption |with_reducible refine aH ?_ (by with_reducible assumption) |with_reducible refine aD ?_ |with_reducible refine az ?_ _ |(refine ai rfl ?_;with_reducible rfl) |(refine ai rfl ?_;simp;done) |with_reducible refine aw ?_ _)))
     have q1':wr.cell? ⟨wo.heap.size,1,none⟩=some (.int .i64 d.y):=by((repeat(first |with_reducible assumption |with_reducible refine aH ?_ (by with_reducible assumption) |with_reducible refine aD ?_ |with_reducible refine az ?_ _ |(refine ai rfl ?_;with_reducible rfl) |(refine ai rfl ?_;simp;done) |with_reducible refine aw ?_ _)))
     have q2':wr.cell? ⟨wo.heap.size,2,none⟩=some (.bool d.d):=by((repeat(first |with_reducible assumption |with_reducible refine aH ?_ (by with_reducible assumption) |with_reducible refine aD ?_ |with_reducible refine az ?_ _ |(refine ai rfl ?_;with_reducible rfl) |(refine ai rfl ?_;simp;done) |with_reducible refine aw ?_ _)))
     have hbw1:Below w.heap.size w wr:=by((repeat(first |exact Below.refl _ _ |with_reducible assumption |refine Below.alloc0 ?_ _ |refine Below.step0 ?_ (by with_reducible assumption) |refine Below.step ?_ (by with_reducible assumption) ?_ |refine Below.alloc ?_ ?_ _ |refine Below.drew ?_ |refine bb ?_ _ |refine Below.setCell ?_ ?_ _))<;>(first |omega |exact hsz |exact Below.size (by with_reducible assumption) |(simp;done) |(simp;omega) |(simp at*;omega)))
     have HGT:=Lib.hid hgt
     clear hgt
     have hln2:out.length≤4194304:=by omega
     rcases m with _ |m
     ·have ht:decide ((0:Int)<((0:Nat):Int))=false:=by simp
      have HINS:=Lib.hid (rL (k:=0) (by simp) HGT.out)
      have x0:=q0'
      go_wp2
      go_quiet (fail)
      go_wp2
      go_quiet (fail)
      have htn:0≤out.length:=by omega
      go_wp2_with (at_builtin;go_must (refine wpList_append_own_at _ rfl (.tmp 45) (.tmp 47) 31 rfl w.heap.size 62 i0 (.agg #[.int .i64 0,.int .i64 0,.bool false]) 3 24 Tryz.underlying31 hi0 hz0 hz1 hz2 rfl (by omega) (.slice A3 out.length c3) out.length (dsl out) rfl ?_ ⟨wr.heap.size,0,none⟩ 1 1 [.int .i64 0,.int .i64 0,.bool false] rfl rfl ?_ ?_ ?_ ?_ ?_ ?_);go_must ((((repeat(first |with_reducible assumption |with_reducible refine cr ?_ _ |with_reducible refine dB ?_ (by with_reducible assumption) |with_reducible refine cF ?_ |with_reducible refine cP ?_ _)))));go_must (exact sm _ _ _ _ _);go_must (simp [Value.oneCell']);go_must (unfold maxLen;omega);go_must (omega);go_must (((repeat(first |exact Nat.le_refl _ |with_reducible assumption |with_reducible refine Nat.le_trans ?_ (Below.size (by with_reducible assumption)) |with_reducible refine Nat.le_trans ?_ (ck (by with_reducible assumption)) |with_reducible refine co ?_ _ |with_reducible refine cp ?_ _ |with_reducible refine cB ?_))));intro v' w4 hown4 hgr4 _ hat4;obtain⟨A5,c5,hv5,_,hc5,hc5'⟩:=me hown4;subst hv5;obtain⟨g5,hA5,hg51,hg52⟩:=xU hown4 (by omega);subst hA5)
      have hne1:(Value.slice A3 out.length c3).ownBlock≠some wo.heap.size:=Fz hown (Nat.le_refl _)
      have hgne:g5≠wo.heap.size:=by
       rcases hat4 with h |h
       ·intro e;subst e;exact hne1 h.symm
       ·have h':g5=wr.heap.size+1:=by simpa [Value.ownBlock] using h
        have:=ka x0
        omega
      have y0:w4.cell? ⟨wo.heap.size,0,none⟩=some (.int .i64 d.x):=cj (by((repeat(first |with_reducible assumption |with_reducible refine aH ?_ (by with_reducible assumption) |with_reducible refine aD ?_ |with_reducible refine az ?_ _ |(refine ai rfl ?_;with_reducible rfl) |(refine ai rfl ?_;simp;done) |with_reducible refine aw ?_ _)))) hgr4 hne1
      have y1:w4.cell? ⟨wo.heap.size,1,none⟩=some (.int .i64 d.y):=cj (by((repeat(first |with_reducible assumption |with_reducible refine aH ?_ (by with_reducible assumption) |with_reducible refine aD ?_ |with_reducible refine az ?_ _ |(refine ai rfl ?_;with_reducible rfl) |(refine ai rfl ?_;simp;done) |with_reducible refine aw ?_ _)))) hgr4 hne1
      have y2:w4.cell? ⟨wo.heap.size,2,none⟩=some (.bool d.d):=cj (by((repeat(first |with_reducible assumption |with_reducible refine aH ?_ (by with_reducible assumption) |with_reducible refine aD ?_ |with_reducible refine az ?_ _ |(refine ai rfl ?_;with_reducible rfl) |(refine ai rfl ?_;simp;done) |with_reducible refine aw ?_ _)))) hgr4 hne1
      have hbw4:=Lib.hid (dc (B:=w.heap.size) (a:=w) (by((repeat(first |exact Below.refl _ _ |with_reducible assumption |refine Below.alloc0 ?_ _ |refine Below.step0 ?_ (by with_reducible assumption) |refine Below.step ?_ (by with_reducible assumption) ?_ |refine Below.alloc ?_ ?_ _ |refine Below.drew ?_ |refine bb ?_ _ |refine Below.setCell ?_ ?_ _))<;>(first |omega |exact hsz |exact Below.size (by with_reducible assumption) |(simp;done) |(simp;omega) |(simp at*;omega)))) hgr4 (fun j hj=>(hown.lt j hj).1) (by((repeat(first |exact Nat.le_refl _ |with_reducible assumption |with_reducible refine Nat.le_trans ?_ (Below.size (by with_reducible assumption)) |with_reducible refine Nat.le_trans ?_ (ck (by with_reducible assumption)) |with_reducible refine co ?_ _ |with_reducible refine cp ?_ _ |with_reducible refine cB ?_)))))
      clear hat4 hgr4 hne1
      obtain⟨D1,L1,C1,hD1,hcut1⟩:=kb Tryz.prog 31 62 3 Tryz.underlying31 (by rw[hi0];simp [hz1]) (some ⟨g5,0,none⟩) (out.length+1) c5 (0+1) 1 (by omega) (by omega)
      obtain⟨D2,L2,C2,hD2,hcut2⟩:=kb Tryz.prog 31 62 3 Tryz.underlying31 (by rw[hi0];simp [hz1]) (some ⟨g5,0,none⟩) (out.length+1) c5 (0) 0 (by omega) (by omega)
      have HD1:=Lib.hid hD1
      have HD2:=Lib.hid hD2
      have HO4:=Lib.hid hown4
      clear hD1 hD2 hown4
      have hwr:IntKind.i64.wrap (1)=1:=IntWalk.i64_in _ (by omega)
      go_region_law ((go_must (refine mz rfl (.tmp 52) (.tmp 55) 31 31 rfl 62 3 Tryz.underlying31 (by rw[hi0];simp [hz1]) D1 D2 L1 C1 L2 C2 (by simp [Act.eval,Act.put]) (by simp [Act.eval,Act.put]) w.heap.size 62 (out.length+1) c5 g5 (dsl out++[.int .i64 0,.int .i64 0,.bool false]) (cF HO4.out) (((0)+1)*3) (dsl (out.drop (0))) (Dt _ _ htn HD1.out.2.1 HD2.out.2.1) (xd _ _ htn hc5 HD1.out.1 HD2.out.1 (cF HO4.out)) (by omega) (xb _ _ htn) (jG _) ?_);intro w5 hown5 hgr5;have hne5:(some g5:Option Nat)≠some wo.heap.size:=(fun e=>hgne (Option.some.inj e));have z0:=cj (aD y0) hgr5 hne5;have z1:=cj (aD y1) hgr5 hne5;have z2:=cj (aD y2) hgr5 hne5;have hb5:=Lib.hid (dc (B:=w.heap.size) (a:=w) (Below.drew hbw4.out) hgr5 (fun j hj=>by injection hj with hj;omega) (by((repeat(first |exact Nat.le_refl _ |with_reducible assumption |with_reducible refine Nat.le_trans ?_ (Below.size (by with_reducible assumption)) |with_reducible refine Nat.le_trans ?_ (ck (by with_reducible assumption)) |with_reducible refine co ?_ _ |with_reducible refine cp ?_ _ |with_reducible refine cB ?_)));exact hbw4.out.size));obtain⟨dd,e0,e1,e2,f0,f1,f2,hst⟩:=sW (mS hown5 (uJ _ _ htn)) (k:=(0)) (by simp;omega);have HST:=Lib.hid (hst d.x d.y d.d);clear hst hown5 hgr5))
      all_goals
       have g0:(0:Int)≤0:=by omega
       have g1:0<(out.length:Int)+1:=by omega
       go_wp2
       go_roundw
       case rel=>
        refine⟨k+1,by omega,by go_num,?_,((hb5.out.setCell hg51 _).setCell hg51 _).setCell hg51 _⟩
        have hfin:=HST.out
        rw[Au _ _ _ htn]at hfin
        rw[HY.out,HINS.out]
        refine pa hfin ?_
        first |(simp;done) |(simp;omega)
       case measure=>simp [intOf];omega
     ·have hm':m<out.length:=by omega
      obtain⟨g3,off3,rfl,hg3,d0,d1,d2⟩:=(nV hown1).doms hm'
      have hkc3:=CT (HVAL.out _ (List.getElem_mem hm'))
      have HO1:=Lib.hid (rO out[m])
      have HO2:=Lib.hid (rO d)
      have ht:decide ((0:Int)<((m+1:Nat):Int))=true:=by simp
      have ht':decide (0<m+1)=true:=by simp
      have z0:(0:Int)≤(m:Int):=by omega
      have z1:(m:Int)<(out.length:Int):=by omega
      have z2:IntKind.i64.wrap ((m:Int)+1-1)=m:=by rw[IntKind.wrap_i64];omega
      have z4:IntKind.i64.wrap (m:Int)=m:=by rw[IntKind.wrap_i64];omega
      have z3:IntKind.i64.wrap (((m+1:Nat):Int)-1)=m:=by rw[IntKind.wrap_i64];omega
      by_cases hcmp:d.ord<out[m].ord
      ·have HGT2:=Lib.hid (Ae HSS.out hm' hcmp)
       have hc1:decide (sV d.x d.y d.d<sV out[m].x out[m].y out[m].d)=true:=by rw[HO1.out,HO2.out];simpa using hcmp
       go_wp2
       go_region_held3 (fun w'=>w'.cell? ⟨wo.heap.size,0,none⟩=some (.int .i64 d.x)∧w'.cell? ⟨wo.heap.size,1,none⟩=some (.int .i64 d.y)∧w'.cell? ⟨wo.heap.size,2,none⟩=some (.bool d.d)∧w'.cell? ⟨g3,off3+m*3,none⟩=some (.int .i64 out[m].x)∧w'.cell? ⟨g3,off3+m*3+1,none⟩=some (.int .i64 out[m].y)∧w'.cell? ⟨g3,off3+m*3+2,none⟩=some (.bool out[m].d)) (go_keep) (((first |(go_at_call 97;with_reducible refine(mR _ _ _ hkc3 _).mono ?_) |(go_at_call 97;with_reducible refine(mR _ _ _ hkc _).mono ?_));rintro e w2 ⟨rfl,hb2⟩;have x0:w2.cell? ⟨wo.heap.size,0,none⟩=some (.int .i64 d.x):=(by((repeat(first |with_reducible assumption |with_reducible refine aH ?_ (by with_reducible assumption) |with_reducible refine aD ?_ |with_reducible refine az ?_ _ |(refine ai rfl ?_;with_reducible rfl) |(refine ai rfl ?_;simp;done) |with_reducible refine aw ?_ _))));have x1:w2.cell? ⟨wo.heap.size,1,none⟩=some (.int .i64 d.y):=(by((repeat(first |with_reducible assumption |with_reducible refine aH ?_ (by with_reducible assumption) |with_reducible refine aD ?_ |with_reducible refine az ?_ _ |(refine ai rfl ?_;with_reducible rfl) |(refine ai rfl ?_;simp;done) |with_reducible refine aw ?_ _))));have x2:w2.cell? ⟨wo.heap.size,2,none⟩=some (.bool d.d):=(by((repeat(first |with_reducible assumption |with_reducible refine aH ?_ (by with_reducible assumption) |with_reducible refine aD ?_ |with_reducible refine az ?_ _ |(refine ai rfl ?_;with_reducible rfl) |(refine ai rfl ?_;simp;done) |with_reducible refine aw ?_ _))));have x3:w2.cell? ⟨g3,off3+m*3,none⟩=some (.int .i64 out[m].x):=(by((repeat(first |with_reducible assumption |with_reducible refine aH ?_ (by with_reducible assumption) |with_reducible refine aD ?_ |with_reducible refine az ?_ _ |(refine ai rfl ?_;with_reducible rfl) |(refine ai rfl ?_;simp;done) |with_reducible refine aw ?_ _))));have x4:w2.cell? ⟨g3,off3+m*3+1,none⟩=some (.int .i64 out[m].y):=(by((repeat(first |with_reducible assumption |with_reducible refine aH ?_ (by with_reducible assumption) |with_reducible refine aD ?_ |with_reducible refine az ?_ _ |(refine ai rfl ?_;with_reducible rfl) |(refine ai rfl ?_;simp;done) |with_reducible refine aw ?_ _))));have x5:w2.cell? ⟨g3,off3+m*3+2,none⟩=some (.bool out[m].d):=(by((repeat(first |with_reducible assumption |with_reducible refine aH ?_ (by with_reducible assumption) |with_reducible refine aD ?_ |with_reducible refine az ?_ _ |(refine ai rfl ?_;with_reducible rfl) |(refine ai rfl ?_;simp;done) |with_reducible refine aw ?_ _))))))
       all_goals
        go_wp2
        go_roundw
        case rel=>exact⟨m,by omega,by go_num,HGT2.out,by((repeat(first |exact Below.refl _ _ |with_reducible assumption |refine Below.alloc0 ?_ _ |refine Below.step0 ?_ (by with_reducible assumption) |refine Below.step ?_ (by with_reducible assumption) ?_ |refine Below.alloc ?_ ?_ _ |refine Below.drew ?_ |refine bb ?_ _ |refine Below.setCell ?_ ?_ _))<;>(first |omega |exact hsz |exact Below.size (by with_reducible assumption) |(simp;done) |(simp;omega) |(simp at*;omega)))⟩
        case measure=>simp [intOf]
      ·have hc1:decide (sV d.x d.y d.d<sV out[m].x out[m].y out[m].d)=false:=by rw[HO1.out,HO2.out];simpa using hcmp
       by_cases heq:out[m]=d
       ·have HSAME:=Lib.hid (uH (k:=m) (d:=d) (by rw[←heq];exact FM HSS.out hm') hm' heq (by rw[←heq];exact xn HSS.out hm'))
        have hrun:=ga out[m].x out[m].y out[m].d d.x d.y d.d
        have hdq:dEq out[m].x out[m].y out[m].d d.x d.y d.d=true:=by rw[em];simpa using heq
        clear heq hcmp
        go_wp2
        go_region_held3 (fun w'=>w'.cell? ⟨wo.heap.size,0,none⟩=some (.int .i64 d.x)∧w'.cell? ⟨wo.heap.size,1,none⟩=some (.int .i64 d.y)∧w'.cell? ⟨wo.heap.size,2,none⟩=some (.bool d.d)∧w'.cell? ⟨g3,off3+m*3,none⟩=some (.int .i64 out[m].x)∧w'.cell? ⟨g3,off3+m*3+1,none⟩=some (.int .i64 out[m].y)∧w'.cell? ⟨g3,off3+m*3+2,none⟩=some (.bool out[m].d)) (go_keep) (((first |(go_at_call 97;with_reducible refine(mR _ _ _ hkc3 _).mono ?_) |(go_at_call 97;with_reducible refine(mR _ _ _ hkc _).mono ?_));rintro e w2 ⟨rfl,hb2⟩;have x0:w2.cell? ⟨wo.heap.size,0,none⟩=some (.int .i64 d.x):=(by((repeat(first |with_reducible assumption |with_reducible refine aH ?_ (by with_reducible assumption) |with_reducible refine aD ?_ |with_reducible refine az ?_ _ |(refine ai rfl ?_;with_reducible rfl) |(refine ai rfl ?_;simp;done) |with_reducible refine aw ?_ _))));have x1:w2.cell? ⟨wo.heap.size,1,none⟩=some (.int .i64 d.y):=(by((repeat(first |with_reducible assumption |with_reducible refine aH ?_ (by with_reducible assumption) |with_reducible refine aD ?_ |with_reducible refine az ?_ _ |(refine ai rfl ?_;with_reducible rfl) |(refine ai rfl ?_;simp;done) |with_reducible refine aw ?_ _))));have x2:w2.cell? ⟨wo.heap.size,2,none⟩=some (.bool d.d):=(by((repeat(first |with_reducible assumption |with_reducible refine aH ?_ (by with_reducible assumption) |with_reducible refine aD ?_ |with_reducible refine az ?_ _ |(refine ai rfl ?_;with_reducible rfl) |(refine ai rfl ?_;simp;done) |with_reducible refine aw ?_ _))));have x3:w2.cell? ⟨g3,off3+m*3,none⟩=some (.int .i64 out[m].x):=(by((repeat(first |with_reducible assumption |with_reducible refine aH ?_ (by with_reducible assumption) |with_reducible refine aD ?_ |with_reducible refine az ?_ _ |(refine ai rfl ?_;with_reducible rfl) |(refine ai rfl ?_;simp;done) |with_reducible refine aw ?_ _))));have x4:w2.cell? ⟨g3,off3+m*3+1,none⟩=some (.int .i64 out[m].y):=(by((repeat(first |with_reducible assumption |with_reducible refine aH ?_ (by with_reducible assumption) |with_reducible refine aD ?_ |with_reducible refine az ?_ _ |(refine ai rfl ?_;with_reducible rfl) |(refine ai rfl ?_;simp;done) |with_reducible refine aw ?_ _))));have x5:w2.cell? ⟨g3,off3+m*3+2,none⟩=some (.bool out[m].d):=(by((repeat(first |with_reducible assumption |with_reducible refine aH ?_ (by with_reducible assumption) |with_reducible refine aD ?_ |with_reducible refine az ?_ _ |(refine ai rfl ?_;with_reducible rfl) |(refine ai rfl ?_;simp;done) |with_reducible refine aw ?_ _))))))
        all_goals
         go_wp2
         go_quiet (fail)
         go_wp2
         go_roundw
         case rel=>
          refine⟨k+1,by omega,by go_num,?_,by((repeat(first |exact Below.refl _ _ |with_reducible assumption |refine Below.alloc0 ?_ _ |refine Below.step0 ?_ (by with_reducible assumption) |refine Below.step ?_ (by with_reducible assumption) ?_ |refine Below.alloc ?_ ?_ _ |refine Below.drew ?_ |refine bb ?_ _ |refine Below.setCell ?_ ?_ _))<;>(first |omega |exact hsz |exact Below.size (by with_reducible assumption) |(simp;done) |(simp;omega) |(simp at*;omega)))⟩
          rw[HY.out,HSAME.out]
          ((repeat(first |with_reducible assumption |with_reducible refine cr ?_ _ |with_reducible refine dB ?_ (by with_reducible assumption) |with_reducible refine cF ?_ |with_reducible refine cP ?_ _)))
         case measure=>simp [intOf];omega
       ·have hlt3:out[m].ord<d.ord:=by
         have:=rP (HVAL.out _ (List.getElem_mem hm')) (oZ _ hok2)
         rcases Int.lt_or_le out[m].ord d.ord with h |h
         ·exact h
         ·exact absurd (this (by omega)) heq
        have HINS:=Lib.hid (rL (k:=m+1) (Bc HSS.out hm' hlt3) HGT.out)
        have hrun:=ga out[m].x out[m].y out[m].d d.x d.y d.d
        have hdq:dEq out[m].x out[m].y out[m].d d.x d.y d.d=false:=by rw[em];simpa using heq
        clear heq hcmp hlt3
        go_wp2
        go_region_held3 (fun w'=>w'.cell? ⟨wo.heap.size,0,none⟩=some (.int .i64 d.x)∧w'.cell? ⟨wo.heap.size,1,none⟩=some (.int .i64 d.y)∧w'.cell? ⟨wo.heap.size,2,none⟩=some (.bool d.d)∧w'.cell? ⟨g3,off3+m*3,none⟩=some (.int .i64 out[m].x)∧w'.cell? ⟨g3,off3+m*3+1,none⟩=some (.int .i64 out[m].y)∧w'.cell? ⟨g3,off3+m*3+2,none⟩=some (.bool out[m].d)) (go_keep) (((first |(go_at_call 97;with_reducible refine(mR _ _ _ hkc3 _).mono ?_) |(go_at_call 97;with_reducible refine(mR _ _ _ hkc _).mono ?_));rintro e w2 ⟨rfl,hb2⟩;have x0:w2.cell? ⟨wo.heap.size,0,none⟩=some (.int .i64 d.x):=(by((repeat(first |with_reducible assumption |with_reducible refine aH ?_ (by with_reducible assumption) |with_reducible refine aD ?_ |with_reducible refine az ?_ _ |(refine ai rfl ?_;with_reducible rfl) |(refine ai rfl ?_;simp;done) |with_reducible refine aw ?_ _))));have x1:w2.cell? ⟨wo.heap.size,1,none⟩=some (.int .i64 d.y):=(by((repeat(first |with_reducible assumption |with_reducible refine aH ?_ (by with_reducible assumption) |with_reducible refine aD ?_ |with_reducible refine az ?_ _ |(refine ai rfl ?_;with_reducible rfl) |(refine ai rfl ?_;simp;done) |with_reducible refine aw ?_ _))));have x2:w2.cell? ⟨wo.heap.size,2,none⟩=some (.bool d.d):=(by((repeat(first |with_reducible assumption |with_reducible refine aH ?_ (by with_reducible assumption) |with_reducible refine aD ?_ |with_reducible refine az ?_ _ |(refine ai rfl ?_;with_reducible rfl) |(refine ai rfl ?_;simp;done) |with_reducible refine aw ?_ _))));have x3:w2.cell? ⟨g3,off3+m*3,none⟩=some (.int .i64 out[m].x):=(by((repeat(first |with_reducible assumption |with_reducible refine aH ?_ (by with_reducible assumption) |with_reducible refine aD ?_ |with_reducible refine az ?_ _ |(refine ai rfl ?_;with_reducible rfl) |(refine ai rfl ?_;simp;done) |with_reducible refine aw ?_ _))));have x4:w2.cell? ⟨g3,off3+m*3+1,none⟩=some (.int .i64 out[m].y):=(by((repeat(first |with_reducible assumption |with_reducible refine aH ?_ (by with_reducible assumption) |with_reducible refine aD ?_ |with_reducible refine az ?_ _ |(refine ai rfl ?_;with_reducible rfl) |(refine ai rfl ?_;simp;done) |with_reducible refine aw ?_ _))));have x5:w2.cell? ⟨g3,off3+m*3+2,none⟩=some (.bool out[m].d):=(by((repeat(first |with_reducible assumption |with_reducible refine aH ?_ (by with_reducible assumption) |with_reducible refine aD ?_ |with_reducible refine az ?_ _ |(refine ai rfl ?_;with_reducible rfl) |(refine ai rfl ?_;simp;done) |with_reducible refine aw ?_ _))))))
        all_goals go_wp2
        all_goals go_quiet (fail)
        have htn:m+1≤out.length:=by omega
        go_wp2_with (at_builtin;go_must (refine wpList_append_own_at _ rfl (.tmp 45) (.tmp 47) 31 rfl w.heap.size 62 i0 (.agg #[.int .i64 0,.int .i64 0,.bool false]) 3 24 Tryz.underlying31 hi0 hz0 hz1 hz2 rfl (by omega) (.slice (some ⟨g3,off3,none⟩) out.length c3) out.length (dsl out) rfl ?_ ⟨w2.heap.size,0,none⟩ 1 1 [.int .i64 0,.int .i64 0,.bool false] rfl rfl ?_ ?_ ?_ ?_ ?_ ?_);go_must ((((repeat(first |with_reducible assumption |with_reducible refine cr ?_ _ |with_reducible refine dB ?_ (by with_reducible assumption) |with_reducible refine cF ?_ |with_reducible refine cP ?_ _)))));go_must (exact sm _ _ _ _ _);go_must (simp [Value.oneCell']);go_must (unfold maxLen;omega);go_must (omega);go_must (((repeat(first |exact Nat.le_refl _ |with_reducible assumption |with_reducible refine Nat.le_trans ?_ (Below.size (by with_reducible assumption)) |with_reducible refine Nat.le_trans ?_ (ck (by with_reducible assumption)) |with_reducible refine co ?_ _ |with_reducible refine cp ?_ _ |with_reducible refine cB ?_))));intro v' w4 hown4 hgr4 _ hat4;obtain⟨A5,c5,hv5,_,hc5,hc5'⟩:=me hown4;subst hv5;obtain⟨g5,hA5,hg51,hg52⟩:=xU hown4 (by omega);subst hA5)
        have hne1:(Value.slice (some ⟨g3,off3,none⟩) out.length c3).ownBlock≠some wo.heap.size:=Fz hown (Nat.le_refl _)
        have hgne:g5≠wo.heap.size:=by
         rcases hat4 with h |h
         ·intro e;subst e;exact hne1 h.symm
         ·have h':g5=w2.heap.size+1:=by simpa [Value.ownBlock] using h
          have:=ka x0
          omega
        have y0:w4.cell? ⟨wo.heap.size,0,none⟩=some (.int .i64 d.x):=cj (by((repeat(first |with_reducible assumption |with_reducible refine aH ?_ (by with_reducible assumption) |with_reducible refine aD ?_ |with_reducible refine az ?_ _ |(refine ai rfl ?_;with_reducible rfl) |(refine ai rfl ?_;simp;done) |with_reducible refine aw ?_ _)))) hgr4 hne1
        have y1:w4.cell? ⟨wo.heap.size,1,none⟩=some (.int .i64 d.y):=cj (by((repeat(first |with_reducible assumption |with_reducible refine aH ?_ (by with_reducible assumption) |with_reducible refine aD ?_ |with_reducible refine az ?_ _ |(refine ai rfl ?_;with_reducible rfl) |(refine ai rfl ?_;simp;done) |with_reducible refine aw ?_ _)))) hgr4 hne1
        have y2:w4.cell? ⟨wo.heap.size,2,none⟩=some (.bool d.d):=cj (by((repeat(first |with_reducible assumption |with_reducible refine aH ?_ (by with_reducible assumption) |with_reducible refine aD ?_ |with_reducible refine az ?_ _ |(refine ai rfl ?_;with_reducible rfl) |(refine ai rfl ?_;simp;done) |with_reducible refine aw ?_ _)))) hgr4 hne1
        have hbw4:=Lib.hid (dc (B:=w.heap.size) (a:=w) (by((repeat(first |exact Below.refl _ _ |with_reducible assumption |refine Below.alloc0 ?_ _ |refine Below.step0 ?_ (by with_reducible assumption) |refine Below.step ?_ (by with_reducible assumption) ?_ |refine Below.alloc ?_ ?_ _ |refine Below.drew ?_ |refine bb ?_ _ |refine Below.setCell ?_ ?_ _))<;>(first |omega |exact hsz |exact Below.size (by with_reducible assumption) |(simp;done) |(simp;omega) |(simp at*;omega)))) hgr4 (fun j hj=>(hown.lt j hj).1) (by((repeat(first |exact Nat.le_refl _ |with_reducible assumption |with_reducible refine Nat.le_trans ?_ (Below.size (by with_reducible assumption)) |with_reducible refine Nat.le_trans ?_ (ck (by with_reducible assumption)) |with_reducible refine co ?_ _ |with_reducible refine cp ?_ _ |with_reducible refine cB ?_)))))
        clear hat4 hgr4 hne1
        obtain⟨D1,L1,C1,hD1,hcut1⟩:=kb Tryz.prog 31 62 3 Tryz.underlying31 (by rw[hi0];simp [hz1]) (some ⟨g5,0,none⟩) (out.length+1) c5 (m+1+1) ((m:Int)+1+1) (by omega) (by omega)
        obtain⟨D2,L2,C2,hD2,hcut2⟩:=kb Tryz.prog 31 62 3 Tryz.underlying31 (by rw[hi0];simp [hz1]) (some ⟨g5,0,none⟩) (out.length+1) c5 (m+1) ((m:Int)+1) (by omega) (by omega)
        have HD1:=Lib.hid hD1
        have HD2:=Lib.hid hD2
        have HO4:=Lib.hid hown4
        clear hD1 hD2 hown4
        have hwr:IntKind.i64.wrap (((m:Int)+1+1))=((m:Int)+1+1):=IntWalk.i64_in _ (by omega)
        go_region_law ((go_must (refine mz rfl (.tmp 52) (.tmp 55) 31 31 rfl 62 3 Tryz.underlying31 (by rw[hi0];simp [hz1]) D1 D2 L1 C1 L2 C2 (by simp [Act.eval,Act.put]) (by simp [Act.eval,Act.put]) w.heap.size 62 (out.length+1) c5 g5 (dsl out++[.int .i64 0,.int .i64 0,.bool false]) (cF HO4.out) (((m+1)+1)*3) (dsl (out.drop (m+1))) (Dt _ _ htn HD1.out.2.1 HD2.out.2.1) (xd _ _ htn hc5 HD1.out.1 HD2.out.1 (cF HO4.out)) (by omega) (xb _ _ htn) (jG _) ?_);intro w5 hown5 hgr5;have hne5:(some g5:Option Nat)≠some wo.heap.size:=(fun e=>hgne (Option.some.inj e));have z0:=cj (aD y0) hgr5 hne5;have z1:=cj (aD y1) hgr5 hne5;have z2:=cj (aD y2) hgr5 hne5;have hb5:=Lib.hid (dc (B:=w.heap.size) (a:=w) (Below.drew hbw4.out) hgr5 (fun j hj=>by injection hj with hj;omega) (by((repeat(first |exact Nat.le_refl _ |with_reducible assumption |with_reducible refine Nat.le_trans ?_ (Below.size (by with_reducible assumption)) |with_reducible refine Nat.le_trans ?_ (ck (by with_reducible assumption)) |with_reducible refine co ?_ _ |with_reducible refine cp ?_ _ |with_reducible refine cB ?_)));exact hbw4.out.size));obtain⟨dd,e0,e1,e2,f0,f1,f2,hst⟩:=sW (mS hown5 (uJ _ _ htn)) (k:=(m+1)) (by simp;omega);have HST:=Lib.hid (hst d.x d.y d.d);clear hst hown5 hgr5))
        all_goals
         have g0:(0:Int)≤((m:Int)+1):=by omega
         have g1:((m:Int)+1)<(out.length:Int)+1:=by omega
         go_wp2
         go_roundw
         case rel=>
          refine⟨k+1,by omega,by go_num,?_,((hb5.out.setCell hg51 _).setCell hg51 _).setCell hg51 _⟩
          have hfin:=HST.out
          rw[Au _ _ _ htn]at hfin
          rw[HY.out,HINS.out]
          refine pa hfin ?_
          first |(simp;done) |(simp;omega)
         case measure=>simp [intOf];omega
   ·have HY:=Lib.hid (show cG (l.take (k+1))=cG (l.take k) from vC hlt (by simpa using hok))
    have hok2:okd l[k].x l[k].y l[k].d=false:=by simpa [Dom.ok] using hok
    clear hok
    go_wp2_with (go_at_call 92;refine(jT _ _ _ _).mono ?_;rintro e w1 ⟨rfl,hb1⟩)
    go_roundw
    case rel=>exact⟨k+1,by omega,by go_num,by rw[HY.out];((repeat(first |with_reducible assumption |with_reducible refine cr ?_ _ |with_reducible refine dB ?_ (by with_reducible assumption) |with_reducible refine cF ?_ |with_reducible refine cP ?_ _))),by((repeat(first |exact Below.refl _ _ |with_reducible assumption |refine Below.alloc0 ?_ _ |refine Below.step0 ?_ (by with_reducible assumption) |refine Below.step ?_ (by with_reducible assumption) ?_ |refine Below.alloc ?_ ?_ _ |refine Below.drew ?_ |refine bb ?_ _ |refine Below.setCell ?_ ?_ _))<;>(first |omega |exact hsz |exact Below.size (by with_reducible assumption) |(simp;done) |(simp;omega) |(simp at*;omega)))⟩
    case measure=>simp [intOf];omega
  ·obtain rfl:k=l.length:=by omega
   go_wp2
   go_ret
   rw[List.take_length]at hown
   exact⟨_,rfl,hown,hbw⟩
end Go.Proofs.YtgmkkfdnmdohlaaGreatDoor
