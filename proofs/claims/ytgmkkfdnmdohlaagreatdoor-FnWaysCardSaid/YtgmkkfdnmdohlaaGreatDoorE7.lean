/- Walks. -/
import Derived.Test.YtgmkkfdnmdohlaaGreatDoorE5
import Derived.Test.YtgmkkfdnmdohlaaGreatDoorEA
import Derived.Test.YtgmkkfdnmdohlaaGreatDoorClB
set_option linter.unusedSimpArgs false
set_option linter.unusedVariables false
namespace Go.Proofs.YtgmkkfdnmdohlaaGreatDoor
namespace Cl
open Go.ChangeShapes Go.WideShapes Go.ChangeAt Go.RowKit
set_option maxRecDepth 20000
theorem mQ {d:Dom} (h:okD d=true):d.ord=((ord d:Nat):Int):=by rw[Hz h];unfold Dom.ord;omega
theorem BM {d:Dom} (h:okD d=true):d.valid:=by have:=jX h;unfold Dom.valid;omega
theorem BJ {out:List Dom} {d:Dom} (h:∀ e∈out,e.ord≠d.ord):(ig out d).Perm (d::out):=by
  unfold ig
  refine List.perm_middle.trans (List.Perm.cons _ ?_)
  induction out with
  | nil=>exact List.Perm.nil
  | cons e out ih=>
    have hi:=ih (fun x hx=>h x (by simp [hx]))
    have he:=h e (by simp)
    rw[List.filter_cons,List.filter_cons]
    rcases Int.lt_or_le e.ord d.ord with h1 |h1
    · rw[if_pos (decide_eq_true h1),if_neg (by simp;omega)]
      exact List.Perm.cons _ hi
    · rw[if_neg (by simp;omega),if_pos (decide_eq_true (by omega))]
      exact List.perm_middle.trans (List.Perm.cons _ hi)
theorem yY:∀ (l out:List Dom),(∀ e∈l,okD e=true)→(∀ e∈out,okD e=true)→(l++out).Nodup→(l.foldl ig out).Perm (l++out):=by
  intro l
  induction l with
  | nil=>intro out _ _ _;exact List.Perm.refl _
  | cons d l ih=>
    intro out hl ho hn
    have hd:d∉l++out:=(List.nodup_cons.1 hn).1
    have hp:(ig out d).Perm (d::out):=BJ (fun e he e'=>by
      have h1:=ho e he;have h2:=hl d (by simp)
      rw[mQ h1,mQ h2]at e'
      have:=rP h1 h2 (Int.ofNat.inj e')
      exact hd (by rw[←this];simp [he]))
    have hperm:(l++ig out d).Perm (d::(l++out)):=(List.Perm.append_left l hp).trans List.perm_middle
    rw[List.foldl_cons]
    exact(ih (ig out d) (fun e he=>hl e (by simp [he])) (fun e he=>by
      rcases List.mem_cons.1 (hp.mem_iff.1 he)with rfl |h
      · exact hl _ (by simp)
      · exact ho e h) (hperm.symm.nodup hn)).trans hperm
theorem zK {l:List Dom} (hl:∀ e∈l,okD e=true) (hn:l.Nodup):(cG l).Perm l:=by
 unfold cG fO
 rw[List.filter_eq_self.2 (show ∀ e∈l,Dom.ok e=true from fun e he=>hl e he)]
 have:=yY l [] hl (by simp) (by simpa using hn)
 simpa using this
theorem yB (l:List Dom):SO (cG l):=by
 have h:=(qE (ok:=Dom.ok) (fun d hd=>BM hd) l).1
 have ho:=vD (ok:=Dom.ok) l
 unfold SO
 refine List.Pairwise.imp_of_mem (fun {a b} ha hb hab=> ?_) h
 rw[mQ (ho a ha),mQ (ho b hb)]at hab
 omega
theorem eR {l:List Dom} {x y:Int} {d:Bool}:eJ l x y d=true↔(⟨x,y,d⟩:Dom)∈l:=by unfold eJ;exact decide_eq_true_iff
theorem sj {P:List Dom} {c:Cel} (h:cS P c.x c.y=true):pr0 c (!(acB P c.x c.y))∈P∧pr1 c (!(acB P c.x c.y))∈P:=by
 unfold cS at h
 simp only[Bool.and_eq_true,Bool.or_eq_true]at h
 cases e:acB P c.x c.y
 ·rw[e]at h
  have h2:Go.Proofs.YtgmkkfdnmdohlaaGreatDoor.dnB P c.x c.y=true:=h.2.resolve_left (by simp)
  unfold Go.Proofs.YtgmkkfdnmdohlaaGreatDoor.dnB at h2
  simp only[Bool.and_eq_true,eR]at h2
  exact h2
 ·have e2:=e
  unfold acB at e2
  simp only[Bool.and_eq_true,eR]at e2
  exact e2
theorem EW {c:Cel} (hb:0≤c.x∧c.x≤6∧0≤c.y∧c.y≤6) (b:Bool) (i:Nat):(if cin (pr0 c b) i=true then 1 else 0)+(if cin (pr1 c b) i=true then 1 else 0)=if i=idx c∨i=idx c+1∨i=idx c+8∨i=idx c+9 then 1 else 0:=by
 have e0:idx (ca (pr0 c b))=idx c:=by cases b<;>rfl
 have e1:idx (cb (pr0 c b))=if b then idx c+8 else idx c+1:=by unfold pr0 cb idx;cases b<;>simp<;>omega
 have e2:idx (ca (pr1 c b))=if b then idx c+1 else idx c+8:=by unfold pr1 ca idx;cases b<;>simp<;>omega
 have e3:idx (cb (pr1 c b))=idx c+9:=by unfold pr1 cb idx;cases b<;>simp<;>omega
 unfold cin
 rw[e0,e1,e2,e3]
 simp only[Bool.or_eq_true,decide_eq_true_eq]
 cases b<;>simp only[if_true,if_false,Bool.false_eq_true]<;>(repeat' split)<;>omega
theorem AL {c:Cel} (hb:0≤c.x∧c.x≤6∧0≤c.y∧c.y≤6) (b:Bool):okD (pr0 c b)=true∧okD (pr1 c b)=true:=by
 unfold okD pr0 pr1
 cases b<;>exact⟨km.2 (by simp;omega),km.2 (by simp;omega)⟩
theorem Jc (c:Cel) (b b':Bool):pr0 c b≠pr1 c b':=by
 unfold pr0 pr1;cases b<;>cases b'<;>simp<;>omega
theorem EX (c:Cel) (b:Bool):pr0 c b≠pr0 c (!b)∧pr1 c b≠pr1 c (!b):=by
 unfold pr0 pr1;cases b<;>simp
theorem uM (g0 g1 z:Dom):kp g0 g1 z=((z != g0)&&(z != g1)):=by
 unfold kp;rw[em,em,Bool.eq_iff_iff];simp
theorem uQ {P:List Dom} (hn:P.Nodup) {a b:Dom} (ha:a∈P) (hb:b∈P) (hab:a≠b):P.Perm (a::b::P.filter (kp a b)):=by
 have h1:=List.perm_cons_erase ha
 have h2:b∈P.erase a:=(List.mem_erase_of_ne (fun e=>hab e.symm)).2 hb
 have h3:=List.perm_cons_erase h2
 have e:(P.erase a).erase b=P.filter (kp a b):=by
  rw[(hn.erase a).erase_eq_filter,hn.erase_eq_filter,List.filter_filter]
  apply List.filter_congr
  intro z _
  rw[uM,Bool.and_comm]
 rw[e]at h3
 exact h1.trans (List.Perm.cons _ h3)
theorem sr {P Q:List Dom} (h:P.Perm Q) (i:Nat):cvN P i=cvN Q i:=h.countP_eq _
theorem Gx {P:List Dom} (hn:P.Nodup) {a b:Dom} (ha:a∈P) (hb:b∈P) (hab:a≠b) {i:Nat} (h1:cin a i=true) (h2:cin b i=true):2≤cvN P i:=by
 rw[sr (uQ hn ha hb hab),kd,kd,if_pos h1,if_pos h2];omega
theorem cv_le {s:Nat} {P:List Dom} (h:TilS s P) (i:Nat):cvN P i≤1:=by rw[h.cv];split<;>omega
theorem mA {s:Nat} {P:List Dom} (h:TilS s P) {a b:Dom} (ha:a∈P) (hb:b∈P) {i:Nat} (h1:cin a i=true) (h2:cin b i=true):a=b:=by
 by_cases e:a=b
 ·exact e
 ·have:=Gx (sb h.so) ha hb e h1 h2
  have:=cv_le h i;omega
theorem eP {s:Nat} {P:List Dom} {c:Cel} (h:TilS s P) (hc:cS P c.x c.y=true):
  P.Perm (pr0 c (!(acB P c.x c.y))::pr1 c (!(acB P c.x c.y))::P.filter (kp (pr0 c (!(acB P c.x c.y))) (pr1 c (!(acB P c.x c.y)))))∧
  (lz P c).Perm (pr0 c (acB P c.x c.y)::pr1 c (acB P c.x c.y)::P.filter (kp (pr0 c (!(acB P c.x c.y))) (pr1 c (!(acB P c.x c.y)))))∧pr0 c (acB P c.x c.y)∉P∧pr1 c (acB P c.x c.y)∉P:=by
 have hb:=jF hc
 obtain⟨g0,g1⟩:=sj hc
 have hn:=sb h.so
 revert g0 g1
 unfold lz
 generalize acB P c.x c.y=b
 intro g0 g1
 have hp:=uQ hn g0 g1 (Jc c _ _)
 have hk:cin (pr0 c b) (idx c)=true∧cin (pr0 c (!b)) (idx c)=true:=⟨nD (pr0 c b),nD (pr0 c !b)⟩
 have e3:∀ b,idx (cb (pr1 c b))=idx c+9:=fun b=>by unfold pr1 cb idx;cases b<;>simp<;>omega
 have hk9:cin (pr1 c b) (idx c+9)=true∧cin (pr1 c (!b)) (idx c+9)=true:=⟨by rw[←e3 b];exact xa _,by rw[←e3 (!b)];exact xa _⟩
 have n0:pr0 c b∉P:=fun hm=>(EX c b).1 (mA h hm g0 hk.1 hk.2)
 have n1:pr1 c b∉P:=fun hm=>(EX c b).2 (mA h hm g1 hk9.1 hk9.2)
 refine⟨hp,?_,n0,n1⟩
 refine zK (fun e he=> ?_) ?_
 ·simp only[List.cons_append,List.nil_append,List.mem_cons]at he
  rcases he with rfl |rfl |he
  ·exact(AL hb b).1
  ·exact(AL hb b).2
  ·exact h.ok e (List.mem_filter.1 he).1
 ·simp only[List.cons_append,List.nil_append]
  refine List.nodup_cons.2 ⟨fun hm=> ?_,List.nodup_cons.2 ⟨fun hm=>n1 (List.mem_filter.1 hm).1,hn.filter _⟩⟩
  rcases List.mem_cons.1 hm with e |hm
  ·exact Jc c _ _ e
  ·exact n0 (List.mem_filter.1 hm).1
theorem DS {s:Nat} {P:List Dom} {c:Cel} (h:TilS s P) (hc:cS P c.x c.y=true):TilS s (lz P c):=by
 obtain⟨h1,h2,_,_⟩:=eP h hc
 have hb:=jF hc
 refine⟨fun d hd=> ?_,fun i=> ?_,yB _⟩
 ·rcases List.mem_cons.1 (h2.mem_iff.1 hd)with rfl |hd
  ·exact(AL hb _).1
  ·rcases List.mem_cons.1 hd with rfl |hd
   ·exact(AL hb _).2
   ·exact h.ok d (List.mem_filter.1 hd).1
 ·have e1:=sr h1 i
  have e2:=sr h2 i
  rw[kd,kd]at e1 e2
  have q1:=EW hb (acB P c.x c.y) i
  have q2:=EW hb (!(acB P c.x c.y)) i
  have:=h.cv i
  omega
theorem gJ {s:Nat} {P:List Dom} {c:Cel} (h:TilS s P) (hc:cS P c.x c.y=true):TilS s (aR P c):=by
 unfold aR;rw[if_pos hc];exact DS h hc
theorem Km {c c':Cel} {b b':Bool} (h0:pr0 c b=pr0 c' b'∨pr0 c b=pr1 c' b') (h1:pr1 c b=pr0 c' b'∨pr1 c b=pr1 c' b'):c=c':=by
 obtain⟨x,y⟩:=c
 obtain⟨x',y'⟩:=c'
 unfold pr0 pr1 at*
 cases b<;>cases b'<;>simp at h0 h1⊢ <;>omega
theorem DQ {s:Nat} {P:List Dom} {c c':Cel} (h:TilS s P) (hc:cS P c.x c.y=true) (hc':cS P c'.x c'.y=true) (he:aR P c=aR P c'):c=c':=by
 unfold aR at he;rw[if_pos hc,if_pos hc']at he
 have gone:∀ {c c':Cel},cS P c.x c.y=true→cS P c'.x c'.y=true→lz P c=lz P c'→∀ g,(g=pr0 c (!(acB P c.x c.y))∨g=pr1 c (!(acB P c.x c.y)))→(g=pr0 c' (!(acB P c'.x c'.y))∨g=pr1 c' (!(acB P c'.x c'.y))):=by
  intro c c' hc hc' he g hg
  obtain⟨p1,p2,m0,m1⟩:=eP h hc
  obtain⟨p1',p2',m0',m1'⟩:=eP h hc'
  obtain⟨g0,g1⟩:=sj hc
  have hgP:g∈P:=by rcases hg with rfl |rfl<;>assumption
  have hgQ:g∉lz P c:=by
   intro hm
   rcases List.mem_cons.1 (p2.mem_iff.1 hm)with e |hm
   ·exact m0 (e▸hgP)
   ·rcases List.mem_cons.1 hm with e |hm
    ·exact m1 (e▸hgP)
    ·have:=(List.mem_filter.1 hm).2
     rw[uM]at this
     simp only[Bool.and_eq_true,bne_iff_ne]at this
     rcases hg with rfl |rfl
     ·exact this.1 rfl
     ·exact this.2 rfl
  rw[he]at hgQ
  rcases List.mem_cons.1 (p1'.mem_iff.1 hgP)with e |hm
  ·exact .inl e
  ·rcases List.mem_cons.1 hm with e |hm
   ·exact .inr e
   ·exact absurd (p2'.mem_iff.2 (by simp [hm])) hgQ
 exact Km (gone hc hc' he _ (.inl rfl)) (gone hc hc' he _ (.inr rfl))
end Cl
end Go.Proofs.YtgmkkfdnmdohlaaGreatDoor
