/- Walks. -/
import Derived.Test.YtgmkkfdnmdohlaaGreatDoorClC
import Derived.Test.YtgmkkfdnmdohlaaGreatDoorShelf
import Derived.Test.YtgmkkfdnmdohlaaGreatDoorC3w
import Derived.Test.YtgmkkfdnmdohlaaGreatDoorClB
set_option linter.unusedSimpArgs false
set_option linter.unusedVariables false
set_option maxHeartbeats 4000000
set_option maxRecDepth 100000
namespace Go.Proofs.YtgmkkfdnmdohlaaGreatDoor
namespace Cl
open Go.ChangeShapes Go.WideShapes Go.ChangeAt Go.RowKit
def dT (d:Dom):List UInt8:=[UInt8.ofNat (48+d.x.toNat),44,UInt8.ofNat (48+d.y.toNat),if d.d then 100 else 114]
def tT (l:List Dom):List UInt8:=Lib.join (l.map dT) [32]
def dBd (d:Dom):Prop:=0≤d.x∧d.x≤7∧0≤d.y∧d.y≤7
theorem Ad {a b:Nat} (ha:a≤7) (hb:b≤7) (h:UInt8.ofNat (48+a)=UInt8.ofNat (48+b)):a=b:=by
 have:=congrArg UInt8.toNat h
 simp only[UInt8.toNat_ofNat']at this
 omega
theorem DA {d e:Dom} (hd:dBd d) (he:dBd e) (h:dT d=dT e):d=e:=by
 obtain⟨x,y,b⟩:=d;obtain⟨x',y',b'⟩:=e
 unfold dBd at hd he
 simp only[dT,List.cons.injEq,and_true,true_and]at h hd he
 obtain⟨h1,h2,h3⟩:=h
 have e1:=Ad (by omega) (by omega) h1
 have e2:=Ad (by omega) (by omega) h2
 have e3:b=b':=by cases b<;>cases b'<;>first |rfl |(simp at h3)
 have:x=x':=by omega
 have:y=y':=by omega
 subst_vars;rfl
theorem tR:tT []=[]:=rfl
theorem ou (d:Dom):tT [d]=dT d:=by simp [tT,Lib.join_one]
theorem ov (d e:Dom) (l:List Dom):tT (d::e::l)=dT d++32::tT (e::l):=by
 simp [tT,Lib.join,List.intercalate]
theorem FK:∀ {l m:List Dom},(∀ d∈l,dBd d)→(∀ d∈m,dBd d)→tT l=tT m→l=m
  | [],[],_,_,_=>rfl
  | [],[d],_,_,h=>by rw[tR,ou]at h;simp [dT]at h
  | [],d::e::m,_,_,h=>by rw[tR,ov]at h;simp [dT]at h
  | [d],[],_,_,h=>by rw[tR,ou]at h;simp [dT]at h
  | d::e::l,[],_,_,h=>by rw[tR,ov]at h;simp [dT]at h
  | [d],[e],hl,hm,h=>by
    rw[ou,ou]at h
    rw[DA (hl d (by simp)) (hm e (by simp)) h]
  | [d],e::f::m,_,_,h=>by
    rw[ou,ov]at h
    have:=congrArg List.length h
    simp [dT]at this
  | d::f::l,[e],_,_,h=>by
    rw[ou,ov]at h
    have:=congrArg List.length h
    simp [dT]at this
  | d::f::l,e::g::m,hl,hm,h=>by
    rw[ov,ov]at h
    have h':dT d=dT e∧tT (f::l)=tT (g::m):=by
      simp only[dT,List.cons_append,List.nil_append,List.cons.injEq,true_and]at h⊢
      exact⟨⟨h.1,h.2.1,h.2.2.1,trivial⟩,h.2.2.2⟩
    rw[DA (hl d (by simp)) (hm e (by simp)) h'.1,FK (fun x hx=>hl x (List.mem_cons_of_mem _ hx)) (fun x hx=>hm x (List.mem_cons_of_mem _ hx)) h'.2]
theorem zL:∀ l:List Dom,(tT l).length≤5*l.length
  | []=>by simp [tR]
  | [d]=>by rw[ou];simp [dT]
  | d::e::l=>by
    have:=zL (e::l)
    rw[ov];simp [dT]at this⊢;omega
theorem dec1 {n:Int} (h1:n≤7):Lib.decDigits n.toNat=[UInt8.ofNat (48+n.toNat)]:=by
 rw[Lib.decDigits,dif_pos (by omega)]
theorem xh {n:Int} (h1:n≤7):(Lib.decDigits n.toNat).length=1:=by rw[dec1 h1];rfl
theorem Hy {d:Dom} (h:okD d=true):dBd d:=by have:=jX h;unfold dBd;omega
theorem dT_t {d:Dom} (h:okD d=true) (hd:d.d=true):(((Lib.decDigits d.x.toNat++[44])++Lib.decDigits d.y.toNat)++[100])=dT d:=by
 have:=jX h
 rw[dec1 (by omega),dec1 (by omega),dT,hd];rfl
theorem dT_f {d:Dom} (h:okD d=true) (hd:d.d=false):(((Lib.decDigits d.x.toNat++[44])++Lib.decDigits d.y.toNat)++[114])=dT d:=by
 have:=jX h
 rw[dec1 (by omega),dec1 (by omega),dT,hd];rfl
def tTk (l:List Dom) (k:Nat):List (List UInt8):=(l.take k).map dT
theorem tS {l:List Dom} {k:Nat} (h:k<l.length):tTk l k++[dT (gD l k)]=tTk l (k+1):=by
 unfold tTk;rw[List.take_succ_eq_append_getElem h,List.map_append,gl h];rfl
theorem Ir {l:List Dom} {k:Nat} (h:k≤l.length):(tTk l k).length=k:=by unfold tTk;rw[List.length_map,List.length_take];omega
theorem Bb {l:List Dom} {k:Nat} (h:¬k<l.length):Lib.join (tTk l k) [32]=tT l:=by unfold tTk tT;rw[List.take_of_length_le (by omega)]
theorem FL {l:List Dom} {k:Nat} (h:¬k<l.length) (hl:l.length≤64):(Lib.join (tTk l k) [32]).length≤140737488355328:=by
 rw[Bb h];have:=zL l;omega
theorem rE (n:Int) (h0:0≤n) (h1:n<100):Fn Tryz.prog 123 [.a (.val (.int .i64 n))] [.val (.string ⟨(Lib.decDigits n.toNat).toArray⟩)]:=
 GS ⟨_,Tryz.func123,by kernel_rfl,by kernel_rfl⟩ (fun i hi w=>lJ i hi w) h0 h1
theorem rF (L:List (List UInt8)) (p:List UInt8) (hl:L.length≤140737488355328) (hj:(Lib.join L p).length≤140737488355328):Fn Tryz.prog 95 [.a (.slv L.length 1 (tsl L)),.a (.val (.string ⟨p.toArray⟩))] [.val (.string ⟨(Lib.join L p).toArray⟩)]:=
 DT ⟨_,Tryz.func95,by kernel_rfl,by kernel_rfl⟩ (fun a c sep w=>mr a c sep w) (fun bk o c xs sep w h1 h2 h3 h4 h5=>ry bk o c xs sep w h1 h2 h3 h4 h5) L p hl hj
theorem qX:bK Tryz.prog 62 0=some 0:=by kernel_rfl
theorem qY:bK Tryz.prog 62 1=some 1:=by kernel_rfl
theorem yu:bK Tryz.prog 62 2=some 2:=by kernel_rfl
theorem CB:(Tryz.prog.info? 62).map (·.size)=some 3:=by kernel_rfl
theorem pr:TI Tryz.prog 3 false 1:=⟨⟨_,Tryz.underlying3,rfl⟩,by kernel_rfl⟩
theorem Fh:TI Tryz.prog 4 false 1:=⟨⟨_,Tryz.underlying4,rfl⟩,by kernel_rfl⟩
theorem ky:TI Tryz.prog 62 true 3:=⟨⟨_,Tryz.underlying62,rfl⟩,by kernel_rfl⟩
theorem og:Tryz.prog.underlying 113=some (.slice 9):=Tryz.underlying113
theorem vx:Tryz.prog.underlying 31=some (.slice 62):=Tryz.underlying31
theorem CC:ZI Tryz.prog 62 (.agg #[.int .i64 0,.int .i64 0,.bool false]) 3 24:=by unfold ZI;kernel_rfl
theorem tu:ZI Tryz.prog 9 (.string ⟨([]:List UInt8).toArray⟩) 1 16:=by unfold ZI;kernel_rfl
theorem eM (n:Int) (h0:0≤n) (h1:n<100):Fn Tryz.prog 114 [.a (.val (.int .i64 n))] [.val (.string ⟨(Lib.decDigits (n).toNat).toArray⟩)]:=by
 refine bm (N:=5) Tryz.func114 rfl (by kernel_rfl) rfl (Nat.le_of_ble_eq_true rfl) [4] (dN rfl) (fun W=> ?_)
 show Wp _ _ _ [kI 0 n,kF 4]
 refine sq (rg (zk (nl (sq (rg (zm ?_))))))
 refine z ?_ (h:=fun Z=>ag Z (rE n (by omega) (by omega)) (ac (ArgV.v vt) an) rv)
 refine za (nl (aC ?_))
 exact VRes.tmp _ _ _ (by exact rfl) (BRes.val _)
theorem nR (d:Dom) (ho:okD d=true):Fn Tryz.prog 94 [.agg ([vI d.x,vI d.y,.bool d.d].map A.val)] [.val (.string ⟨(dT d).toArray⟩)]:=by
 have hq:=jX ho
 have hx1:=xh (n:=d.x) (by omega)
 have hy1:=xh (n:=d.y) (by omega)
 refine bm (N:=26) Tryz.func94 rfl (by kernel_rfl) rfl (Nat.le_of_ble_eq_true rfl) [1,4,10,14,19,23] (dN rfl) (fun W=> ?_)
 show Wp _ _ _ [kV 0 (V.av [vI d.x,vI d.y,.bool d.d]),kF 1,kF 4,kF 10,kF 14,kF 19,kF 23]
 refine sq (rg ?_)
 refine z ?_ (h:=fun Z=>bo (h:=1) Z xt (by exact ob1 rfl))
 refine zk (nl (sq (sq (rg ?_))))
 refine z ?_ (h:=fun Z=>ab (xs:=[vI d.x,vI d.y,.bool d.d].map A.val) Z ky rfl (by decide) rfl)
 refine z ?_ (h:=fun Z=>ag Z (fi d ) (ac (ArgV.va va) an) (bi (congrArg Value.bool ho)))
 refine z ?_ (h:=fun Z=>bn Z vt (bS (c:=false) rfl))
 refine nl (wf (sk (sq (sq (rg ?_)))))
 refine z ?_ (h:=fun Z=>aq (off':=2) Z yu rfl)
 refine z ?_ (h:=fun Z=>ah (x:= .val (.bool d.d)) Z Fh (by exact rfl))
 refine nl ?_
 refine wi (b:=d.d) (fun c1=> ?_) (fun c1=> ?_)
 ·skip
  refine sq (ch ?_)
  refine zd ?_ (h:=fun Z=>aq (off':=0) Z qX rfl)
  refine zd ?_ (h:=fun Z=>ah (x:= .val (.int .i64 d.x)) Z pr (by exact rfl))
  refine zd ?_ (h:=fun Z=>ag Z (eM d.x (by omega) (by omega)) (ac (ArgV.v vt) an) rv)
  refine zd ?_ (h:=fun Z=>iP (s:=(Lib.decDigits (d.x).toNat)) (t:=[44]) (r:=((Lib.decDigits (d.x).toNat)++[44])) Z vt vc rfl (by(simp only[List.length_append,List.length_cons,List.length_nil,maxLen];omega)))
  refine zd ?_ (h:=fun Z=>aq (off':=1) Z qY rfl)
  refine zd ?_ (h:=fun Z=>ah (x:= .val (.int .i64 d.y)) Z pr (by exact rfl))
  refine zd ?_ (h:=fun Z=>ag Z (eM d.y (by omega) (by omega)) (ac (ArgV.v vt) an) rv)
  refine zd ?_ (h:=fun Z=>iP (s:=((Lib.decDigits (d.x).toNat)++[44])) (t:=(Lib.decDigits (d.y).toNat)) (r:=(((Lib.decDigits (d.x).toNat)++[44])++(Lib.decDigits (d.y).toNat))) Z vt vt rfl (by(simp only[List.length_append,List.length_cons,List.length_nil,maxLen];omega)))
  refine zd ?_ (h:=fun Z=>iP (s:=(((Lib.decDigits (d.x).toNat)++[44])++(Lib.decDigits (d.y).toNat))) (t:=[100]) (r:=((((Lib.decDigits (d.x).toNat)++[44])++(Lib.decDigits (d.y).toNat))++[100])) Z vt vc rfl (by(simp only[List.length_append,List.length_cons,List.length_nil,maxLen];omega)))
  refine zd ?_ (h:=fun Z=>gt Z)
  refine bG (aC ?_)
  exact VRes.tmp _ _ _ (by exact rfl) (ce (congrArg (fun z:List UInt8=>Value.string ⟨z.toArray⟩) (by exact dT_t ho (by assumption))))
 ·skip
  refine sk (sq (ch ?_))
  refine zd ?_ (h:=fun Z=>aq (off':=0) Z qX rfl)
  refine zd ?_ (h:=fun Z=>ah (x:= .val (.int .i64 d.x)) Z pr (by exact rfl))
  refine zd ?_ (h:=fun Z=>ag Z (eM d.x (by omega) (by omega)) (ac (ArgV.v vt) an) rv)
  refine zd ?_ (h:=fun Z=>iP (s:=(Lib.decDigits (d.x).toNat)) (t:=[44]) (r:=((Lib.decDigits (d.x).toNat)++[44])) Z vt vc rfl (by(simp only[List.length_append,List.length_cons,List.length_nil,maxLen];omega)))
  refine zd ?_ (h:=fun Z=>aq (off':=1) Z qY rfl)
  refine zd ?_ (h:=fun Z=>ah (x:= .val (.int .i64 d.y)) Z pr (by exact rfl))
  refine zd ?_ (h:=fun Z=>ag Z (eM d.y (by omega) (by omega)) (ac (ArgV.v vt) an) rv)
  refine zd ?_ (h:=fun Z=>iP (s:=((Lib.decDigits (d.x).toNat)++[44])) (t:=(Lib.decDigits (d.y).toNat)) (r:=(((Lib.decDigits (d.x).toNat)++[44])++(Lib.decDigits (d.y).toNat))) Z vt vt rfl (by(simp only[List.length_append,List.length_cons,List.length_nil,maxLen];omega)))
  refine zd ?_ (h:=fun Z=>iP (s:=(((Lib.decDigits (d.x).toNat)++[44])++(Lib.decDigits (d.y).toNat))) (t:=[114]) (r:=((((Lib.decDigits (d.x).toNat)++[44])++(Lib.decDigits (d.y).toNat))++[114])) Z vt vc rfl (by(simp only[List.length_append,List.length_cons,List.length_nil,maxLen];omega)))
  refine zd ?_ (h:=fun Z=>gt Z)
  refine bG (aC ?_)
  exact VRes.tmp _ _ _ (by exact rfl) (ce (congrArg (fun z:List UInt8=>Value.string ⟨z.toArray⟩) (by exact dT_f ho (by assumption))))
theorem jn (l:List Dom) (ho:∀ d∈l,okD d=true) (hl:l.length≤64):Fn Tryz.prog 67 [.a (.slv l.length 3 (dsl l))] [.val (.string ⟨(tT l).toArray⟩)]:=by
 refine bm (N:=24) Tryz.func67 rfl (by kernel_rfl) rfl (Nat.le_of_ble_eq_true rfl) [5,6,8,14,18,19,20,23] (dN rfl) (fun W=> ?_)
 show Wp _ _ _ [kV 0 (V.b (.a (.slv l.length 3 (dsl l)))),kF 5,kF 6,kF 8,kF 14,kF 18,kF 19,kF 20,kF 23]
 refine sq (rg (zk (nl (sq (rg ?_)))))
 refine z ?_ (h:=fun Z=>b0T (h:=6) Z og tu)
 refine za (nl (sq (sq (rg (zm ?_)))))
 refine z ?_ (h:=fun Z=>lnV Z vx)
 refine z ?_ (h:=fun Z=>mc Z)
 refine nl (bkk ?_)
 refine bg (fun(k:Nat)=>k≤l.length) (fun(k:Nat)=>[kS 3 6 0 ((tTk l k).length),kV 7 (V.b (.a (.slv l.length 3 (dsl l)))),kI 8 ((l.length:Nat):Int),kI 9 ((k:Nat):Int),kO 6 9 1 true (pl (tsl (tTk l k))),kF 5,kF 8,kF 14,kF 18,kF 19,kF 20,kF 23]) (fun(k:Nat)=>l.length-k) ((0:Nat)) (by exact(Nat.zero_le _:0≤_)) (wkf id (wE (e:=(vsl (by rfl) rfl))<|wS<|wS<|wE (e:=(be (by rfl)))<|wO (e:=aJ (fun h=>h) (congrArg tsl (by rfl)))<|wF<|wF<|wF<|wF<|wF<|wF<|wF<|wN)) ?_
 rintro k inv1
 replace inv1:k≤l.length:=inv1
 have hk:=inv1
 have htl:=Ir hk
 refine sq (rg ?_)
 refine z ?_ (h:=fun Z=>aa Z vt vt (bA rfl))
 refine nl (sq ?_)
 refine wi (fun c2=> ?_) (fun c2=> ?_)
 ·skip
  have c2P:=of_decide_eq_true c2
  have hok:okD (gD l k)=true:=ho _ (nP (by omega))
  refine sk (sq (bkk (sq (rg ?_))))
  refine z ?_ (h:=fun Z=>ixv Z vx CB vt (hlt:=(by omega)))
  refine z ?_ (h:=fun Z=>uD Z ky (by omega))
  refine z ?_ (h:=fun Z=>aL (h:=5) (cap:=1) (s:=3) (cells:=[aI 0,aI 0,aB false]) Z CC rfl rfl (by decide))
  refine z ?_ (h:=fun _=>aE (cells:=[aI ((gD l k).x),aI ((gD l k).y),aB ((gD l k).d)]) ky xt (by exact rfl) (by decide) (by exact ob1 rfl) (by exact Nat.le_of_ble_eq_true rfl) (by exact rfl))
  refine nl (sq (sq (rg ?_)))
  refine z ?_ (h:=fun Z=>ab (xs:=[vI ((gD l k).x),vI ((gD l k).y),.bool ((gD l k).d)].map A.val) Z ky rfl (by decide) rfl)
  refine z ?_ (h:=fun Z=>ag Z (fi (gD l k) ) (ac (ArgV.va va) an) (bi (congrArg Value.bool hok)))
  refine z ?_ (h:=fun Z=>bn Z vt (bS (c:=false) rfl))
  refine nl (wf (sk (rg (zm ?_))))
  refine z ?_ (h:=fun Z=>ab (xs:=[vI ((gD l k).x),vI ((gD l k).y),.bool ((gD l k).d)].map A.val) Z ky rfl (by decide) rfl)
  refine z ?_ (h:=fun Z=>ag Z (nR (gD l k) (by omega)) (ac (ArgV.va va) an) rv)
  refine z ?_ (h:=fun Z=>aP (h:=19) (xs:=tsl ([(dT (gD l k))]:List (List UInt8))) Z og tu (.cons vt OpVs.nil) (by decide) (by decide) (by kernel_rfl) rfl)
  refine z ?_ (h:=fun Z=>aT_ (h2:=20) (L3:=((tTk l k)++[(dT (gD l k))])) Z og tu (by exact rfl) rfl (by exact rfl) (by(simp;omega)))
  refine za (nl (rg ?_))
  refine z ?_ (h:=fun Z=>aa Z vt vc (rA (by omega) (by omega)))
  refine zm (nl ?_)
  exact aA ((k+1)) (by show _≤_;omega) (by show l.length-(k+1)<l.length-k;omega) (wkf (aX [(6,20)]) (wE (e:=(vsl (by(exact congrArg List.length (by first |rfl |omega |exact tS (by omega) |exact Eq.symm (tS (by omega))))) rfl))<|wS<|wS<|wE (e:=(be (by rfl)))<|wO (e:=aJ (fun h=>h) (congrArg tsl (by exact Eq.symm (tS (by omega)))))<|wF<|wF<|wF<|wF<|wF<|wF<|wF<|wN))
 ·skip
  have c2P:=of_decide_eq_false c2
  refine aU (sq (rg (zm ?_)))
  refine z ?_ (h:=fun Z=>ag Z (rF (tTk l k) [32] (by omega) (by exact FL (by omega) hl)) (ac (ci (by exact wQ _)) (ac (ArgV.v vc) an)) rv)
  refine za (nl (aC ?_))
  exact VRes.tmp _ _ _ (by exact rfl) (ce (congrArg (fun z:List UInt8=>Value.string ⟨z.toArray⟩) (by exact Bb (by omega))))
end Cl
end Go.Proofs.YtgmkkfdnmdohlaaGreatDoor
