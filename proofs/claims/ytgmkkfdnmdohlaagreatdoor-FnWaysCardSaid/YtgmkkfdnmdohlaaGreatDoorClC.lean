/- Parts put together: Cl28, Cl29, Cl30, Cl31, Cl32, Cl33. -/
import Derived.Test.YtgmkkfdnmdohlaaGreatDoorClB
import Derived.Maps.OwnOps
import Derived.Maps.Views
import Derived.Lib.Join
import Derived.Lib.ItoaNum
set_option linter.unusedSimpArgs false
set_option linter.unusedVariables false
namespace Go.Proofs.YtgmkkfdnmdohlaaGreatDoor
namespace Cl
open Go.ChangeShapes Go.WideShapes Go.ChangeAt Go.RowKit
structure MCx (Γ:Cx) (B:Nat) (w0:World):Prop where
 hB:Γ.W.heap.size≤B
 lt:B<w0.heap.size
 fm:Frame0 Γ w0
def IY (Γ:Cx) (B:Nat) (K:Exit→World→St→Prop):Exit→Act→World→Prop:=fun e a w=>∃ w0 σ,MCx Γ B w0∧Sats (Γ.reb B w0) σ a w∧K e w0 σ
def WpM (Γ:Cx) (B:Nat) (c:Code) (K:Exit→World→St→Prop) (w0:World) (σ:St):Prop:=∀ a w,Sats (Γ.reb B w0) σ a w→c.wp Γ.P (IY Γ B K) a w
def wW (Γ:Cx) (B:Nat) (ops:Array Oper) (rest:List Oper) (K:Exit→World→St→Prop) (w0:World) (σ:St):Prop:=∀ a w,Sats (Γ.reb B w0) σ a w→wpList Γ.P ops (IY Γ B K) rest a w
def Ji (n:World→St→Prop) (K:Exit→World→St→Prop):Exit→World→St→Prop
 | .normal,w,σ=>n w σ
 | e,w,σ=>K e w σ
def Di (id:Nat) (K:Exit→World→St→Prop):Exit→World→St→Prop
 | .exit id',w,σ=>bif Nat.beq id' id then K .normal w σ else K (.exit id') w σ
 | e,w,σ=>K e w σ
section
variable {Γ:Cx} {B:Nat} {K:Exit→World→St→Prop} {w0:World} {σ:St}
theorem vK {c:Code} (hM:MCx Γ B w0) (h:Wp (Γ.reb B w0) c (fun e σ=>K e w0 σ) σ):WpM Γ B c K w0 σ:=fun a w hs=>
 wp_mono (h a w hs) fun _ _ _ ⟨σ',hs',hk⟩=>⟨w0,σ',hM,hs',hk⟩
theorem KJ {c:Code} {K':Exit→St→Prop} (h:WpM Γ B c K w0 σ) (hK:∀ e w1 σ',K e w1 σ'→K' e σ') {a:Act} {w:World} (hs:Sats (Γ.reb B w0) σ a w):c.wp Γ.P (lift Γ K') a w:=
 wp_mono (h a w hs) fun _ _ _ ⟨_,σ',hM,⟨ρ,I,hs'⟩,hk⟩=>⟨σ',⟨ρ,I,hs'.back hM.hB hM.fm⟩,hK _ _ _ hk⟩
theorem qH {x y:Code} (h:WpM Γ B x (Ji (fun w1 σ=>MCx Γ B w1→WpM Γ B y K w1 σ) K) w0 σ):WpM Γ B (.seq x y) K w0 σ:=by
 intro a w hs
 refine wp_seq (wp_mono (h a w hs) fun e a' w' hq=> ?_)
 obtain⟨w1,σ',hM,hs',hk⟩:=hq
 cases e<;>first |exact hk hM a' w' hs' |exact⟨w1,σ',hM,hs',hk⟩
theorem yG {id:Nat} {c:Code} (h:WpM Γ B c (Di id K) w0 σ):WpM Γ B (.block id c) K w0 σ:=by
  intro a w hs
  refine wp_block (wp_mono (h a w hs) fun e a' w' hq=> ?_)
  obtain⟨w1,σ',hM,hs',hk⟩:=hq
  cases e with
  | exit id'=>
    simp only[Di]at hk
    simp only[Exit.inBlock]
    by_cases e:id'=id
    · subst e
      rw[if_pos rfl]
      have:Nat.beq id' id'=true:=by simp
      rw[this]at hk;exact⟨w1,σ',hM,hs',hk⟩
    · rw[if_neg e]
      have:Nat.beq id' id=false:=by
        rcases Bool.eq_false_or_eq_true (Nat.beq id' id)with h |h
        · exact absurd (Nat.eq_of_beq_eq_true h) e
        · exact h
      rw[this]at hk;exact⟨w1,σ',hM,hs',hk⟩
  | _=>exact⟨w1,σ',hM,hs',hk⟩
theorem CX {id:Nat} {l:List Oper} (h:wW Γ B l.toArray l K w0 σ):WpM Γ B (.region id l.toArray false) K w0 σ:=fun a w hs=>wp_region_lit (h a w hs)
theorem Gd {ops:Array Oper} {o:Oper} {rest:List Oper} {R:List (Key × Cell)} {W:St} (h:fA (Γ.reb B w0) ops o R W) (hR:kj σ R=fz R) (hr:wW Γ B ops rest K w0 (W++σ)):wW Γ B ops (o::rest) K w0 σ:=by
 intro a w hs
 have hR':Reads σ R:=mm hR
 refine wpList_step fun K' hK'=>h σ a w hs hR'.all K' _ fun a' w' hs'=>hK' a' w' (hr a' w' hs')
theorem IE {ops:Array Oper} (hM:MCx Γ B w0) (h:K .normal w0 σ):wW Γ B ops [] K w0 σ:=fun _ _ hs=>⟨w0,σ,hM,hs,h⟩
theorem IG {c:Code} {α:Type} (inv:α→World→Prop) (head:α→St) (μ :α→Nat) (x0:α) (h0:inv x0 w0) (hM:MCx Γ B w0) (hσ:eO (Γ.reb B w0) σ (head x0))
    (round:∀ x w1,MCx Γ B w1→inv x w1→WpM Γ B c (Ji (fun w2 σ'=>∃ y,inv y w2∧ μ y< μ x∧eO (Γ.reb B w2) σ' (head y)) K) w1 (head x)):WpM Γ B (.loop c) K w0 σ:=by
  classical
  intro a w hs
  let Pn:Act→World→Nat→Prop:=fun a w n=>∃ x w1,MCx Γ B w1∧inv x w1∧Sats (Γ.reb B w1) (head x) a w∧ μ x=n
  let M:Act→World→Nat:=fun a w=>if h:∃ n,Pn a w n then Classical.choose (show ∃ n,Pn a w n∧∀ m,Pn a w m→n≤m from by
    obtain⟨n,hn⟩:=h
    induction n using Nat.strongRecOn with
    | _ n ih=>
      by_cases hm:∃ m,m<n∧Pn a w m
      · obtain⟨m,hm,hp⟩:=hm;exact ih m hm hp
      · exact⟨n,hn,fun m hp=>Nat.le_of_not_lt fun hlt=>hm ⟨m,hlt,hp⟩⟩)else 0
  have hMm:∀ a w,(∃ n,Pn a w n)→Pn a w (M a w)∧∀ m,Pn a w m→M a w≤m:=fun a w h=>by
    simp only[M,dif_pos h]
    exact Classical.choose_spec (p:=fun n=>Pn a w n∧∀ m,Pn a w m→n≤m) _
  refine wp_loop (fun a w=>∃ n,Pn a w n) M ⟨_,x0,w0,hM,h0,hσ a w hs,rfl⟩ fun a w hI=> ?_
  obtain⟨⟨x,w1,hM1,hx,hsx,hmx⟩,_⟩:=hMm a w hI
  refine wp_mono (round x w1 hM1 hx a w hsx) fun e a' w' hq=> ?_
  obtain⟨w2,σ',hM2,hs',hk⟩:=hq
  cases e with
  | normal=>
    obtain⟨y,hy,hlt,hwk⟩:=hk
    have hp:Pn a' w' (μ y):=⟨y,w2,hM2,hy,hwk a' w' hs',rfl⟩
    have:=(hMm a' w' ⟨_,hp⟩).2 _ hp
    exact⟨⟨_,hp⟩,by omega⟩
  | _=>exact⟨w2,σ',hM2,hs',hk⟩
end
section
variable {Γ:Cx} {B:Nat} {w0:World} {d:Nat} {ty:TypeId} {pos:String} {af:Array Edge} {g:Option (Nat × Bool)} {H:Type}
theorem wY {t k e n:Nat} {m x:Operand} {D:DataW H} {s:Value} {kl:Lit} {c:Int} {R R':List (Key × Cell)} (hM:MCx Γ B w0) (hN:Γ.ok d) (K:Maps.Keyed Γ.P k) (ht:Γ.P.underlying t=some (.map k e)) (he:Γ.P.underlying e=some (.int .i64))
  (hz:∀ w,(zeroValue e).run Γ.P w= .ok (.int .i64 0) w) (hown:w0.ownsMap Γ.P k (plainElem Γ.P e) B n D) (hm:OpV m (.map (some B)) R) (hx:OpV x s R') (hkey:keyOf Γ.P k s=some kl) (hc:D.atKey kl (.lit (.int .i64 0))= .lit (.int .i64 c)):
  Acts (Γ.reb B w0) ⟨some d,.lookup t m x false,ty,pos,af,g⟩ (R++R') [(.s d,some (.s (V.v (.int .i64 c))))]:=by
 intro σ a w ρ I hs hR K' Q hK
 have hf:=fF hs hR
 have e1:=hm.ev hf.left
 have e2:=hx.ev hf.right
 have hown':w.ownsMap Γ.P k (plainElem Γ.P e) B n D:=by
  obtain⟨es,cl,q1,q2⟩:=hown
  exact⟨es,cl,(hs.reb_off hM.lt).2.2.2.trans q1,q2⟩
 obtain⟨c',hrun,hat,_⟩:=hown'.lookup_int K ht he (hz w) hkey
 rw[hc]at hat
 have hcc:c'=c:=by injection hat with hat;injection hat with _ hat;exact hat.symm
 subst hcc
 have hr':(Instr.lookup t (.map (some B)) s false).run (Γ.reb B w0).P w= .ok (.int .i64 c') w:=hrun
 unfold Oper.wp
 simp [execOp,e1,e2,hr',Result.andThen]
 exact hK _ _ ⟨ρ,I,hs.put (Γ:=Γ.reb B w0) hN rfl⟩
theorem Sat.grown {Γ:Cx} {σ:St} {a:Act} {w:World} {ρ:Nat→Option Place} {I:Nat→Prop} (h:Sat Γ σ a w ρ I) (o:Obj):Sat Γ σ a (w.alloc o) ρ I:=by
 have ho:∀ b,b<w.heap.size→(w.alloc o).heap[b]? =w.heap[b]? :=(MapKept.heap_alloc w o).2
 have hs:w.heap.size≤(w.alloc o).heap.size:=by show w.heap.size≤(w.heap.push o).size;simp
 have hI:∀ b,I b→I b∧(w.alloc o).heap[b]? =w.heap[b]? :=fun b hb=>⟨hb,ho b (h.m.im b hb)⟩
 have hrw:=h.m.rows (τ:=σ) (w':=w.alloc o) (ρ':=ρ) (I':=I) (fun _ _ h=>h) (fun _ _ _ _ h=>h) (fun x o' p hx hp hl=>ho _ (h.m.pl x p o' hx hp hl).2.2) fun hr=>⟨ho _ (h.m.rs.ok hr).lt,(h.m.rs.ok hr).ni,Nat.lt_of_lt_of_le (h.m.rs.ok hr).lt hs⟩
 refine⟨h.n,h.d,h.fx,h.kp,fun k v hk=>(h.sl k v hk).mono (fun _ _ h=>h) hI,?_⟩
 refine⟨fun x o' hx=>(h.m.ow x o' hx).mono (fun _ _ h=>h) hI fun p hp hl=>ho _ (h.m.pl x p o' hx hp hl).2.2,h.m.fr,fun x p o' hx hp hl=> ?_,h.m.inj,fun b hb=>Nat.lt_of_lt_of_le (h.m.im b hb) hs,hrw.1,fun hri=>hrw.2 hri,?_⟩
 ·obtain⟨h1,h2,h3⟩:=h.m.pl x p o' hx hp hl
  exact⟨h1,h2,Nat.lt_of_lt_of_le h3 hs⟩
 ·obtain⟨g1,g2,g3,g4,g5⟩:=h.m.fm
  exact⟨g1,g2,g3,Nat.le_trans g4 hs,fun b hb hn=>(ho b (Nat.lt_of_lt_of_le hb g4)).trans (g5 b hb hn)⟩
theorem zT {Γ:Cx} {ops:Array Oper} {rest:List Oper} {K':Exit→World→St→Prop} {σ:St} {t k e n:Nat} {m x v:Operand} {D:DataW H} {s:Value} {kl:Lit} {c:Int} {R1 R2 R3:List (Key × Cell)} (hM:MCx Γ B w0) (K:Maps.Keyed Γ.P k) (ht:Γ.P.underlying t=some (.map k e)) (he:Γ.P.underlying e=some (.int .i64))
  (hown:w0.ownsMap Γ.P k (plainElem Γ.P e) B n D) (hn:n<maxLen) (hkey:keyOf Γ.P k s=some kl) (hc:(Lit.int .i64 c).wf=true) (hm:OpV m (.map (some B)) R1) (hx:OpV x s R2) (hv:OpV v (.int .i64 c) R3)
  (hR:kj σ (R1++R2++R3)=fz (R1++R2++R3))
  (hr:∀ w1,MCx Γ B w1→w1.ownsMap Γ.P k (plainElem Γ.P e) B (n+1) (D.put kl (.lit (.int .i64 c)))→wW Γ B ops rest K' w1 σ):
  wW Γ B ops (⟨none,.mapUpdate t m x v,ty,pos,af,none⟩::rest) K' w0 σ:=by
 intro a w ⟨ρ,I,hs⟩
 have hf:=fF hs (mm hR).all
 have hown':w.ownsMap Γ.P k (plainElem Γ.P e) B n D:=by
  obtain⟨es,cl,q1,q2⟩:=hown
  exact⟨es,cl,(hs.reb_off hM.lt).2.2.2.trans q1,q2⟩
 refine wpList_mapUpdate_own w rfl m x v t rfl k e K ht _ B n D (hm.ev hf.left.left) hown' hn s (.int .i64 c) kl (hx.ev hf.left.right) (hv.ev hf.right) hkey _ [] (plainElem_int he hc) fun w1 h1 hg=> ?_
 have hs1:=hs.turned hM.lt hM.fm (w1:=w1) hg.size fun b hb hne=>hg.block b hb (by simpa using hne)
 have hF:=Frame0.turned hM.hB (Frame0.trans hM.hB hM.fm hs.m.fm) hg.os hg.tape hg.output hg.size fun b hb hne=>hg.block b hb (by simpa using hne)
 exact hr w1 ⟨hM.hB,h1.lt,hF⟩ h1 _ _ ⟨ρ,I,hs1⟩
end
end Cl
end Go.Proofs.YtgmkkfdnmdohlaaGreatDoor
namespace Go.Proofs.YtgmkkfdnmdohlaaGreatDoor
namespace Cl
open Go.ChangeShapes Go.WideShapes Go.ChangeAt Go.RowKit
theorem GS {P:Program} {f:Nat} (hc:ji P f) (h:∀ (i:Nat),i<100→∀ w,Calls P f #[.int .i64 i] w fun e w'=>e= .returned (.string ⟨(Lib.decDigits i).toArray⟩)∧w'=w) {n:Int} (h0:0≤n) (h1:n<100):
  Fn P f [.a (.val (.int .i64 n))] [.val (.string ⟨(Lib.decDigits n.toNat).toArray⟩)]:=by
 refine⟨hc,fun w args ⟨hl,ha⟩=> ?_⟩
 obtain⟨u,rfl⟩:∃ u,args=[u]:=by
  match args,hl with
  | [u],_=>exact⟨u,rfl⟩
 have e1:u= .int .i64 n:=ha 0 _ u rfl rfl
 subst e1
 have:=h n.toNat (by omega) w
 rw[show((n.toNat:Nat):Int)=n by omega]at this
 refine this.mono fun e w' ⟨he,hw⟩=> ?_
 subst he;subst hw
 exact⟨_,rfl,rfl,Below.refl _ _⟩
theorem GT {P:Program} {f:Nat} (hc:ji P f)
    (h0:∀ (a:Option Addr) (c:Nat) (sep:ByteArray) (w:World),Calls P f #[.slice a 0 c,.string sep] w fun e w'=>e= .returned (.string ⟨#[]⟩)∧w'=w)
    (h1:∀ (bk o c:Nat) (xs:List ByteArray) (sep:ByteArray) (w:World),(∀ (j:Nat) x,xs[j]? =some x→w.cell? ⟨bk,o+j,none⟩=some (.string x))→bk<w.heap.size→xs.length≤140737488355328→xs.length≤c→(Lib.join (xs.map (·.data.toList)) sep.data.toList).length≤140737488355328→
      Calls P f #[.slice (some ⟨bk,o,none⟩) xs.length c,.string sep] w fun e w'=>e= .returned (.string ⟨(Lib.join (xs.map (·.data.toList)) sep.data.toList).toArray⟩)∧Below w.heap.size w w')
    {xs:List ByteArray} {sep:ByteArray} {n:Nat} (hn:n=xs.length) (hl:xs.length≤140737488355328) (hj:(Lib.join (xs.map (·.data.toList)) sep.data.toList).length≤140737488355328):
    Fn P f [.a (.slv n 1 (xs.map Value.string)),.a (.val (.string sep))] [.val (.string ⟨(Lib.join (xs.map (·.data.toList)) sep.data.toList).toArray⟩)]:=by
  subst hn
  refine⟨hc,fun w args ⟨hl',ha⟩=> ?_⟩
  obtain⟨u,v,rfl⟩:∃ u v,args=[u,v]:=by
    match args,hl' with
    | [u,v],_=>exact⟨u,v,rfl⟩
  have e1:v= .string sep:=ha 1 _ v rfl rfl
  subst e1
  obtain⟨_,A,c,rfl,hcap,hA⟩:RelA ρ0 (I0 w) w (.slv xs.length 1 (xs.map Value.string)) u:=ha 0 _ u rfl rfl
  rcases Nat.eq_zero_or_pos xs.length with hz |hp
  · have hx:=List.eq_nil_of_length_eq_zero hz
    subst hx
    refine(h0 A c sep w).mono fun e w' ⟨he,hw⟩=> ?_
    subst he;subst hw
    exact⟨_,rfl,rfl,Below.refl _ _⟩
  · obtain⟨g,o,rfl,hg,hcell⟩:=hA hp
    refine(h1 g o c xs sep w (fun j x hx=>hcell j (.string x) (by rw[List.getElem?_map,hx];rfl)) hg hl hcap hj).mono fun e w' ⟨he,hw⟩=> ?_
    subst he
    exact⟨_,rfl,rfl,hw⟩
section
variable {Γ:Cx} {d:Nat} {ty:TypeId} {pos:String} {af:Array Edge} {g:Option (Nat × Bool)}
theorem Db {x y:Operand} {xT yT:TypeId} {s t r:ByteArray} {R R':List (Key × Cell)} (hN:Γ.ok d) (hx:OpV x (.string s) R) (hy:OpV y (.string t) R') (hr:s++t=r) (hs:s.size+t.size≤maxLen):
  Acts Γ ⟨some d,.binOp .add xT x y yT,ty,pos,af,g⟩ (R++R') [(.s d,some (.s (V.v (.string r))))]:=
 aa hN hx hy fun w=>by
  have hg:(eqGuard .add xT x y (.string s) (.string t)).run Γ.P w= .ok () w:=rfl
  have hm:IntKind.i64.max=9223372036854775807:=rfl
  have hb:¬(((s.size+t.size:Nat):Int)>IntKind.i64.max):=by rw[hm];unfold maxLen at hs;omega
  rw[Sem.run_bind,hg]
  show(Op.stringOp .add s t).run Γ.P w=_
  unfold Op.stringOp
  rw[if_neg hb,hr];rfl
end
end Cl
end Go.Proofs.YtgmkkfdnmdohlaaGreatDoor
namespace Go.Proofs.YtgmkkfdnmdohlaaGreatDoor
namespace Cl
open Go.ChangeShapes Go.WideShapes Go.ChangeAt Go.RowKit
def WpQ (Γ:Cx) (ops:Array Oper) (Q:Exit→Act→World→Prop) (rest:List Oper) (σ:St):Prop:=∀ a w,Sats Γ σ a w→wpList Γ.P ops Q rest a w
section
variable {Γ:Cx} {ops:Array Oper} {Q:Exit→Act→World→Prop} {rest:List Oper} {σ:St}
theorem IM {o:Oper} {R:List (Key × Cell)} {W:St} (h:fA Γ ops o R W) (hR:kj σ R=fz R) (hr:WpQ Γ ops Q rest (W++σ)):WpQ Γ ops Q (o::rest) σ:=by
 intro a w hs
 refine wpList_step fun K' hK'=>h σ a w hs (mm hR).all K' _ fun a' w' hs'=>hK' a' w' (hr a' w' hs')
theorem KK (h:∀ a w,Sats Γ σ a w→Q .normal a w):WpQ Γ ops Q [] σ:=fun a w hs=>h a w hs
variable {d:Nat} {ty:TypeId} {pos:String} {af:Array Edge} {H:Type}
theorem IP {t k e:Nat} (hN:Γ.ok d) (hr:∀ B w0,MCx Γ B w0→w0.ownsMap (H:=H) Γ.P k (plainElem Γ.P e) B 0 (.map [])→WpQ (Γ.reb B w0) ops Q rest ([(.s d,some (.s (V.v (.map (some B)))))]++σ)):
  WpQ Γ ops Q (⟨some d,.makeMap t none,ty,pos,af,none⟩::rest) σ:=by
 intro a w ⟨ρ,I,hs⟩
 have h1:=hs.grown (.map #[] 0)
 have h2:MCx Γ w.heap.size (w.alloc (.map #[] 0)):=⟨hs.m.fm.2.2.2.1,by show w.heap.size<(w.heap.push _).size;simp,h1.m.fm⟩
 refine wpList_step fun K' hK'=> ?_
 rw[if_pos (by simp [Region.wanted])]
 have hrun:(execOp a.eval ⟨some d,.makeMap t none,ty,pos,af,none⟩).run Γ.P w= .ok (.value (.map (some w.heap.size))) (w.alloc (.map #[] 0)):=rfl
 unfold Oper.wp
 rw[hrun]
 show K' (a.put (some d) _) _
 refine hK' _ _ (hr _ _ h2 (World.ownsMap_made w Γ.P k (plainElem Γ.P e)) _ _ ⟨ρ,I,(h1.reb (B:=w.heap.size) (fun x o p hx hp hl=>Nat.ne_of_lt (hs.m.pl x p o hx hp hl).2.2) (fun hri=> ?_) (fun hI=>Nat.lt_irrefl _ (hs.m.im _ hI))).put (Γ:=Γ.reb w.heap.size (w.alloc (.map #[] 0))) hN rfl⟩)
 obtain⟨o,p,q1,q2,q3,q4,q5⟩:=hri
 refine Nat.ne_of_lt (hs.m.rs.ok ⟨o,p,q1,q2,q3,q4,Eq.trans ?_ q5⟩).lt
 exact(World.cell?_of_block (w:=w) (w':=w.alloc (.map #[] 0)) ((MapKept.heap_alloc w _).2 _ (hs.m.pl _ p o q1 q2 q3).2.2)).symm
theorem IJ {id t k e:Nat} {y:Code} {K:Exit→St→Prop} (hN:Γ.ok d)
  (hr:∀ B w0,MCx Γ B w0→w0.ownsMap (H:=H) Γ.P k (plainElem Γ.P e) B 0 (.map [])→∃ τ,(∀ Q:Exit→Act→World→Prop,(∀ a w,Sats (Γ.reb B w0) τ a w→Q .normal a w)→WpQ (Γ.reb B w0) (⟨some d,.makeMap t none,ty,pos,af,none⟩::rest).toArray Q rest ([(.s d,some (.s (V.v (.map (some B)))))]++σ))∧WpM Γ B y (fun e _ τ=>K e τ) w0 τ):
  Wp Γ (.seq (.region id (⟨some d,.makeMap t none,ty,pos,af,none⟩::rest).toArray false) y) K σ:=by
 intro a w hs
 refine wp_seq (wp_region_lit (IP (H:=H) (k:=k) (e:=e) hN (fun B w0 hM hown=> ?_) a w hs))
 obtain⟨τ,h1,h2⟩:=hr B w0 hM hown
 exact h1 _ fun a' w' hs'=>KJ h2 (fun _ _ _ h=>h) hs'
end
end Cl
end Go.Proofs.YtgmkkfdnmdohlaaGreatDoor
namespace Go.Proofs.YtgmkkfdnmdohlaaGreatDoor
namespace Cl
open Go.ChangeShapes Go.WideShapes Go.ChangeAt Go.RowKit
def tsl (l:List (List UInt8)):List Value:=l.map fun t=> .string ⟨t.toArray⟩
theorem wQ (l:List (List UInt8)):(tsl l).length=l.length*1:=by simp [tsl]
theorem zP (l m:List (List UInt8)):tsl (l++m)=tsl l++tsl m:=by simp [tsl]
theorem FX (l:List (List UInt8)):∀ v∈tsl l,v.oneCell'=true:=by
 intro v hv
 obtain⟨x,_,rfl⟩:=List.mem_map.1 hv
 rfl
theorem Js (s t:List UInt8):(⟨s.toArray⟩:ByteArray)++⟨t.toArray⟩=⟨(s++t).toArray⟩:=by
 apply ByteArray.ext
 simp
section
variable {Γ:Cx} {d:Nat} {ty:TypeId} {pos:String} {af:Array Edge} {g:Option (Nat × Bool)}
theorem iP {x y:Operand} {xT yT:TypeId} {s t r:List UInt8} {R R':List (Key × Cell)} (hN:Γ.ok d) (hx:OpV x (.string ⟨s.toArray⟩) R) (hy:OpV y (.string ⟨t.toArray⟩) R') (hr:s++t=r) (hs:s.length+t.length≤maxLen):
  Acts Γ ⟨some d,.binOp .add xT x y yT,ty,pos,af,g⟩ (R++R') [(.s d,some (.s (V.v (.string ⟨r.toArray⟩))))]:=
 Db hN hx hy (by rw[Js,hr]) (by simpa [ByteArray.size] using hs)
theorem b0T {t e h b:Nat} {z:Value} (hN:Γ.ok d) (hu:Γ.P.underlying t=some (.slice e)) (hz:ZI Γ.P e z 1 b):Acts Γ ⟨some d,.buildSlice t 0 #[],ty,pos,af,g⟩ [(.o h,.free)] [(.s d,some (.s (.b (.a (.sl h 0 0))))),(.o h,some (.o ⟨e,1,true,pl (tsl [])⟩))]:=df hN hu hz
theorem aT_ {x h h2 n m t e b hy Ty:Nat} {z:Value} {y:Nat} {exy:Bool} {L L2 L3:List (List UInt8)} (hN:Γ.ok d) (ht:Γ.P.underlying t=some (.slice e)) (hz:ZI Γ.P e z 1 b) (hl:L.length=n:=by simp) (h3:L++L2=L3:=by exact rfl) (h2':L2.length=m:=by simp) (hn:L3.length≤4194304:=by(simp;omega)) (hb:b≤1000:=by decide) (hzc:z.cells.size=1:=by exact rfl):
  Acts Γ ⟨some d,.call { callee:= .builtin .append,args:= #[.tmp x,.tmp y],argTypes:= #[t,t] },ty,pos,af,g⟩ ((.s x,.s (.b (.a (.sl h 0 n))))::(.o h,.o ⟨e,1,true,pl (tsl L)⟩)::(.o h2,.free)::([(.s y,.s (V.b (.a (.sl hy 0 m))))]++[(.o hy,.o ⟨Ty,1,exy,pl (tsl L2)⟩)]))
   [(.s d,some (.s (.b (.a (.sl h2 0 L3.length))))),(.o h2,some (.o ⟨e,1,true,pl (tsl L3)⟩)),(.o h,none)]:=by
 subst h3
 exact gf hN ht hz hzc (by decide) hb (by rw[wQ,hl,Nat.mul_one]) xt (pI (by rw[wQ,h2',Nat.mul_one])) (FX _) (by rw[List.length_append,hl,h2']at hn;exact hn) (zP _ _).symm (by rw[List.length_append,hl,h2'])
end
theorem DT {P:Program} {f:Nat} (hc:ji P f)
    (h0:∀ (a:Option Addr) (c:Nat) (sep:ByteArray) (w:World),Calls P f #[.slice a 0 c,.string sep] w fun e w'=>e= .returned (.string ⟨#[]⟩)∧w'=w)
    (h1:∀ (bk o c:Nat) (xs:List ByteArray) (sep:ByteArray) (w:World),(∀ (j:Nat) x,xs[j]? =some x→w.cell? ⟨bk,o+j,none⟩=some (.string x))→bk<w.heap.size→xs.length≤140737488355328→xs.length≤c→(Lib.join (xs.map (·.data.toList)) sep.data.toList).length≤140737488355328→
      Calls P f #[.slice (some ⟨bk,o,none⟩) xs.length c,.string sep] w fun e w'=>e= .returned (.string ⟨(Lib.join (xs.map (·.data.toList)) sep.data.toList).toArray⟩)∧Below w.heap.size w w')
    (L:List (List UInt8)) (p:List UInt8) (hl:L.length≤140737488355328) (hj:(Lib.join L p).length≤140737488355328):
    Fn P f [.a (.slv L.length 1 (tsl L)),.a (.val (.string ⟨p.toArray⟩))] [.val (.string ⟨(Lib.join L p).toArray⟩)]:=by
  have e1:(L.map fun t=>(⟨t.toArray⟩:ByteArray)).map (·.data.toList)=L:=by
    rw[List.map_map]
    conv=>rhs;rw[←List.map_id L]
    exact List.map_congr_left fun t _=>by simp
  have e2:(L.map fun t=>(⟨t.toArray⟩:ByteArray)).map Value.string=tsl L:=by rw[List.map_map];rfl
  have:=GT hc h0 h1 (xs:=L.map fun t=>(⟨t.toArray⟩:ByteArray)) (sep:=⟨p.toArray⟩) (n:=L.length) (by simp) (by simpa using hl) (by rw[e1];simpa using hj)
  rw[e1,e2]at this
  simpa using this
end Cl
end Go.Proofs.YtgmkkfdnmdohlaaGreatDoor
namespace Go.Proofs.YtgmkkfdnmdohlaaGreatDoor
namespace Cl
open Go.ChangeShapes Go.WideShapes Go.ChangeAt Go.RowKit
theorem yI {Γ:Cx} {ops:Array Oper} {rest:List Oper} {K:Exit→St→Prop} {σ τ:St} (h:eO Γ σ τ) (hw:WpL Γ ops rest K τ):WpL Γ ops rest K σ:=fun a w hs=>hw a w (h a w hs)
theorem keyT {P:Program} {k:TypeId} (hk:P.underlying k=some .string) {t:List UInt8} (h:t.length≤maxLen):keyOf P k (.string ⟨t.toArray⟩)=some (.string t):=WideMaps.keyOf_string_mk hk h
theorem wfI {c:Int} (h0: -9223372036854775808≤c) (h1:c≤9223372036854775807):(Lit.int .i64 c).wf=true:=by
 have e0:IntKind.i64.min= -9223372036854775808:=rfl
 have e1:IntKind.i64.max=9223372036854775807:=rfl
 show(decide _&&decide _)=true
 rw[e0,e1,decide_eq_true h0,decide_eq_true h1];rfl
theorem zvI {P:Program} {e b:Nat} (h:ZI P e (.int .i64 0) 1 b) (w:World):(zeroValue e).run P w= .ok (.int .i64 0) w:=by
 obtain⟨i,h1,h2,_,_⟩:=h.get
 simp [zeroValue,typeInfo,h1,h2,go_sem]
theorem mapK {P:Program} {k:TypeId} (hk:P.underlying k=some .string):Maps.Keyed P k:=Maps.string_keyed hk
section
variable {Γ:Cx} {B:Nat} {K:Exit→World→St→Prop} {w0:World} {σ W:St} {ops:Array Oper} {o:Oper} {rest:List Oper} {R:List (Key × Cell)}
theorem zM (hk:wW Γ B ops rest K w0 (W++σ)) (hr:kj σ R=fz R:=by exact rfl) (h:kh (Γ.reb B w0) o.dst→Acts (Γ.reb B w0) o R W) (hg:o.guard=none:=by exact rfl) (hn:kh (Γ.reb B w0) o.dst:=by exact ltD rfl):wW Γ B ops (o::rest) K w0 σ:=Gd (eA hg (h hn)) hr hk
variable {Q:Exit→Act→World→Prop}
theorem zQ (hk:WpQ Γ ops Q rest (W++σ)) (hr:kj σ R=fz R:=by exact rfl) (h:kh Γ o.dst→Acts Γ o R W) (hg:o.guard=none:=by exact rfl) (hn:kh Γ o.dst:=by exact ltD rfl):WpQ Γ ops Q (o::rest) σ:=IM (eA hg (h hn)) hr hk
end
end Cl
end Go.Proofs.YtgmkkfdnmdohlaaGreatDoor
namespace Go.Proofs.YtgmkkfdnmdohlaaGreatDoor
namespace Cl
open Go.ChangeShapes Go.WideShapes Go.ChangeAt Go.RowKit
section
variable {Γ:Cx} {ty:TypeId} {pos:String} {af:Array Edge} {g:Option (Nat × Bool)}
end
end Cl
end Go.Proofs.YtgmkkfdnmdohlaaGreatDoor
