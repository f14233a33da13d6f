
import Derived.Test.YtonlghbbdcddoaaGreatInts
namespace Go.Proofs.YtonlghbbdcddoaaGreat
open Go.ChangeShapes Go.WideShapes Go.ChangeAt Go.RowKit
def qQ (a h:Int):Int:=if h= -1000 then a else wrap64 (a+h)
def pU (l:List Int):Int:=l.foldl qQ 0
theorem Fa (l:List Int) (k:Nat) (h:k<l.length):pU (l.take (k+1))=qQ (pU (l.take k)) l[k]:=by
 unfold pU
 rw[List.take_succ_eq_append_getElem h,List.foldl_append];rfl
set_option maxHeartbeats 400000 in
theorem uS (l:List Int) (A:Option Addr) (n c:Nat) (w:World) (hrd:Rd w 1 A n (isl l)) (hl:n≤4194304):
  Calls Tryz.prog 34 #[.slice A n c] w fun e w'=>e= .returned (.int .i64 (pU l))∧Below w.heap.size w w':=by
 obtain rfl:=hrd.len1
 go_enter Tryz.func34,Tryz.ntmps34
 go_wp2
 go_loopw [3,8] (fun a i wr=>∃ k:Nat,k≤l.length∧i= .int .i64 k∧a= .int .i64 (pU (l.take k))∧Below w.heap.size w wr) (fun _ i _=>l.length-(intOf i).toNat)
 case atStart=>exact⟨0,Nat.zero_le _,rfl,rfl,Below.refl _ _⟩
 case round=>
  obtain⟨k,hk,rfl,rfl,hbw⟩:=hrel
  by_cases hlt:k<l.length
  ·have HS:=Lib.hid (Fa l k hlt)
   obtain⟨g,off,rfl,hg,c0⟩:=(hrd.below hbw (Nat.le_refl _)).ints hlt
   go_wp2
   all_goals
    go_roundw
    case rel=>exact⟨k+1,by omega,by go_num,by rw[HS.out];unfold qQ;first |rw[if_pos (by assumption)] |rw[if_neg (by assumption)] |(simp_all;done),hbw⟩
    case measure=>simp [intOf];omega
  ·obtain rfl:k=l.length:=by omega
   go_wp2
   go_ret
   exact⟨by simp,hbw⟩
end Go.Proofs.YtonlghbbdcddoaaGreat
