/- Laws and walks. No condition beyond what each says. -/
import Derived.Test.YtfecljadegkmdaaGreatJ0
import Derived.Shelf.Sort.Plain
import Derived.Shelf.Slices.In.SortNone
import Derived.Test.YtfecljadegkmdaaGreatLibE
namespace Go.Proofs.YtfecljadegkmdaaGreat
open Go Go.Gm Tryz
set_option linter.unusedVariables false
set_option linter.unusedSimpArgs false
set_option maxHeartbeats 4000000
set_option maxRecDepth 8000
theorem Zpl (o:Option Nat):FnP prog 124 [.is (arV o)] (.agg [.is (arV o),.int .i64 0]):=by
 refine FnP.mk func124 Z ntmps124 Z fun B a w F V hfr O=>Ya ?_
 refine Zb O (qf (oH [.pointer none,.int .i64 0] 101) trivial qz qZ) V [2,0] [101,0] (fun _=>rfl) (fun _=>rfl) fun τ a w F O=>?_
 try dsimp only [RS.sub,SF.sub,CF.sub,csub,Anc.sub,List.map,zCF,Z4,ZC] at O
 generalize τ 2=v2 at O
 refine Za (Ya (rZ O (qR rr (qf (oB [(0,.tmp 3)] [.pointer none,.int .i64 0] [(0,1),(1,1)] (.one Z .t Zh3 kr .nil)) r1 qz (qs 2 101 r2 r1 qZ))) V [2] [101,0] fun O=>Yh ?_))
 refine Z3 hfr O Z (.cl 101 true 2 Z Z .nil) (.one (.aggU Z Z))
def Zqa (th:Bool) (q:List Cell) (m:St):St:=if th=true then Zc4 q.length m else (q,1,0)
def kp (x:Int):ZF:=⟨0,x⟩
def allQ (room:Int):Nat→List Cell→Int→List Int→St
 | 0,q,why,_=>(q,why,0)
 | n+1,q,why,l=>if l = [] then (q,why,0) else
  madeS room (allQ room n (allQ room n q why (l.take (l.length / 2))).1 (allQ room n q why (l.take (l.length / 2))).2.1 (l.drop (l.length / 2+1))).1 (allQ room n (allQ room n q why (l.take (l.length / 2))).1 (allQ room n q why (l.take (l.length / 2))).2.1 (l.drop (l.length / 2+1))).2.1 (allQ room n q why (l.take (l.length / 2))).2.2 (allQ room n (allQ room n q why (l.take (l.length / 2))).1 (allQ room n q why (l.take (l.length / 2))).2.1 (l.drop (l.length / 2+1))).2.2 ⟨0,Nn l (l.length / 2)⟩
theorem ZsQ {l:List Int} {i:Nat} (h:i<l.length):Nn (l.map kp) i = ⟨0,Nn l i⟩:=by rw [Zy (by simpa using h),Zy h,Yan];rfl
theorem Zpd (room:Int):∀ (n:Nat) (q:List Cell) (why:Int) (l:List Int),allQ room n q why l=allS room n q why (l.map kp)
 | 0,q,why,l=>rfl
 | n+1,q,why,l=>by
  unfold allQ allS
  by_cases h:l = []
  ·rw [Yf h,Yf (by rw [h];rfl)]
  ·have hp:0<l.length:=YaA.2 h
   rw [Yb h,Yb (by simpa using h),YP,← List.map_take,← List.map_drop,ZsQ ow]
   simp only [Zpd room n]
theorem shr1 (l:List Int):Int.fdiv (l.length:Int) (2 ^ min (1:Int).toNat (IntKind.bits .i64))=((l.length / 2:Nat):Int):=by
 have:min (1:Int).toNat (IntKind.bits .i64)=1:=by decide
 rw [this,Int.fdiv_eq_ediv_of_nonneg _ (by decide)]
 omega
theorem sall_s (b:Nat) (o:Option Nat) (root why room:Int) (q:List Cell) (n:Nat) (ih:∀ (q:List Cell) (why:Int) (l:List Int),l.length<n→FnG prog 127 1 [.is (.pointer (some ⟨b,0,none⟩)),.sl Zs l] [ZaD 247 (.pointer (some ⟨b,0,none⟩)) o root why room q] (.int .i64 (allQ room n q why l).2.2) (fun _=>[ZaD 247 (.pointer (some ⟨b,0,none⟩)) o root (allQ room n q why l).2.1 room (allQ room n q why l).1])) (l:List Int) (hl:l.length<n+1):FnG prog 127 1 [.is (.pointer (some ⟨b,0,none⟩)),.sl Zs l] [ZaD 247 (.pointer (some ⟨b,0,none⟩)) o root why room q] (.int .i64 (allQ room (n+1) q why l).2.2) (fun _=>[ZaD 247 (.pointer (some ⟨b,0,none⟩)) o root (allQ room (n+1) q why l).2.1 room (allQ room (n+1) q why l).1]):=by
 refine FnG.mk func127 Z ntmps127 Z kr fun B F0 a w F V hG O=>?_
 have hll:=Sat.lenSl O (i:=1) rfl
 refine Ya (rZ O (qI qZ) V [4,1,0] [1,0] fun O=>(Ya (Ya ?_)))
 refine rZ O (qR rr (qu YbO r1 (qf (o_eql .t qi) r1 qz qZ))) V [9,4,1,0] [1,0] fun O=>?_
 refine Zc O Z (fun hc0=>?_) (fun hc0=>?_)
 ·have hz:l = []:=YU (by simp only [Yj] at hc0;omega)
  have hg:(allQ room (n+1) q why l)=(q,why,0):=Yf hz
  refine Ya (rZ O (qI qZ) V [4,1,0] [1,0] fun O=>(Yh (Zf ?_)))
  have O:=O.turn 1 Z (r':=RS.hp (ZaD 247 (.pointer (some ⟨b,0,none⟩)) o root (allQ room (n+1) q why l).2.1 room (allQ room (n+1) q why l).1)) (fun _ _ _ _ h=>by rw [hg];exact h)
  refine ZE hG O Z (.tmp Z .nil) (.one (.int (by first | (rw [hg];done) | (rw [hg];rfl)))) rfl
 have hz:¬ l = []:=by intro hz;rw [hz] at hc0;simp at hc0
 have hp:0<l.length:=YaA.2 hz
 have hk1:IntKind.wrap .i64 (((l.length / 2:Nat):Int)+1)=((l.length / 2+1:Nat):Int):=by rw [Zj ow];omega
 have hg:(allQ room (n+1) q why l)=(madeS room (allQ room n (allQ room n q why (l.take (l.length / 2))).1 (allQ room n q why (l.take (l.length / 2))).2.1 (l.drop (IntKind.wrap .i64 (((l.length / 2:Nat):Int)+1)).toNat)).1 (allQ room n (allQ room n q why (l.take (l.length / 2))).1 (allQ room n q why (l.take (l.length / 2))).2.1 (l.drop (IntKind.wrap .i64 (((l.length / 2:Nat):Int)+1)).toNat)).2.1 (allQ room n q why (l.take (l.length / 2))).2.2 (allQ room n (allQ room n q why (l.take (l.length / 2))).1 (allQ room n q why (l.take (l.length / 2))).2.1 (l.drop (IntKind.wrap .i64 (((l.length / 2:Nat):Int)+1)).toNat)).2.2 ⟨0,Nn l (l.length / 2)⟩):=by rw [hk1,Yg];exact Yb hz
 refine Yd (Za (Ya (Zh O (qR rr (qu YbO r1 (qf (Zjq .t qi (by decide)) r1 qz (qO rr qZ)))) V [5,4,1,0] [1,0] Z Z fun a w F O=>?_)))
 rw [shr1] at O
 refine Za (Ya (rZ O (qR rr (qR rr (qR rr (qf (ZcP (sz:=1) (.mk YbO kr) (by intro x;rfl) .t .t ow ow) r2 qz (qf (o_callG1 1 (ih q why (l.take (l.length / 2)) (by rw [Yk];omega)) func127 Z kr (Args.two .t .t)) r2 r1 (qO rr qZ)))))) V [6,5,4,1,0] [1,0] fun O=>Ya ?_))
 refine Zu O (qR rr (qR rr (qR rr (qR rr (qR rr (qp r1 (qf (o_slice_lo (sz:=1) (.mk YbO kr) (by intro x;rfl) .t .t (by rw [hk1];omega) (by rw [hk1];omega)) r2 qz (qf (o_callG1 1 (ih (allQ room n q why (l.take (l.length / 2))).1 (allQ room n q why (l.take (l.length / 2))).2.1 (l.drop (IntKind.wrap .i64 (((l.length / 2:Nat):Int)+1)).toNat) (by rw [YK,hk1];omega)) func127 Z kr (Args.two .t .t)) r2 r1 (qR rr (qR rr (qy 1 YbO r2 (qf (oR false 1 .t) r1 qz (qf (o_callG1 1 (Zsq b o root (allQ room n (allQ room n q why (l.take (l.length / 2))).1 (allQ room n q why (l.take (l.length / 2))).2.1 (l.drop (IntKind.wrap .i64 (((l.length / 2:Nat):Int)+1)).toNat)).2.1 room (allQ room n (allQ room n q why (l.take (l.length / 2))).1 (allQ room n q why (l.take (l.length / 2))).2.1 (l.drop (IntKind.wrap .i64 (((l.length / 2:Nat):Int)+1)).toNat)).1 (allQ room n q why (l.take (l.length / 2))).2.2 (allQ room n (allQ room n q why (l.take (l.length / 2))).1 (allQ room n q why (l.take (l.length / 2))).2.1 (l.drop (IntKind.wrap .i64 (((l.length / 2:Nat):Int)+1)).toNat)).2.2 (Nn l (l.length / 2))) func190 Z kr (Args.four .t .t .t .t)) r4 r1 (qO rr qZ)))))))))))))) V [4] [1,0] Z Z fun a w F O=>?_
 try dsimp only [List.map,xD,xE,xT,xU,ldSF,Z4,ZC] at O
 try simp only [Yg] at O
 refine Za (Yh ?_)
 have O:=O.turn 1 Z (r':=RS.hp (ZaD 247 (.pointer (some ⟨b,0,none⟩)) o root (allQ room (n+1) q why l).2.1 room (allQ room (n+1) q why l).1)) (fun _ _ _ _ h=>by rw [hg];exact h)
 refine ZE hG O Z (.tmp Z .nil) (.one (.int (by first | (rw [hg];done) | (rw [hg];rfl)))) rfl
theorem Ztp (b:Nat) (o:Option Nat) (root room:Int):∀ (n:Nat) (q:List Cell) (why:Int) (l:List Int),l.length<n→FnG prog 127 1 [.is (.pointer (some ⟨b,0,none⟩)),.sl Zs l] [ZaD 247 (.pointer (some ⟨b,0,none⟩)) o root why room q] (.int .i64 (allQ room n q why l).2.2) (fun _=>[ZaD 247 (.pointer (some ⟨b,0,none⟩)) o root (allQ room n q why l).2.1 room (allQ room n q why l).1]):=fun n=>by
 induction n with
 | zero=>intro q why l h;omega
 | succ n ih=>intro q why l h;exact sall_s b o root why room q n ih l h
theorem Ztx (b:Nat) (o:Option Nat) (root room:Int) (q:List Cell) (l:List Int):FnG prog 126 1 [.is (.pointer (some ⟨b,0,none⟩)),.ref [.sl Zs l]] [ZaD 247 (.pointer (some ⟨b,0,none⟩)) o root 0 room q] (.int .i64 (allQ room (l.length+1) q 0 l).2.2) (fun _=>[ZaD 247 (.pointer (some ⟨b,0,none⟩)) o root (allQ room (l.length+1) q 0 l).2.1 room (allQ room (l.length+1) q 0 l).1]):=by
 refine FnG.mk func126 Z ntmps126 Z kr fun B F0 a w F V hG O=>Ya ?_
 refine rZ O (qI qZ) V [3,1,0] [1,0] fun O=>Ya ?_
 refine rZ O (qR rr (qf (oR false 1 .t) r1 qz (qf (o_callG1 1 (Ztp b o root room (l.length+1) q 0 l (Nat.lt_succ_self _)) func127 Z kr (Args.two .t .t)) r2 r1 (qO rr qZ)))) V [3] [1,0] fun O=>Yh ?_
 refine ZE hG O Z (.tmp Z .nil) (.one (.int Z)) rfl
theorem Zn3 (o : Option Nat) (room : Int) (q : List Cell) (root : Int) (th : Bool) (f : FuncId) (fn : Func) (cps : List PV) (hf : prog.funcs[f]? = some fn) (hb : fn.body.isSome = true) (hnn : (fn.name == "runtime.NumGoroutine") = false) (M : St) (hw : th = true → ∀ b, FnG prog f 1 (.is (.pointer (some ⟨b, 0, none⟩)) :: cps) [ZaD 247 (.pointer (some ⟨b, 0, none⟩)) o root 0 room q] (.int .i64 M.2.2) (fun _ => [ZaD 247 (.pointer (some ⟨b, 0, none⟩)) o root M.2.1 room M.1])) : FnG prog 125 1 [.agg [.is (arV o), .int .i64 root], .bool th, .clos f cps] [arH o room q] (.tup [.agg [.is (arV o), .int .i64 (Zqa th q M).2.2], .int .i64 (Zqa th q M).2.1]) (fun _ => [arH o room (Zqa th q M).1]) := by
 refine FnG.mk func125 Z ntmps125 Z kr fun B F0 a w F V hG O=>Ya ?_
 refine Zb O (qx 101 r1 (qf (oH [.pointer none,.int .i64 0] 102) trivial qz (qI qZ))) V [7,6,3,2,1] [102,101,1,0] (fun _=>rfl) (fun _=>rfl) fun τ a w F O=>?_
 try dsimp only [RS.sub,SF.sub,CF.sub,csub,Anc.sub,List.map,zCF,Z4,ZC] at O
 generalize τ 3=v3,τ 6=v6 at O
 refine Za (Ya (Ya (rZ O (qR rr (qf (Z1 .t) r1 qz qZ)) V [12,7,6,3,2] [102,101,1,0] fun O=>?_)))
 refine Zc O Z (fun hc0=>?_) (fun hc0=>?_)
 ·skip
  have hth:th=false:=by simpa using hc0
  have hg:(Zqa th q M)=(q,1,0):=by rw [hth];rfl
  refine Ya (rZ O (qg 0 101 r1 r1 (qa 101 r1 r1 (qf (oP (Zpl o) func124 (Args.one .t)) r1 qz (qf (oA 2 102 .is (.conv .t .agg)) r2 r1 (qI qZ))))) V [7,6,3,2] [102,101,1,0] fun O=>(Yh (Zf ?_)))
  have O:=O.turn 1 Z (r':=RS.hp (arH o room (Zqa th q M).1)) (fun _ _ _ _ h=>by rw [hg];exact h)
  refine ZE hG O Z (.cl 102 true 2 Z Z (.tmp Z .nil)) (.two (.aggU Z (by rw [hg];rfl)) (.int (by rw [hg]))) rfl
 have hth:th=true:=by simpa using hc0
 refine Yd (Za (Ya (Zb O (qe 2 101 r1 r1 (qf (oB [(0,.tmp 16)] [.pointer none,.int .i64 0,.int .i64 0] [(0,2),(2,1)] (.agg Z .t kr kr .nil)) r1 qz (qf (oX 103 .t) r1 qz (qO rr qZ)))) V [8,7,6,3,2] [103,102,101,1,0] (fun _=>rfl) (fun _=>rfl) fun τ a w F O=>?_)))
 try dsimp only [RS.sub,SF.sub,CF.sub,csub,Anc.sub,List.map,Zd,xL,xM,Nat.reduceAdd,xD,xE,xT,xU,xC,xN,zCF,ldSF,Z4,ZC] at O
 generalize τ 18=v18 at O
 refine Za (Ya (rZ O (qg 0 101 r1 r1 (qa 101 r1 r1 (qf (o_callG1 1 (ZmU o room q) func182 Z kr (Args.one .t)) r1 r1 (qO rr qZ)))) V [9,8,7,6,3,2] [103,102,101,1,0] fun O=>Ya ?_))
 obtain ⟨b,rfl⟩:=O.shape 103 rfl
 have O:=O.fresh 4 rfl
 obtain ⟨F,O⟩:=O.push 4 1 Z Z Z kr
 obtain ⟨F,O⟩:=O.push 4 103 Z Z Z kr
 have O:=O.turn 4 Z (r':=RS.hp (ZaD 247 (.pointer (some ⟨b,0,none⟩)) o root 0 room q)) (fun _ _ _ _ h=>h)
 obtain ⟨F,O⟩:=O.nM [9,8,7,6,3,2] [102,101,4,0]
 refine Zh O (qR rr (qR rr (qf (Zm4 4 .t (hw hth b) hf hb hnn (Args.one .t)) r2 r1 (qO rr qZ)))) V [10,9,8,7,6,3] [102,101,4,0] Z Z fun a w F O=>?_
 obtain ⟨F,O⟩:=O.peel 4 7 Z rfl
 obtain ⟨F,O⟩:=O.peel 4 1 Z rfl
 obtain ⟨F,O⟩:=O.nM [10,9,8,7,6,3] [102,101,7,1,0]
 refine Za (Ya (Ya (rZ O (qR rr (qf (o_nilCheck 7 .is (by rfl)) r1 r1 (qf (oF 2 7 .adr) r1 r1 (qa 7 r1 r1 (qf (o_neq .t qi) r1 qz qZ))))) V [29,10,9,8,7,6,3] [102,101,7,1,0] fun O=>?_)))
 refine Zc O Z (fun hc1=>?_) (fun hc1=>?_)
 ·skip
  have hM:M.2.1≠0:=by simpa using hc1
  have hg:(Zqa th q M)=(ZcM M.1 q.length,M.2.1,0):=by rw [hth];show Zc4 q.length M=_;unfold Zc4;rw [Yf hM,Yf hM]
  refine Ya (rZ O (qg 0 101 r1 r1 (qa 101 r1 r1 (qR rr (qf (o_callG1 1 (ZrD o room M.1 q.length) func189 Z kr (Args.two .t .t)) r2 r1 qZ)))) V [10,8,7,6,3] [102,101,7,1,0] fun O=>Ya ?_)
  refine Zu O (qg 0 101 r1 r1 (qa 101 r1 r1 (qf (oP (Zpl o) func124 (Args.one .t)) r1 qz (qR rr (qf (o_nilCheck 7 .is (by rfl)) r1 r1 (qf (oF 2 7 .adr) r1 r1 (qa 7 r1 r1 (qf (oA 2 102 .is (.conv .t .agg)) r2 r1 (qO rr qZ))))))))) V [10,7,6,3] [102,101,7,1,0] Z Z fun a w F O=>?_
  try dsimp only [List.map,Zd,xL,xM,Nat.reduceAdd,xD,xE,xT,xU,xC,xN,zCF,ldSF,Z4,ZC] at O
  refine Za (Yh (Zf ?_))
  have O:=O.turn 1 Z (r':=RS.hp (arH o room (Zqa th q M).1)) (fun _ _ _ _ h=>by rw [hg];exact h)
  refine ZE hG O Z (.cl 102 true 2 Z Z (.tmp Z .nil)) (.two (.aggU Z (by rw [hg];rfl)) (.int (by rw [hg]))) rfl
 have hM:M.2.1=0:=by simpa using hc1
 have hg:(Zqa th q M)=(M.1,0,M.2.2):=by rw [hth];show Zc4 q.length M=_;unfold Zc4;rw [Yb ow,Yb ow,hM]
 refine Yd (Za (Ya (rZ O (qg 0 101 r1 r1 (qa 101 r1 r1 (qR rr (qf (oB [(0,.tmp 42),(1,.tmp 43)] [.pointer none,.int .i64 0] [(0,1),(1,1)] (.one Z .t Zh3 kr (.one Z .t one_int kr .nil))) r2 qz (qs 2 102 r2 r1 (qI qZ)))))) V [7,6] [102,7,1,0] fun O=>Yh ?_)))
 have O:=O.turn 1 Z (r':=RS.hp (arH o room (Zqa th q M).1)) (fun _ _ _ _ h=>by rw [hg];exact h)
 refine ZE hG O Z (.cl 102 true 2 Z Z (.tmp Z .nil)) (.two (.aggU Z (by rw [hg];rfl)) (.int (by rw [hg]))) rfl
def ZrJ (room:Int) (q:List Cell) (l:List Int):St:=Zqa true q (allQ room (l.length+1) q 0 l)
theorem Zs9 (o:Option Nat) (room:Int) (q:List Cell) (l:List Int):FnG prog 65 1 [.is (arV o),.sl Zs l] [arH o room q] (.tup [.agg [.is (arV o),.int .i64 (ZrJ room q l).2.2],.int .i64 (ZrJ room q l).2.1]) (fun _=>[arH o room (ZrJ room q l).1]):=by
 refine FnG.mk func65 Z ntmps65 Z kr fun B F0 a w F V hG O=>Ya ?_
 refine Zb O (qf (Zl8 101 .t Zas) r1 qz (qf (oH [.pointer none,.int .i64 0] 102) trivial qz (qI qZ))) V [5,4,3,0] [102,101,1,0] (fun _=>rfl) (fun _=>rfl) fun τ a w F O=>?_
 try dsimp only [RS.sub,SF.sub,CF.sub,csub,Anc.sub,List.map,zCF,Z4,ZC] at O
 generalize τ 3=v3,τ 4=v4 at O
 obtain ⟨F,O⟩:=O.giveRef 101 3 Z Z rfl
 obtain ⟨F,O⟩:=O.nM [5,4,3,0] [102,1,0]
 try dsimp only [Go.Gm.unCF] at O
 refine Za (Ya (rZ O (qR rr (qf (oP (Zpl o) func124 (Args.one .t)) r1 qz (qf (ZcL (Args.one .t)) r1 qz (qf (o_callG1 1 (Zn3 o room q 0 true 126 f126 [.ref [.sl Zs l]] func126 Z kr (allQ room (l.length+1) q 0 l) (fun h b=>Ztx b o 0 room q l)) func125 Z kr (Args.three .t .cb .t)) r2 r1 (qf (o_extract .t Z) r1 qz (qf (o_extract .t Z) r1 qz (qf (oA 2 102 .is (.conv .t .agg)) r2 r1 (qO rr qZ)))))))) V [5,4] [102,1,0] fun O=>Yh ?_))
 refine ZE hG O Z (.cl 102 true 2 Z Z (.tmp Z .nil)) (.two (.aggU Z Z) (.int Z)) rfl
def ZbN (t:Zae):List Int:=(tList t).map ZF.val
theorem Zp0 (t:Zae):((ZbN t).length:Int)=ZD t:=by rw [ZS];simp [ZbN]
theorem tVals_node (l r:Zae) (p:ZF):ZbN (.node l p r)=ZbN l++p.val :: ZbN r:=by simp [ZbN,tList]
def stV (q:List Cell):List (Int×Zae)→List Int
 | []=>[]
 | e :: st=>stV q st++((getC q e.1).val :: ZbN e.2)
def ZjD:List (Int×Zae)→Int
 | []=>0
 | e :: st=>ZjD st+(2*ZD e.2+1)
theorem stV_snoc (q:List Cell) (e:Int×Zae):∀ st:List (Int×Zae),stV q (st ++ [e])=(getC q e.1).val :: (ZbN e.2++stV q st)
 | []=>by simp [stV]
 | x :: st=>by rw [Y0,stV,stV_snoc q e st,stV];simp
theorem Zgr (e:Int×Zae):∀ st:List (Int×Zae),ZjD (st ++ [e])=ZjD st+(2*ZD e.2+1)
 | []=>by simp [ZjD]
 | x :: st=>by rw [Y0,ZjD,Zgr e st,ZjD];omega
theorem Zlr:∀ st:List (Int×Zae),0≤ZjD st
 | []=>Yar 0
 | e :: st=>by have:=Zlr st;have:=ZP e.2;rw [ZjD];omega
theorem Zob (q:List Cell):∀ st:List (Int×Zae),st.length≤(stV q st).length
 | []=>YA 0
 | e :: st=>by have:=Zob q st;rw [stV,Yc,Yl,Yl];omega
def Zez (v:Int):List Int→Int
 | []=>-1
 | x :: l=>if x=v then 0 else if Zez v l<0 then -1 else Zez v l+1
theorem ZhK {v:Int} : ∀ {l:List Int},(∀ k,k<l.length→Nn l k≠v)→Zez v l = -1
 | [],_=>rfl
 | x :: l,h=>by
  have h0:x≠v:=h 0 (by simp)
  rw [Zez,Yb h0,ZhK (l:=l) fun k hk=>by have:=h (k+1) (by simpa using hk);exact this,Yf (by decide)]
theorem ZpM {v:Int} : ∀ {l:List Int} {i:Nat},i<l.length→Nn l i=v→(∀ k,k<i→Nn l k≠v)→Zez v l=i
 | [],i,h,_,_=>by simp at h
 | x :: l,0,_,h,_=>by rw [Zez,Yf (show x=v from h)];rfl
 | x :: l,i+1,h,h1,h2=>by
  have h0:x≠v:=h2 0 ow
  have:=ZpM (l:=l) (i:=i) (by simpa using h) h1 fun k hk=>h2 (k+1) ow
  rw [Zez,Yb h0,this,Yb ow];omega
def ZpU (l:List Int) (j x:Int):List Int:=if 0≤j∧j≤l.length then l.take j.toNat++x :: l.drop j.toNat else l
theorem Zo6 (o:Option Nat) (room:Int) (q:List Cell) (root:Int) (t0:Zae) (hr0:Rep kz q t0 root) (hs:ZD t0≤1000000):FnG prog 57 1 [.agg [.is (arV o),.int .i64 root]] [arH o room q] (.sl Zs (ZbN t0)) (fun _=>[arH o room q]):=by
 refine FnG.mk func57 Z ntmps57 Z kr fun B F0 a w F V hG O=>Ya ?_
 refine Zb O (qx 101 r1 (qC qZ)) V [2,1] [101,1,0] (fun _=>rfl) (fun _=>rfl) fun τ a w F O=>?_
 try dsimp only [RS.sub,SF.sub,CF.sub,csub,Anc.sub,List.map,zCF,Z4,Zs] at O
 generalize τ 1=v1 at O
 refine Za (Ya (rZ O (qC qZ) V [3,2,1] [101,1,0] fun O=>Ya ?_))
 refine rZ O (qC qZ) V [4,3,2,1] [101,1,0] fun O=>(Ya (Ya ?_))
 refine rZ O (qg 1 101 r1 r1 (qa 101 r1 r1 (qO rr qZ))) V [5,4,3,2,1] [101,1,0] fun O=>Ye ?_
 replace O:=O.fresh 50 rfl
 replace O:=O.turn 50 Z (ZaC (T:=3) (sz:=1) (R:=Zs))
 replace O:=O.fresh 51 rfl
 replace O:=O.turn 51 Z (ZaC (T:=3) (sz:=1) (R:=Zs))
 refine Zk (σ:=Int×Zae×List (Int×Zae)×Value×List Int×Value×List Int) [1,2] [0,1,101] (fun s=>[(5,.pv (.int .i64 s.1)),(3,.pv (.is s.2.2.2.1)),(4,.pv (.is s.2.2.2.2.2.1))]) (fun s=>[(50,.ob (.val s.2.2.2.1) (ZO 3 1 Zs s.2.2.2.2.1)),(51,.ob (.val s.2.2.2.2.2.1) (ZO 3 1 Zs s.2.2.2.2.2.2))]) (fun s=>Rep kz q s.2.1 s.1∧(∀ e ∈ s.2.2.1,Rep kz q e.2 (getC q e.1).right)∧s.2.2.2.2.2.2=s.2.2.1.map Prod.fst∧s.2.2.2.2.1++(ZbN s.2.1++stV q s.2.2.1)=ZbN t0) (fun s=>(2*ZD s.2.1+ZjD s.2.2.1).toNat) ((root),(t0),([]),(.slice none 0 0),([]),(.slice none 0 0),([])) O ⟨rfl,rfl,rfl,rfl,rfl,tv⟩ ⟨rfl,rfl,rfl,rfl,rfl,tv⟩ ⟨hr0,fun e he=>by simp at he,rfl,by simp [stV]⟩ ?_
 clear O;intro s a w F hC O
 obtain ⟨i,t,st,v,out,wv,wt⟩:=s
 try dsimp only at hC
 obtain ⟨F,O⟩:=O.nM [5,4,3,2,1] [101,51,50,1,0]
 try dsimp only at O
 obtain ⟨hr,hst,hwt,hk⟩:=hC
 have hkl:=Yai List.length hk
 simp only [Yc] at hkl
 have hsl:=Zob q st
 have hwl:=Yai List.length hwt
 rw [YP] at hwl
 have hnn:=Zlr st
 have hsz:=Zp0 t0
 refine Ya (Ya (rZ O (qR rr (qf (Zal .t qi) r1 qz (qR rr (qm Z Z Z Z (qk Z (fun h=>Zap 51 YbO (.w h .is)) r2 r1 (qk Z (fun h=>Zal (.w h) qi) r2 qz (qf (ZaM .t .t) r2 qz qZ))))))) V [15,5,4,3,2,1] [101,51,50,1,0] fun O=>?_))
 refine Zc O Z (fun hc0=>?_) (fun hc0=>?_)
 ·have hgo:0<i∨0<wt.length:=by simp only [Yao,Yj] at hc0;omega
  refine Yd (Za (Ye (Ya (Ya (rZ O (qR rr (qf (Zal .t qi) r1 qz qZ)) V [17,5,4,3,2,1] [101,51,50,1,0] fun O=>?_)))))
  refine Zc O Z (fun hc1=>?_) (fun hc1=>?_)
  ·have hi:0<i:=by simpa using hc1
   obtain ⟨l,pp,r,ht⟩:=hr.node (show i≠0 by omega)
   rw [ht] at hr hk
   have hvx:(getC q i).val=pp.val:=hr.2.2.2.2.2.1
   obtain ⟨t2,ht2⟩:∃ t2,t2=l:=⟨_,rfl⟩
   obtain ⟨st2,hs2⟩:∃ st2,st2=st ++ [(i,r)]:=⟨_,rfl⟩
   have hmu:(2*ZD t2+ZjD st2).toNat<(2*ZD t+ZjD st).toNat:=by rw [ht,hs2,ht2,Zgr];have:=ZP l;have:=ZP r;show (2*ZD l+(ZjD st+(2*ZD r+1))).toNat<(2*(ZD l+ZD r+1)+ZjD st).toNat;omega
   have hC2:Rep kz q t2 (getC q i).left∧(∀ e ∈ st2,Rep kz q e.2 (getC q e.1).right)∧wt ++ [i] = st2.map Prod.fst∧out++(ZbN t2++stV q st2)=ZbN t0:=⟨by rw [ht2];exact hr.2.1,fun e he=>by rw [hs2] at he;rcases YB.1 he with he | he; (· exact hst e he); (· rw [Yn.1 he];exact hr.2.2.1),by rw [hs2,hwt];simp,by rw [← hk,ht2,hs2,stV_snoc,tVals_node,hvx];simp⟩
   refine Ya (Zb O (qR rr (qR rr (qf (Zn (sz:=1) (zs:=[.int .i64 0]) (r:=[(0,.tmp 19)]) (l:=[_]) YbO kr kr kr kr Z Z (.one Z .t one_int kr .nil) Z) r1 qz (qf (o_append (sz:=1) (bs:=8) 51 (.mk' YbO kr kr) (by intro x;rfl) .is (.arr (l':=[i]) .t) (by simp only [Yc,Yl,Yq];omega) (by decide)) ⟨rfl,rfl,tv⟩ ⟨rfl,tv⟩ (qO rr qZ))))) V [5,4,3,2,1] [101,51,50,1,0] (fun _=>rfl) (fun _=>rfl) fun τ a w F O=>?_)
   try dsimp only [RS.sub,SF.sub,CF.sub,csub,Anc.sub,List.map,Zd,xL,xM,Nat.reduceAdd,xD,xE,xT,xU,xC,xN,zCF,Z4,Zs] at O
   generalize τ 21=v21 at O
   refine Za (Ya (rZ O (qe 2 101 r1 r1 (qR rr (qf (o_callG1 1 (scell_c o room q root i) func109 Z kr (Args.two (.pagg .t) .t)) r2 r1 (qf (ZeX (ft:=3) (off:=0) kr kr .t Z) r1 qz (qO rr qZ))))) V [5,4,3,2,1] [101,51,50,1,0] fun O=>(Ym (Zg (Zo (Za ?_))))))
   obtain ⟨F,O⟩:=O.nM [2,1,4,3,5] [101,1,0,51,50]
   exact ⟨(_,(t2),(st2),_,_,_,_),F,hC2,O,hmu⟩
  have hi:¬ 0<i:=by simpa using hc1
  have hx:=hr.range
  have h0:i=0:=by omega
  rw [h0] at hr
  have hz:t = .nil:=hr.zero
  obtain ⟨st2,e,hse⟩:=Zo2 (l:=st) ow
  have hwe:wt=st2.map Prod.fst ++ [e.1]:=by rw [hwt,hse];simp
  have hw2:wt.length=st2.length+1:=by rw [hwl,hse];simp
  have hnw:IntKind.wrap .i64 ((wt.length:Int) - 1)=(st2.length:Int):=by rw [Zj ow];omega
  have hne:Nn wt st2.length=e.1:=by rw [hwe];have:=ZiT (st2.map Prod.fst) e.1;rwa [YP] at this
  have htk:wt.take st2.length=st2.map Prod.fst:=by rw [hwe,show st2.length=(st2.map Prod.fst).length by simp,List.take_left]
  have hne2:Nn wt (IntKind.wrap .i64 ((wt.length:Int) - 1)).toNat=e.1:=by rw [hnw,Yg];exact hne
  obtain ⟨t2,ht2⟩:∃ t2,t2=e.2:=⟨_,rfl⟩
  have hmu:(2*ZD t2+ZjD st2).toNat<(2*ZD t+ZjD st).toNat:=by rw [hz,hse,ht2,Zgr];have:=ZP e.2;have:=Zlr st2;show (2*ZD e.2+ZjD st2).toNat<(2*0+(ZjD st2+(2*ZD e.2+1))).toNat;omega
  have hC2:Rep kz q t2 (getC q e.1).right∧(∀ e ∈ st2,Rep kz q e.2 (getC q e.1).right)∧st2.map Prod.fst=st2.map Prod.fst∧(out ++ [(getC q e.1).val])++(ZbN t2++stV q st2)=ZbN t0:=⟨by rw [ht2];exact hst e (by rw [hse];simp),fun x hx=>hst x (by rw [hse];simp [hx]),rfl,by rw [← hk,hz,hse,ht2,stV_snoc];simp [ZbN,tList]⟩
  have hcut0:0≤IntKind.wrap .i64 ((wt.length:Int) - 1):=by omega
  have hcut1:IntKind.wrap .i64 ((wt.length:Int) - 1)≤wt.length:=by omega
  have hol:out.length≤1000000:=by omega
  refine Yd (Za (Ya (ZaK O (qe 2 101 r1 r1 (qR rr (qR rr (qf (Zap 51 YbO .is) r1 r1 (qf (o_sub .t qi) r1 qz (qf (o_indexAddr_row (sz:=1) 51 (.mk YbO kr) .is .t ow ow (by rfl)) r2 r1 (qf (Zt (ag:=false) (sz':=1) (sz:=1) 51 .t (by intro x;rfl) (by rw [hnw,Yg];omega) kr kr kr) r1 r1 (qf (o_callG1 1 (scell_c o room q root (Nn wt (IntKind.wrap .i64 ((wt.length:Int) - 1)).toNat)) func109 Z kr (Args.two (.pagg .t) .t)) r2 r1 (qf (oH [.int .i64 0,.int .i64 0,.int .i64 0,.int .i64 0,.int .i64 0,.int .i64 0] 102) trivial qz (qf (oA 6 102 .same (.conv .t .agg)) r2 r1 qZ)))))))))) V [6,5,4,3,2,1] [102,101,51,50,1,0] (fun _=>rfl) (fun _=>rfl) fun τ a w F O=>?_)))
  try dsimp only [RS.sub,SF.sub,CF.sub,csub,Anc.sub,List.map,Zd,xL,xM,Nat.reduceAdd,xD,xE,xT,xU,xC,xN,zCF,ldSF,Z4,Zs] at O
  generalize τ 6=v6 at O
  try simp only [Yg] at O
  rw [hne2] at O
  refine Za (Ya (Zb O (qR rr (qR rr (qf (Zap 51 YbO .is) r1 r1 (qf (o_sub .t qi) r1 qz (qf (Zdu (sz:=1) 51 (.mk YbO kr) (by intro x;rfl) .is .t (by assumption) (by assumption)) r2 r1 (qO rr qZ)))))) V [6,5,4,3,2,1] [102,101,51,50,1,0] (fun _=>rfl) (fun _=>rfl) fun τ a w F O=>?_))
  try dsimp only [RS.sub,SF.sub,CF.sub,csub,Anc.sub,List.map,Z4,Zs] at O
  generalize τ 38=v38 at O
  rw [hnw,Yg,htk] at O
  refine Za (Ya (Zb O (qR rr (qg 3 102 r1 r1 (qa 102 r1 r1 (qf (Zn (sz:=1) (zs:=[.int .i64 0]) (r:=[(0,.tmp 41)]) (l:=[_]) YbO kr kr kr kr Z Z (.one Z .t one_int kr .nil) Z) r1 qz (qf (o_append (sz:=1) (bs:=8) 50 (.mk' YbO kr kr) (by intro x;rfl) .is (.arr (l':=[(getC q e.1).val]) .t) (by simp only [Yc,Yl,Yq];omega) (by decide)) ⟨rfl,rfl,tv⟩ ⟨rfl,tv⟩ (qO rr qZ)))))) V [6,5,4,3,2,1] [102,101,51,50,1,0] (fun _=>rfl) (fun _=>rfl) fun τ a w F O=>?_))
  try dsimp only [RS.sub,SF.sub,CF.sub,csub,Anc.sub,List.map,Zd,xL,xM,Nat.reduceAdd,xD,xE,xT,xU,xC,xN,zCF,ldSF,Z4,Zs] at O
  generalize τ 43=v43 at O
  refine Za (Zh O (qg 1 102 r1 r1 (qa 102 r1 r1 (qO rr qZ))) V [5,4,3,2,1] [101,51,50,1,0] Z Z fun a w F O=>Zi (Za ?_))
  obtain ⟨F,O⟩:=O.nM [2,1,4,3,5] [101,1,0,51,50]
  exact ⟨(_,(t2),(st2),_,_,_,_),F,hC2,O,hmu⟩
 have hstop:¬ 0<i∧wt.length=0:=by simp only [YaG,Yi] at hc0;omega
 have hx:=hr.range
 have h0:i=0:=by omega
 rw [h0] at hr
 have hfin:out=ZbN t0:=by rw [← hk,hr.zero,YU (show st.length=0 by omega)];simp [ZbN,tList,stV]
 refine Ym (Zg (Zg (Zo (Za (Ya (rZ O (qR rr (qO rr qZ)) V [2] [51,50,1,0] fun O=>Yh ?_))))))
 obtain ⟨F,O⟩:=O.give 50 2 Z rfl
 refine ZE hG O Z (.tmp Z .nil) (.one (.sl (by rw [hfin]))) rfl
structure Zuh (q:List Cell) (t:Zae) (root:Int):Prop where
 rep:Rep kz q t root
 bal:Bal t
theorem ZqJ (l:List Int):ZbN (ZnV (l.length+1) (l.map kp))=l:=by
 unfold ZbN
 rw [Zcv _ _ (by simp),YaV]
 exact List.map_id' l
theorem ZpQ (l:List Int) (v:Int):FnP prog 205 [.sl Zs l,.int .i64 v] (.int .i64 (Zez v l)):=by
 refine FnP.mk func205 Z ntmps205 Z fun B a w F V hfr O=>?_
 have hll:=Sat.lenSl O (i:=0) rfl
 refine Ya (rZ O (qI qZ) V [4,1,0] [0] fun O=>(Ya (Ya ?_)))
 refine rZ O (qR rr (qu YbO r1 (qJ qZ))) V [9,8,7,4,1] [0] fun O=>Ye ?_
 refine Zk (σ:=(Nat)) [1,4,7,8] [0] (fun s=>[(9,.pv (.int .i64 (s:Int)))]) (fun s=>[]) (fun s=>s≤l.length∧(∀ k,k<s→Nn l k≠v)) (fun s=>l.length - s) (0) O ⟨rfl,rfl,rfl,rfl,rfl,tv⟩ ⟨rfl,tv⟩ ⟨Yt _,fun k hk=>absurd hk (YJ k)⟩ ?_
 clear O;intro i a w F hC O
 try dsimp only at hC
 obtain ⟨F,O⟩:=O.nM [9,8,7,4,1] [0]
 try dsimp only at O
 obtain ⟨hi,hq⟩:=hC
 refine Ya (rZ O (qL r2) V [10,9,8,7,4,1] [0] fun O=>Ya ?_)
 refine Zc O Z (fun hc0=>?_) (fun hc0=>?_)
 ·have hil:i<l.length:=by simp at hc0;omega
  refine Yd (Za (Ya (Ye (Ya (Zh O (qR rr (qy 1 YbO r2 (qf (oR false 1 .t) r1 qz (qO rr (qO rr qZ))))) V [9,8,7,6,5,4,1] [0] Z Z fun a w F O=>?_)))))
  try simp only [Yg] at O
  refine Za (Ya (rZ O (qR rr (qR rr (qf (o_eql .t .t) r2 qz qZ))) V [16,9,8,7,5,4,1] [0] fun O=>?_))
  refine Zc O Z (fun hc1=>?_) (fun hc1=>?_)
  ·have hg:(i:Int)=Zez v l:=(ZpM hil (by simp at hc1;omega) hq).symm
   refine Ya (rZ O (qR rr (qO rr qZ)) V [9,8,7,4,1] [0] fun O=>(Yh (Zr (Zf (Zf (Zr (Zf ?_)))))))
   refine ZB hfr O Z Z Z (.int hg)
  have hne:Nn l i≠v:=by simp at hc1;omega
  refine Yd (Zi (Za (rZ O (qp r1 (qR rr qZ)) V [9,8,7,4,1] [0] fun O=>?_)))
  replace O:=O.ent (i:=9) (s':=.pv (.int .i64 ((i+1:Nat):Int))) Z (.int (Ze ow))
  obtain ⟨F,O⟩:=O.nM [8,7,4,1,9] [0]
  exact ⟨(i+1),F,⟨by omega,(fun k hk=>by rcases Yy (YD hk) with h | h;exact hq k h;rw [h];exact hne)⟩,O,by omega⟩
 have hil:i=l.length:=by simp at hc0;omega
 have hg : -1=Zez v l:=(ZhK fun k hk=>hq k (by simp at hc0;omega)).symm
 refine Ym (Zg (Zg (Zo (Za (Ya (rZ O (qI qZ) V [4] [0] fun O=>Yh ?_))))))
 refine ZB hfr O Z Z Z (.int hg)
theorem Zsu (o:Option Nat) (room:Int) (q:List Cell) (root:Int) (t0:Zae) (hr0:Rep kz q t0 root) (hs:ZD t0≤1000000) (o2:Option Nat) (room2:Int) (q2:List Cell):FnG prog 187 2 [.agg [.is (arV o),.int .i64 root],.is (arV o2)] [arH o room q,arH o2 room2 q2] (.tup [.agg [.is (arV o2),.int .i64 (ZrJ room2 q2 (ZbN t0)).2.2],.int .i64 (ZrJ room2 q2 (ZbN t0)).2.1]) (fun _=>[arH o room q,arH o2 room2 (ZrJ room2 q2 (ZbN t0)).1]):=by
 refine FnG.mk func187 Z ntmps187 Z kr fun B F0 a w F V hG O=>Ya ?_
 refine Zb O (qx 101 r1 (qf (oH [.pointer none,.int .i64 0] 102) trivial qz (qI qZ))) V [5,4,2,1] [102,101,2,1,0] (fun _=>rfl) (fun _=>rfl) fun τ a w F O=>?_
 try dsimp only [RS.sub,SF.sub,CF.sub,csub,Anc.sub,List.map,zCF,Z4,ZC] at O
 generalize τ 2=v2,τ 4=v4 at O
 refine Za (Ya (rZ O (qR rr (qe 2 101 r1 r1 (qf (o_callG1 1 (Zo6 o room q root t0 hr0 hs) func57 Z kr (Args.one (.pagg .t))) r1 r1 (qf (o_callG1 2 (Zs9 o2 room2 q2 (ZbN t0)) func65 Z kr (Args.two .t .t)) r2 r1 (qf (o_extract .t Z) r1 qz (qf (o_extract .t Z) r1 qz (qf (oA 2 102 .is (.conv .t .agg)) r2 r1 (qO rr qZ)))))))) V [5,4] [102,2,1,0] fun O=>Yh ?_))
 refine Zk8 hG O Z (.cl 102 true 2 Z Z (.tmp Z .nil)) (.two (.aggU Z Z) (.int Z)) Z rfl
theorem ZpJ (l:List Int) (j:Int):FnP prog 206 [.sl Zs l,.int .i64 j] (.bool (decide (0≤j∧j<l.length))):=by
 refine FnP.mk func206 Z ntmps206 Z fun B a w F V hfr O=>Ya ?_
 refine rZ O qB V [4,1,0] [0] fun O=>Ya ?_
 refine rZ O (qR rr (qf (Zcx .t qi) r1 qz (qR rr (qm Z Z Z Z (qm Z Z Z Z (qk Z (fun h=>ZbA YbO (.w h)) r2 qz (qk Z (fun h=>ZaR (.w h) (.w h)) r3 qz (qf (ZJ .t .t) r2 qz (qO rr qZ))))))))) V [4] [0] fun O=>Yh ?_
 refine ZB hfr O Z Z Z (.bool (by simp))
theorem Zr4 (l:List Int) (j x:Int) (hl:l.length≤1000000):FnP prog 207 [.sl Zs l,.int .i64 j,.int .i64 x] (.tup [.sl Zs (ZpU l j x),.bool (decide (0≤j∧j≤l.length))]):=by
 refine FnP.mk func207 Z ntmps207 Z fun B a w F V hfr O=>Ya ?_
 refine rZ O (qC qB) V [7,6,2,1,0] [0] fun O=>(Ya (Ya ?_))
 refine rZ O (qR rr (qf (ZaR .t qi) r1 qz (qR rr (qm Z Z Z Z (qm Z Z Z Z (qk Z (fun h=>ZbA YbO (.w h)) r2 qz (qk Z (fun h=>Zal (.w h) (.w h)) r3 qz (qf (ZaM .t .t) r2 qz qZ)))))))) V [16,7,6,2,1,0] [0] fun O=>?_
 refine Zc O Z (fun hc0=>?_) (fun hc0=>?_)
 ·have hj:¬ (0≤j∧j≤l.length):=by simp at hc0;omega
  have hfin:l=ZpU l j x:=(Yb hj).symm
  have hfin2:false=decide (0≤j∧j≤l.length):=(Yu hj).symm
  refine Ya (rZ O (qR rr (qO rr qB)) V [7,6,2,1,0] [0] fun O=>(Yh (Zf ?_)))
  refine Z3 hfr O Z (.tmp Z (.tmp Z .nil)) (.two (.sl hfin) (.bool hfin2))
 have hj:0≤j∧j≤l.length:=by simp at hc0;omega
 have hfin:[] ++ l.take j.toNat ++ [x] ++ l.drop j.toNat=ZpU l j x:=by unfold ZpU;rw [Yf hj];simp
 have hfin2:true=decide (0≤j∧j≤l.length):=(YI hj).symm
 refine Yd (Za (Ya (Zb O (qf (ZaP (R:=Zs) (sz:=1) 101 YbO kr) trivial qz (qR rr (qR rr (qf (ZcP (sz:=1) (.mk YbO kr) (by intro x;rfl) .t .t ow ow) r2 qz (qf (o_append (sz:=1) (bs:=8) 101 (.mk' YbO kr kr) (by intro x;rfl) .same (.sl .t) (by simp only [Yc,Yl,Yq,Yk,YK];omega) (by decide)) ⟨rfl,rfl,tv⟩ ⟨rfl,tv⟩ (qO rr qZ)))))) V [8,7,6,2,1,0] [101,0] (fun _=>rfl) (fun _=>rfl) fun τ a w F O=>?_)))
 try dsimp only [RS.sub,SF.sub,CF.sub,csub,Anc.sub,List.map,Zd,xL,xM,Nat.reduceAdd,xD,xE,xT,xU,xC,xN,zCF,Zs] at O
 generalize τ 22=v22 at O
 refine Za (Ya (Zb O (qR rr (qR rr (qf (Zn (sz:=1) (zs:=[.int .i64 0]) (r:=[(0,.tmp 24)]) (l:=[_]) YbO kr kr kr kr Z Z (.one Z .t one_int kr .nil) Z) r1 qz (qf (o_append (sz:=1) (bs:=8) 101 (.mk' YbO kr kr) (by intro x;rfl) .is (.arr (l':=[x]) .t) (by simp only [Yc,Yl,Yq,Yk,YK];omega) (by decide)) ⟨rfl,rfl,tv⟩ ⟨rfl,tv⟩ (qO rr qZ))))) V [8,7,6,1,0] [101,0] (fun _=>rfl) (fun _=>rfl) fun τ a w F O=>?_))
 try dsimp only [RS.sub,SF.sub,CF.sub,csub,Anc.sub,List.map,Zd,xL,xM,Nat.reduceAdd,xD,xE,xT,xU,xC,xN,zCF,Zs] at O
 generalize τ 26=v26 at O
 refine Za (Ya (Zb O (qR rr (qR rr (qR rr (qf (o_slice_lo (sz:=1) (.mk YbO kr) (by intro x;rfl) .t .t ow ow) r2 qz (qf (o_append (sz:=1) (bs:=8) 101 (.mk' YbO kr kr) (by intro x;rfl) .is (.sl .t) (by simp only [Yc,Yl,Yq,Yk,YK];omega) (by decide)) ⟨rfl,rfl,tv⟩ ⟨rfl,tv⟩ (qO rr qZ)))))) V [8,7,6] [101,0] (fun _=>rfl) (fun _=>rfl) fun τ a w F O=>?_))
 try dsimp only [RS.sub,SF.sub,CF.sub,csub,Anc.sub,List.map,xC,xN,Zs] at O
 generalize τ 31=v31 at O
 refine Za (Ya (rZ O (qR rr (qO rr qB)) V [7,6] [101,0] fun O=>Yh ?_))
 obtain ⟨F,O⟩:=O.give 101 6 Z rfl
 refine Z3 hfr O Z (.tmp Z (.tmp Z .nil)) (.two (.sl hfin) (.bool hfin2))
theorem ZsK (l:List Int) (j:Int) (hl:l.length≤1000000) (hj:0≤j∧j<l.length):FnP prog 208 [.sl Zs l,.int .i64 j] (.sl Zs (l.eraseIdx j.toNat)):=by
 refine FnP.mk func208 Z ntmps208 Z fun B a w F V hfr O=>?_
 have hw:IntKind.wrap .i64 (j+1)=j+1:=Zj ow
 have hfin:[] ++ l.take j.toNat++l.drop (IntKind.wrap .i64 (j+1)).toNat=l.eraseIdx j.toNat:=by rw [hw,List.eraseIdx_eq_take_drop_succ,Yal,show (j+1).toNat=j.toNat+1 by omega]
 refine Ya (rZ O (qC qZ) V [4,1,0] [0] fun O=>Ya ?_)
 refine Zb O (qf (ZaP (R:=Zs) (sz:=1) 101 YbO kr) trivial qz (qR rr (qR rr (qf (ZcP (sz:=1) (.mk YbO kr) (by intro x;rfl) .t .t ow ow) r2 qz (qf (o_append (sz:=1) (bs:=8) 101 (.mk' YbO kr kr) (by intro x;rfl) .same (.sl .t) (by simp only [Yc,Yl,Yq,Yk,YK];omega) (by decide)) ⟨rfl,rfl,tv⟩ ⟨rfl,tv⟩ (qO rr qZ)))))) V [5,4,1,0] [101,0] (fun _=>rfl) (fun _=>rfl) fun τ a w F O=>?_
 try dsimp only [RS.sub,SF.sub,CF.sub,csub,Anc.sub,List.map,Zd,xL,xM,Nat.reduceAdd,xD,xE,xT,xU,xC,xN,zCF,Zs] at O
 generalize τ 10=v10 at O
 refine Za (Ya (Zb O (qR rr (qR rr (qR rr (qp r1 (qf (o_slice_lo (sz:=1) (.mk YbO kr) (by intro x;rfl) .t .t (by rw [hw];omega) (by rw [hw];omega)) r2 qz (qf (o_append (sz:=1) (bs:=8) 101 (.mk' YbO kr kr) (by intro x;rfl) .is (.sl .t) (by simp only [Yc,Yl,Yq,Yk,YK];omega) (by decide)) ⟨rfl,rfl,tv⟩ ⟨rfl,tv⟩ (qO rr qZ))))))) V [4] [101,0] (fun _=>rfl) (fun _=>rfl) fun τ a w F O=>?_))
 try dsimp only [RS.sub,SF.sub,CF.sub,csub,Anc.sub,List.map,xC,xN,Zs] at O
 generalize τ 16=v16 at O
 refine Za (Yh ?_)
 obtain ⟨F,O⟩:=O.give 101 4 Z rfl
 refine ZB hfr O Z Z Z (.sl hfin)
theorem Zh4 (x y:List Int):FnP prog 18 [.sl Zs x,.sl Zs y] (.bool (decide (x=y))):=by
 refine FnP.mk func18 Z ntmps18 Z fun B a w F V hfr O=>?_
 have hxl:=Sat.lenSl O (i:=0) rfl
 refine Ya (rZ O qB V [4,1,0] [0] fun O=>(Ya (Ya ?_)))
 refine rZ O (qR rr (qu YbO r1 (qR rr (qu YbO r1 (qf (o_neq .t .t) r2 qz qZ))))) V [10,4,1,0] [0] fun O=>?_
 refine Zc O Z (fun hc0=>?_) (fun hc0=>?_)
 ·have hg:false=decide (x=y):=by
    rw [Y8,Yi]
    intro h
    subst h
    simp at hc0
  refine Ya (rZ O qB V [4,1,0] [0] fun O=>(Yh (Zf ?_)))
  refine ZB hfr O Z Z Z (.bool hg)
 have hl:x.length=y.length:=by simp at hc0;omega
 refine Yd (Za (Ya (Ya (rZ O (qR rr (qu YbO r1 (qJ qZ))) V [13,12,4,1,0] [0] fun O=>Ye ?_))))
 obtain ⟨F,O⟩:=O.nM [13,12,1,0] [0]
 refine Zbw (σ:=Nat) (fun s=>(⟨[(0,.pv (.sl Zs x)),(1,.pv (.sl Zs y)),(12,.pv (.int .i64 x.length)),(13,.pv (.int .i64 s))],[(0,frame B)]⟩:En)) (fun s=>s≤x.length ∧ ∀ j,j<s→Nn x j=Nn y j) (fun s=>x.length - s) 0 O ⟨Yt _,fun j hj=>absurd hj (YJ j)⟩ ?_
 clear O;intro i a w F hC O
 try dsimp only at hC
 try dsimp only at O
 obtain ⟨hi,hq⟩:=hC
 refine Ya (rZ O (qL r2) V [14,13,12,1,0] [0] fun O=>Ya ?_)
 refine Zc O Z (fun hc1=>?_) (fun hc1=>?_)
 ·have hil:i<x.length:=by simp at hc1;omega
  refine Yd (Za (Ya (Ye (Ya (rZ O (qR rr (qO rr qZ)) V [13,12,5,1,0] [0] fun O=>Ya ?_)))))
  refine Zu O (qR rr (qR rr (qy 1 YbO r2 (qf (oR false 1 .t) r1 qz (qR rr (qR rr (qy 1 YbO r2 (qf (oR false 1 .t) r1 qz (qf (o_neq .t .t) r2 qz qZ))))))))) V [24,13,12,1,0] [0] Z Z fun a w F O=>?_
  try dsimp only [List.map,xD,xE,xT,xU,ldSF] at O
  refine Za (Zc O Z (fun hc2=>?_) (fun hc2=>?_))
  ·have hg:false=decide (x=y):=by
     rw [Y8,Yi]
     intro h
     subst h
     simp at hc2
   refine Ya (rZ O qB V [13,12,4,1,0] [0] fun O=>(Yh (Zr (Zf (Zf (Zr (Zf ?_)))))))
   refine ZB hfr O Z Z Z (.bool hg)
  rw [Yg] at hc2
  have hqi:Nn x i=Nn y i:=by simpa using hc2
  refine Yd (Zi (Za (rZ O (qp r1 (qR rr qZ)) V [13,12,1,0] [0] fun O=>?_)))
  replace O:=O.ent (i:=13) (s':=.pv (.int .i64 ((i+1:Nat):Int))) Z (.int (Ze ow))
  obtain ⟨F,O⟩:=O.nM [13,12,1,0] [0]
  exact ⟨i+1,F,⟨by omega,fun j hj=>by rcases Yy (YD hj) with h | h;exact hq j h;rw [h];exact hqi⟩,O,by omega⟩
 have hg:true=decide (x=y):=by
   rw [Y8,Yj]
   exact ZaS hl fun j hj=>hq j (by simp at hc1;omega)
 refine Ym (Zg (Zg (Zo (Za (Ya (rZ O qB V [4] [0] fun O=>Yh ?_))))))
 refine ZB hfr O Z Z Z (.bool hg)
theorem Zja {v:Int} {l:List Int} (h:v ∈ l):∃ i:Nat,Zez v l=i∧i<l.length∧Nn l i=v ∧ ∀ k,k<i→Nn l k≠v:=by
 induction l with
 | nil=>cases h
 | cons x l ih=>
  by_cases hx:x=v
  ·exact ⟨0,by rw [Zez,Yf hx];rfl,by simp,hx,fun k hk=>absurd hk (YJ k)⟩
  ·obtain ⟨i,h1,h2,h3,h4⟩:=ih (by rcases Yo.1 h with h | h;exact absurd h.symm hx;exact h)
   refine ⟨i+1,by rw [Zez,Yb hx,h1,Yb ow];omega,by simpa using h2,h3,fun k hk=>?_⟩
   cases k with
   | zero=>exact hx
   | succ k=>exact h4 k ow
theorem Zjh {v:Int} {l:List Int} (h:v ∉ l):Zez v l = -1:=ZhK fun k hk e=>h (e ▸ ZU hk)
theorem Zih (v:Int) (l:List Int) : -1≤Zez v l∧Zez v l<l.length:=by
 by_cases h:v ∈ l
 ·obtain ⟨i,h1,h2,_⟩:=Zja h
  omega
 ·rw [Zjh h];omega
theorem Zq7 {v:Int} {l:List Int} : 0≤Zez v l ↔ v ∈ l:=by
 constructor
 ·intro h
  by_cases hm:v ∈ l
  ·exact hm
  ·rw [Zjh hm] at h;omega
 ·intro h
  obtain ⟨i,h1,_⟩:=Zja h
  omega
def Zhw (l:List Int):Prop:=(∀ x ∈ l,1≤x∧x≤1048575)∧l.Nodup
instance (l:List Int):Decidable (Zhw l):=by unfold Zhw;exact inferInstance
theorem Zhw.take {l:List Int} (h:Zhw l) (i:Nat):Zhw (l.take i):=⟨fun x hx=>h.1 x (Yat hx),h.2.sublist (List.take_sublist i l)⟩
def leI (x y:Int):Bool:=decide (x≤y)
theorem ZnX {a b:List Int} : a.mergeSort leI=b.mergeSort leI ↔ a.Perm b:=by
 constructor
 ·intro h
  exact (YaK a leI).symm.trans (h ▸ YaK b leI)
 ·intro h
  have hs:∀ l:List Int,List.Pairwise (fun x y=>x≤y) (l.mergeSort leI):=fun l=>by
   have:=Ybj (le:=leI) (fun a b c h1 h2=>by simp [leI] at *;omega) (fun a b=>by simp [leI];omega) l
   exact this.imp fun h=>by simpa [leI] using h
  exact List.Perm.eq_of_pairwise (fun x y _ _ h1 h2=>Int.le_antisymm h1 h2) (hs a) (hs b) (((YaK a leI).trans h).trans (YaK b leI).symm)
theorem Zln {a b:List Int} : (a.length=b.length ∧ ∀ x ∈ a,a.count x=b.count x) ↔ a.Perm b:=by
 constructor
 ·rintro ⟨hl,hc⟩
  have key:∀ (a b:List Int),(∀ x ∈ a,a.count x≤b.count x) → ∃ c,b.Perm (a++c):=by
   intro a
   induction a with
   | nil=>intro b _;exact ⟨b,Ybo _⟩
   | cons x a ih=>
    intro b h
    have hx:x ∈ b:=by
     have:=h x (by simp)
     rw [List.count_cons_self] at this
     exact List.count_pos_iff.1 ow
    obtain ⟨c,hc⟩:=ih (b.erase x) fun y hy=>by
     have:=h y (by simp [hy])
     rw [List.count_cons] at this
     rw [List.count_erase]
     split at this <;> rename_i e
     ·rw [Yf e];omega
     ·rw [Yb e];omega
    exact ⟨c,(List.perm_cons_erase hx).trans (hc.cons x)⟩
  obtain ⟨c,hp⟩:=key a b fun x hx=>by rw [hc x hx];exact YA _
  have:=hp.length_eq
  rw [Yc] at this
  have hc0:c = []:=YU ow
  rw [hc0,YF] at hp
  exact hp.symm
 ·intro h
  exact ⟨h.length_eq,fun x _=>h.count_eq x⟩
def Zhr (l:List Int) (tx:Int):List Int:=if tx ∈ l then l else l ++ [tx]
def Zbx (l:List Int) (tx:Int):List Int:=l.filter fun x=>decide (x≠tx)
def Zcp (l:List Int) (tx place:Int):List Int×Int:=if Zez tx l<0 then ([],3) else if ¬ (0≤place∧place<l.length) then ([],1) else (ZpU (l.eraseIdx (Zez tx l).toNat) place tx,0)
def ZoH (a b:List Int):Prop:=Zhw a∧Zhw b∧a.Perm b
instance (a b:List Int):Decidable (ZoH a b):=by unfold ZoH;exact inferInstance
theorem ZjC {v:Int} {l:List Int} (h:v ∈ l):l.eraseIdx (Zez v l).toNat=l.erase v:=by
 induction l with
 | nil=>cases h
 | cons x l ih=>
  by_cases hx:x=v
  ·subst hx
   rw [Zez,Yf rfl];simp
  ·have hm:v ∈ l:=by rcases Yo.1 h with h | h;exact absurd h.symm hx;exact h
   obtain ⟨i,h1,h2,_⟩:=Zja hm
   rw [Zez,Yb hx,Yb ow,h1,List.erase_cons_tail (by simpa using hx),← ih hm,h1]
   rw [show ((i:Int)+1).toNat=i+1 by omega,Yg,List.eraseIdx_cons_succ]
theorem Zoy {l:List Int} {j x:Int} (h:0≤j∧j≤l.length):(ZpU l j x).Perm (x :: l):=by
 unfold ZpU
 rw [Yf h]
 have:=(List.perm_middle (a:=x) (l₁:=l.take j.toNat) (l₂:=l.drop j.toNat))
 rwa [YX] at this
theorem Zqu {l:List Int} {tx place:Int} (h:tx ∈ l) (hp:0≤place∧place<l.length):Zcp l tx place=(ZpU (l.erase tx) place tx,0):=by
 unfold Zcp
 rw [Yb (by have:=Zq7.2 h;omega),Yb (by simpa using hp),ZjC h]
theorem Znv {l:List Int} {tx place:Int} (h:tx ∈ l) (hp:0≤place∧place<l.length):(Zcp l tx place).1.Perm l:=by
 rw [Zqu h hp]
 have hl:(l.erase tx).length=l.length - 1:=List.length_erase_of_mem h
 exact (Zoy ow).trans (List.perm_cons_erase h).symm
def Zjy:Go.Shelf.Ren:=⟨fun | 189=>92 | 125=>152 | 257=>154 | 128=>226 | 129=>227 | 294=>228 | 295=>229 | 296=>230 | 297=>231 | 298=>232 | 299=>233 | 216=>213 | 300=>234 | 301=>235 | 328=>266 | 329=>262 | 330=>263 | 331=>267 | 332=>268 | 215=>175 | 343=>278 | n=>n,fun | 28=>37 | 3=>3 | 46=>219 | 0=>0 | 51=>274 | 53=>262 | 4=>4 | 183=>268 | 182=>267 | 131=>105 | 5=>5 | 9=>9 | 218=>301 | 222=>305 | 228=>314 | 229=>315 | n=>n,fun  | n=>n⟩
theorem ZlT:Lays.n189 prog Zjy where
 mixed:=by kernel_rfl
 f125:=func152.trans (Yai some kr)
 f128:=func226.trans (Yai some kr)
 f129:=func227.trans (Yai some kr)
 f189:=func92.trans (Yai some kr)
 f215:=func175.trans (Yai some kr)
 f216:=func213.trans (Yai some kr)
 f257:=func154.trans (Yai some kr)
 f294:=func228.trans (Yai some kr)
 f295:=func229.trans (Yai some kr)
 f296:=func230.trans (Yai some kr)
 f297:=func231.trans (Yai some kr)
 f298:=func232.trans (Yai some kr)
 f299:=func233.trans (Yai some kr)
 f300:=func234.trans (Yai some kr)
 f301:=func235.trans (Yai some kr)
 f328:=func266.trans (Yai some kr)
 f329:=func262.trans (Yai some kr)
 f330:=func263.trans (Yai some kr)
 f331:=func267.trans (Yai some kr)
 f332:=func268.trans (Yai some kr)
 f343:=func278.trans (Yai some kr)
 t0:=underlying0
 a0:=Tryz.isAgg0
 z0:=Tryz.sizeOf0
 v0:=Tryz.zeroValue0
 t3:=YbS
 a3:=Tryz.isAgg3
 z3:=Tryz.sizeOf3
 v3:=Tryz.zeroValue3
 t4:=underlying4
 a4:=Tryz.isAgg4
 z4:=Tryz.sizeOf4
 v4:=Tryz.zeroValue4
 t5:=underlying5
 a5:=Tryz.isAgg5
 z5:=Tryz.sizeOf5
 v5:=Tryz.zeroValue5
 t9:=underlying9
 a9:=Tryz.isAgg9
 z9:=Tryz.sizeOf9
 v9:=Tryz.zeroValue9
 t28:=YbO
 a28:=Tryz.isAgg37
 z28:=Tryz.sizeOf37
 v28:=Tryz.zeroValue37
 t46:=YbY
 a46:=Tryz.isAgg219
 z46:=Tryz.sizeOf219
 v46:=Tryz.zeroValue219
 t51:=underlying274
 a51:=Tryz.isAgg274
 z51:=Tryz.sizeOf274
 v51:=Tryz.zeroValue274
 t53:=underlying262
 a53:=Tryz.isAgg262
 z53:=Tryz.sizeOf262
 v53:=Tryz.zeroValue262
 t131:=underlying105
 a131:=Tryz.isAgg105
 z131:=Tryz.sizeOf105
 v131:=Tryz.zeroValue105
 t182:=underlying267
 a182:=Tryz.isAgg267
 z182:=Tryz.sizeOf267
 v182:=Tryz.zeroValue267
 t183:=underlying268
 a183:=Tryz.isAgg268
 z183:=Tryz.sizeOf268
 v183:=Tryz.zeroValue268
 t218:=underlying301
 a218:=Tryz.isAgg301
 z218:=Tryz.sizeOf301
 v218:=Tryz.zeroValue301
 t222:=underlying305
 a222:=Tryz.isAgg305
 z222:=Tryz.sizeOf305
 v222:=Tryz.zeroValue305
 t228:=underlying314
 a228:=Tryz.isAgg314
 z228:=Tryz.sizeOf314
 v228:=Tryz.zeroValue314
 t229:=underlying315
 a229:=Tryz.isAgg315
 z229:=Tryz.sizeOf315
 v229:=Tryz.zeroValue315
theorem Zo4 (w:World):Calls prog 92 #[.slice none 0 0] w (fun e w'=>e = .returned (.tuple #[])∧w' = w):=
 Go.calls_of_every_depth fun D=>Go.Proofs.AnyS.slices_Sort_int_none_in ZlT D none 0 w
theorem Zmj {w:World} {y:Ys} : ∀ {l:List Int} {xs:List Value},PVs (l.flatMap Zs) xs w y→xs=l.map (Value.int .i64) ∧ ∀ x ∈ l,inR .i64 x
 | [],[],_=>⟨rfl,fun x hx=>by cases hx⟩
 | [],_ :: _,h=>h.elim
 | x :: l,[],h=>h.elim
 | x :: l,v :: xs,h=>by
  have h1:v = .int .i64 x∧inR .i64 x:=h.1.2
  obtain ⟨h2,h3⟩:=Zmj (l:=l) (xs:=xs) h.2
  exact ⟨by rw [h1.1,h2];rfl,fun z hz=>by rcases Yo.1 hz with rfl | hz;exact h1.2;exact h3 z hz⟩
theorem Zg4 {w:World} {y:Ys} : ∀ {l:List Int},(∀ x ∈ l,inR .i64 x)→PVs (l.flatMap Zs) (l.map (Value.int .i64)) w y
 | [],_=>trivial
 | x :: l,h=>⟨⟨rfl,rfl,h x (by simp)⟩,Zg4 fun z hz=>h z (by simp [hz])⟩
theorem ZqC {l:List Int} {j:Nat} (hj:j<l.length):(l.toArray)[j]! = l[j]:=by simp [hj]
theorem Zk1 {w:World} {g n:Nat} {d:List Int} {os:Array Obj} {cur:Array Value} {e:TypeId} (hg:w.heap[g]? = some (.cells cur e (0,0))) (b:Nat) (hb:b<w.heap.size) :
  (Go.Sort.grow (Go.Sort.putRow (Value.int .i64) (Go.Sort.ahead w n) g 0 d.toArray) os).heap[b]? = if b=g then some (.cells (Go.Sort.putCells (Value.int .i64) 0 d.toArray cur) e (0,0)) else w.heap[b]?:=by
 unfold Go.Sort.grow Go.Sort.putRow Go.Sort.mapBlock Go.Sort.ahead
 simp only
 rw [Array.getElem?_append_left (by simpa using hb),Array.getElem?_modify]
 by_cases h:g=b
 ·subst h
  rw [Yf rfl,Yf rfl,hg];rfl
 ·rw [Yb h,Yb (fun e=>h e.symm)]
theorem ZqO {cur:Array Value} {d:List Int} (h:d.length≤cur.size):(Go.Sort.putCells (Value.int .i64) 0 d.toArray cur).toList.take d.length=d.map (Value.int .i64):=by
 apply List.ext_getElem
 ·simp [Go.Sort.putCells];omega
 ·intro i h1 h2
  have hi:i<d.length:=by simpa using h2
  simp [Go.Sort.putCells,hi]
theorem Zmq (v:Value) (l:List Int) (hlm:l.length≤1000000):FnG prog 92 1 [.is v] [ZO 3 1 Zs l v] (.tup []) (fun _=>[ZO 3 1 Zs (l.mergeSort leI) v]):=fun w F vs hw hle hvs hpr=>by
 match vs,hvs with
 | [u],hvs=>
  have hu:u=v:=hvs.1.1
  subst hu
  obtain ⟨xs,⟨hxl,hx⟩,hp,hf⟩:=hpr 0 _ rfl
  rcases hx with ⟨rfl,h0⟩ | ⟨g,cap,cur,rfl,_,hg,hn,hcap,hcs,hct⟩
  ·have hl:l = []:=YU h0
   subst hl
   refine (Zo4 w).mono ?_
   rintro e w' ⟨rfl,rfl⟩
   refine ⟨.tuple #[],F,rfl,hw,⟨rfl,rfl,rfl,YA _,fun _ _ _=>rfl,fun _ _=>rfl,fun n hn b hb=>.inl ⟨n,hn,hb⟩⟩,hle,⟨[],rfl,tv⟩,fun i h hi=>?_⟩
   match i,hi with
   | 0,hi=>simp at hi;subst hi;exact ⟨xs,⟨hxl,.inl ⟨rfl,rfl⟩⟩,by simpa using hp,hf⟩
  ·have hgs:g<w.heap.size:=(Y4.1 hg).1
   obtain ⟨hxe,hin⟩:=Zmj hp
   have hcl:l.length≤cur.size:=by rw [hcs];omega
   have hbig:l.length<4611686018427387904:=by omega
   have hcur:∀ j (hj:j<l.length),cur[j]? = some (.int .i64 l[j]):=fun j hj=>by
    have h1:(cur.toList.take (l.length*1))[j]? = (l.map (Value.int .i64))[j]?:=by rw [hct,hxe]
    rw [List.getElem?_take_of_lt ow] at h1
    simpa [hj] using h1
   have hH:Go.Sort.Holds (Value.int .i64) w g 0 l.toArray:=fun j hj=>by
    have hj':j<l.length:=by simpa using hj
    refine ⟨?_,?_⟩
    ·rw [ZqC hj',Yah,ZbC hg];exact hcur j hj'
    ·simp [World.frozen?,hg]
   have hcalls:Calls prog 92 #[.slice (some ⟨g,0,none⟩) l.length cap] w fun e w'=>e = .returned (.tuple #[]) ∧ ∃ n os,w' = Go.Sort.grow (Go.Sort.putRow (Value.int .i64) (Go.Sort.ahead w n) g 0 (l.mergeSort leI).toArray) os:=Go.Proofs.Any.slices_Sort_int ZlT g 0 cap l w hH hgs hbig
   refine hcalls.mono ?_
   rintro e w' ⟨rfl,n,os,rfl⟩
   have hsl:(l.mergeSort leI).length=l.length:=List.length_mergeSort l
   have hheap:=fun b hb=>Zk1 (n:=n) (d:=l.mergeSort leI) (os:=os) hg b hb
   have hsz:(Go.Sort.grow (Go.Sort.putRow (Value.int .i64) (Go.Sort.ahead w n) g 0 (l.mergeSort leI).toArray) os).heap.size=w.heap.size+os.size:=by simp [Go.Sort.ahead]
   have hfg:F 1 g:=(hf g).2 rfl
   have hst:Stp (List.range' 1 1) w F (Go.Sort.grow (Go.Sort.putRow (Value.int .i64) (Go.Sort.ahead w n) g 0 (l.mergeSort leI).toArray) os) F:=
    ⟨rfl,rfl,rfl,by rw [hsz];omega,fun b hb hn=>by
     rw [hheap b hb,Yb (fun e=>by subst e;exact hn 1 (by simp) hfg)],fun _ _=>rfl,fun n hn b hb=>.inl ⟨n,hn,hb⟩⟩
   refine ⟨.tuple #[],F,rfl,⟨hw.dis,fun n b hb=>by rw [hsz];have:=hw.bd n b hb;omega⟩,hst,hle,⟨[],rfl,tv⟩,fun i h hi=>?_⟩
   match i,hi with
   | 0,hi=>
    simp only [Ybk,Yab] at hi
    subst hi
    refine ⟨(l.mergeSort leI).map (Value.int .i64),⟨by simp,.inr ⟨g,cap,_,by rw [hsl],Yt _,(hheap g hgs).trans (Yf Z),by omega,hcap,by simp [Go.Sort.putCells,hcs],?_⟩⟩,Zg4 fun x hx=>hin x ((YaK l leI).mem_iff.1 hx),hf⟩
    rw [Nat.mul_one];exact ZqO ow
theorem Zau {α:Type} [Inhabited α] {p:α→Bool} {l:List α} {j:Nat} (h:j<l.length):(l.take (j+1)).filter p=(l.take j).filter p++if p (Nn l j)=true then [Nn l j] else []:=by
 rw [ZQ h,Y3]
 congr 1
 by_cases e:p (Nn l j)=true
 ·rw [Yf e];simp [e]
 ·rw [Yb e];simp at e;simp [e]
def Zb6 {α:Type} [Inhabited α] (p:α→Bool) (l:List α):Int:=match l.findIdx? p with
 | some i=>i
 | none=>-1
theorem ZkH {α:Type} [Inhabited α] {p:α→Bool} {l:List α} (h:∀ k,k<l.length→p (Nn l k)=false):Zb6 p l = -1:=by
 unfold Zb6
 have:l.findIdx? p=none:=List.findIdx?_eq_none_iff.2 fun x hx=>by
  obtain ⟨k,hk,rfl⟩:=List.mem_iff_getElem.1 hx
  rw [← Zy hk];exact h k hk
 rw [this]
theorem ZnB {α:Type} [Inhabited α] {p:α→Bool} {l:List α} {i:Nat} (hi:i<l.length) (h:p (Nn l i)=true) (h2:∀ k,k<i→p (Nn l k)=false):Zb6 p l=i:=by
 unfold Zb6
 have:l.findIdx? p=some i:=List.findIdx?_eq_some_iff_getElem.2 ⟨hi,by rw [← Zy hi];exact h,fun k hk=>by rw [← Zy ow,h2 k hk];decide⟩
 rw [this]
theorem ZjU {α:Type} [Inhabited α] (p:α→Bool) (l:List α):(Zb6 p l = -1 ∧ ∀ k,k<l.length→p (Nn l k)=false) ∨ ∃ i:Nat,Zb6 p l=i∧i<l.length∧p (Nn l i)=true ∧ ∀ k,k<i→p (Nn l k)=false:=by
 cases h:l.findIdx? p with
 | none=>
  left
  refine ⟨by unfold Zb6;rw [h],fun k hk=>?_⟩
  have:=List.findIdx?_eq_none_iff.1 h l[k] (Ybx hk)
  rw [Zy hk];exact this
 | some i=>
  right
  obtain ⟨h1,h2,h3⟩:=List.findIdx?_eq_some_iff_getElem.1 h
  refine ⟨i,by unfold Zb6;rw [h],h1,by rw [Zy h1];exact h2,fun k hk=>?_⟩
  rw [Zy ow]
  simpa using h3 k hk
theorem ZhL:inR .i64 0:=by show IntKind.min .i64≤0∧0≤IntKind.max .i64;decide
theorem ZlG (l:List Int) (hl:l.length≤1000000):FnG prog 91 1 [.sl Zs l] [.star []] (PV.one) (fun v=>[ZO 3 1 Zs l v]):=by
 refine FnG.mk func91 Z ntmps91 Z kr fun B F0 a w F V hG O=>?_
 obtain ⟨F,O⟩:=O.nM [0] [0]
 refine Ya (rZ O (qC qZ) V [2,0] [0] fun O=>(Ya (Ya ?_)))
 refine Zh O (qR rr (qf (Zc8 YbO .t) r1 qz qZ)) V [4,2,0] [0] Z Z fun a w F O=>?_
 obtain ⟨β4,hβ4,O⟩:=O.pickBool 4 rfl
 obtain ⟨F,O⟩:=O.nM [4,2,0] [0]
 refine Za (Zc O Z (fun hc0=>?_) (fun hc0=>?_))
 ·have hg:l = []:=hβ4 hc0
  refine Ya (rZ O (qC qZ) V [2,0] [0] fun O=>(Yh (Zf ?_)))
  have O:=O.fresh 1 rfl
  have O:=O.turn 1 Z (ZaC (T:=3) (sz:=1) (R:=Zs))
  have O:=O.turn 1 Z (r':=RS.hp (ZO 3 1 Zs l (.slice none 0 0))) (fun _ _ _ _ h=>by rw [hg];exact h)
  refine Zed (h':=fun v=>ZO 3 1 Zs l v) hG O Z (.tmp Z .nil) (.one .one) rfl
 have hg:l = [] ++ l:=rfl
 refine Yd (Za (Ya (Zb O (qf (ZaP (R:=Zs) (sz:=1) 101 YbO kr) trivial qz (qR rr (qf (o_append (sz:=1) (bs:=8) 101 (.mk' YbO kr kr) (by intro x;rfl) .same (.sl .t) (by simp only [Yc,Yq];omega) (by decide)) ⟨rfl,rfl,tv⟩ ⟨rfl,tv⟩ (qO rr qZ)))) V [2] [101,0] (fun _=>rfl) (fun _=>rfl) fun τ a w F O=>?_)))
 try dsimp only [RS.sub,SF.sub,CF.sub,csub,Anc.sub,List.map,Zd,xL,xM,Nat.reduceAdd,xD,xE,xT,xU,xC,xN,zCF,Zs] at O
 generalize τ 7=v7 at O
 refine Za (Yh ?_)
 obtain ⟨F,O⟩:=O.rename 101 1 Z rfl
 have O:=O.turn 1 Z (r':=RS.hp (ZO 3 1 Zs l v7)) (fun _ _ _ _ h=>by rw [hg];exact h)
 refine Zed (h':=fun v=>ZO 3 1 Zs l v) hG O Z (.tmp Z .nil) (.one .one) rfl
def ZR {α:Type} [DecidableEq α]:List α→List α
 | []=>[]
 | [x]=>[x]
 | x :: y :: l=>if x=y then ZR (y :: l) else x :: ZR (y :: l)
theorem Zdd {α:Type} [DecidableEq α] (a b:α):∀ l:List α,ZR (l ++ [a,b])=if a=b then ZR (l ++ [a]) else ZR (l ++ [a]) ++ [b]
 | []=>by
  show (if a=b then [b] else a :: [b])=if a=b then [a] else [a] ++ [b]
  split
  ·rename_i h;rw [h]
  ·rfl
 | [x]=>by
  have ih:=Zdd a b []
  show (if x=a then ZR ([] ++ [a,b]) else x :: ZR ([] ++ [a,b]))=if a=b then (if x=a then ZR ([] ++ [a]) else x :: ZR ([] ++ [a])) else (if x=a then ZR ([] ++ [a]) else x :: ZR ([] ++ [a])) ++ [b]
  rw [ih]
  by_cases h1:x=a <;> by_cases h2:a=b <;> simp [h1,h2]
 | x :: y :: l=>by
  have ih:=Zdd a b (y :: l)
  show (if x=y then ZR (y :: l ++ [a,b]) else x :: ZR (y :: l ++ [a,b]))=if a=b then (if x=y then ZR (y :: l ++ [a]) else x :: ZR (y :: l ++ [a])) else (if x=y then ZR (y :: l ++ [a]) else x :: ZR (y :: l ++ [a])) ++ [b]
  rw [ih]
  by_cases h1:x=y <;> by_cases h2:a=b <;> simp [h1,h2]
theorem Zfg {α:Type} [DecidableEq α] [Inhabited α] {l:List α} {p:Nat} (h1:1≤p) (h2:p<l.length):ZR (l.take (p+1))=if Nn l (p - 1)=Nn l p then ZR (l.take p) else ZR (l.take p) ++ [Nn l p]:=by
 obtain ⟨q,rfl⟩:∃ q,p=q+1:=⟨p - 1,by omega⟩
 rw [ZQ h2,ZQ (show q<l.length by omega),Yp]
 exact Zdd _ _ _
theorem ZfY {α:Type} [DecidableEq α]:∀ {l:List α},l.length≤1→ZR l=l
 | [],_=>rfl
 | [x],_=>rfl
 | x :: y :: l,h=>by simp at h
theorem ZsC (v:Value) (l:List Int) (hll:l.length≤1000000):FnG prog 212 1 [.is v] [ZO 3 1 Zs l v] (PV.one) (fun v=>[ZO 3 1 Zs (ZR l) v]):=by
 refine FnG.mk func212 Z ntmps212 Z kr fun B F0 a w F V hG O=>?_
 replace O:=O.turn 1 Z (r':=.ob (.val v) (ZO 3 1 Zs l)) (fun _ _ _ _ h=>h)
 refine Ya (rZ O (qC qZ) V [2,0] [1,0] fun O=>(Ya (Ya ?_)))
 refine rZ O (qR rr (qf (Zap 1 YbO .is) r1 r1 (qf (ZaR .t qi) r1 qz qZ))) V [8,2,0] [1,0] fun O=>?_
 refine Zc O Z (fun hc0=>?_) (fun hc0=>?_)
 ·have hg:(ZR l)=l:=ZfY (by simp at hc0;omega)
  refine Ya (rZ O (qR rr (qO rr qZ)) V [2,0] [1,0] fun O=>(Yh (Zf ?_)))
  have O:=O.turn 1 Z (r':=RS.hp (ZO 3 1 Zs (ZR l) v)) (fun _ _ _ _ h=>by rw [hg];exact h)
  refine Zed (h':=fun v=>ZO 3 1 Zs (ZR l) v) hG O Z (.tmp Z .nil) (.one .one) rfl
 have hl2:2≤l.length:=by simp at hc0;omega
 refine Yd (Za (Ya (Ya (rZ O (qI qZ) V [3,2,0] [1,0] fun O=>Ye ?_))))
 refine Zk (σ:=Nat) [0,2] [0,1] (fun s=>[(3,.pv (.int .i64 (s:Int)))]) (fun s=>[]) (fun s=>1≤s∧s≤l.length∧ZR (l.take s)=l.take s) (fun s=>l.length - s) (1) O ⟨rfl,rfl,rfl,tv⟩ ⟨rfl,rfl,tv⟩ ⟨by omega,by omega,ZfY (by rw [Yk];omega)⟩ ?_
 clear O;intro k a w F hC O
 try dsimp only at hC
 obtain ⟨F,O⟩:=O.nM [3,2,0] [1,0]
 try dsimp only at O
 obtain ⟨hk1,hkl,hkc⟩:=hC
 have hkw:IntKind.wrap .i64 ((k:Int) - 1)=(k:Int) - 1:=Zj ow
 refine Ya (Ya (rZ O (qR rr (qR rr (qf (Zap 1 YbO .is) r1 r1 (qL r2)))) V [13,3,2,0] [1,0] fun O=>?_))
 refine Zc O Z (fun hc1=>?_) (fun hc1=>?_)
 ·have hil:k<l.length:=by simp at hc1;omega
  have hst:=Zfg (l:=l) hk1 hil
  have hy0:(IntKind.wrap .i64 ((k:Int) - 1)).toNat=k - 1:=by rw [hkw];omega
  refine Yd (Za (Ya (Ye (Ya (Zu O (qR rr (qR rr (qf (o_indexAddr_row (sz:=1) 1 (.mk YbO kr) .is .t ow ow (by rfl)) r2 r1 (qf (Zt (ag:=false) (sz':=1) (sz:=1) 1 .t (by intro x;rfl) ow kr kr kr) r1 r1 (qR rr (qR rr (qf (o_sub .t qi) r1 qz (qf (o_indexAddr_row (sz:=1) 1 (.mk YbO kr) .is .t (by rw [hkw];omega) (by rw [hkw];omega) (by rfl)) r2 r1 (qf (Zt (ag:=false) (sz':=1) (sz:=1) 1 .t (by intro x;rfl) (by rw [hkw];omega) kr kr kr) r1 r1 (qf (o_eql .t .t) r2 qz qZ)))))))))) V [25,3,2,0] [1,0] Z Z fun a w F O=>?_)))))
  try dsimp only [List.map,xD,xE,xT,xU,ldSF,Zs] at O
  try simp only [Yg] at O
  refine Za (Zc O Z (fun hc2=>?_) (fun hc2=>?_))
  ·have heq:Nn l (k - 1)=Nn l k:=by rw [hy0] at hc2;simp at hc2;exact hc2.symm
   rw [Yf heq,hkc] at hst
   have hst0:=hst.symm
   refine Ya (rZ O (qR rr (qR rr (qf (ZjB (sz:=1) 1 (.mk YbO kr) .is .t ow ow) r2 r1 (qO rr qZ)))) V [4,3,2,0] [1,0] fun O=>(Ya (Ya ?_)))
   refine rZ O (qI qZ) V [5,4,3,2,0] [1,0] fun O=>Ye ?_
   have hC0:1≤1∧1≤l.length - k∧k≤k∧k≤k+1 - 1∧l.length=l.length∧l.take k=ZR (l.take (k+1)) ∧ ∀ q,k+1 - 1≤q→q<l.length→Nn l q=Nn l q:=⟨by omega,by omega,by omega,by omega,rfl,hst0,fun q _ _=>rfl⟩
   refine Zk (σ:=Nat×Nat×List Int) [0,2,4] [0] (fun s=>[(3,.pv (.int .i64 (s.1:Int))),(5,.pv (.int .i64 (s.2.1:Int)))]) (fun s=>[(1,.ob (.val v) (ZO 3 1 Zs s.2.2))]) (fun s=>1≤s.2.1∧s.2.1≤l.length - k∧k≤s.1∧s.1≤k+s.2.1 - 1∧s.2.2.length=l.length∧s.2.2.take s.1=ZR (l.take (k+s.2.1)) ∧ ∀ q,k+s.2.1 - 1≤q→q<l.length→Nn s.2.2 q=Nn l q) (fun s=>l.length - s.2.1) ((k),(1),(l)) O ⟨rfl,rfl,rfl,rfl,rfl,tv⟩ ⟨rfl,rfl,tv⟩ hC0 ?_
   clear O;intro s a w F hC O
   obtain ⟨k1,j,l1⟩:=s
   try dsimp only at hC
   obtain ⟨F,O⟩:=O.nM [5,4,3,2,0] [1,0]
   try dsimp only at O
   obtain ⟨hj1,hjk,hkk,hkj,hl1,htk,hrest⟩:=hC
   have hjw:IntKind.wrap .i64 ((j:Int) - 1)=(j:Int) - 1:=Zj ow
   refine Ya (Ya (rZ O (qR rr (qR rr (qf (ZpK 1 YbO .t ow) r1 r1 (qL r2)))) V [32,5,4,3,2,0] [1,0] fun O=>?_))
   refine Zc O Z (fun hc3=>?_) (fun hc3=>?_)
   ·have hjl:k+j<l.length:=by simp at hc3;omega
    have hx1:(Nn l1 (((k:Int)).toNat+((j:Int)).toNat))=Nn l (k+j):=by rw [Yg,Yg];exact hrest _ ow hjl
    have hx0:Nn l1 (((k:Int)).toNat+(IntKind.wrap .i64 ((j:Int) - 1)).toNat)=Nn l (k+j - 1):=by rw [hjw,show ((k:Int)).toNat+((j:Int) - 1).toNat=k+j - 1 by omega];exact hrest _ ow ow
    have hstp:=Zfg (l:=l) (p:=k+j) ow hjl
    refine Yd (Za (Ya (Ye (Ya (Zu O (qR rr (qR rr (qf (o_indexAddr_sub (sz:=1) 1 (.mk YbO kr) .t .t ow ow (by rfl)) r2 r1 (qf (Zt (ag:=false) (sz':=1) (sz:=1) 1 .t (by intro x;rfl) ow kr kr kr) r1 r1 (qR rr (qR rr (qf (o_sub .t qi) r1 qz (qf (o_indexAddr_sub (sz:=1) 1 (.mk YbO kr) .t .t (by rw [hjw];omega) (by rw [hjw];omega) (by rfl)) r2 r1 (qf (Zt (ag:=false) (sz':=1) (sz:=1) 1 .t (by intro x;rfl) (by rw [hjw];omega) kr kr kr) r1 r1 (qf (o_neq .t .t) r2 qz qZ)))))))))) V [44,5,4,3,2,0] [1,0] Z Z fun a w F O=>?_)))))
    try dsimp only [List.map,xD,xE,xT,xU,ldSF,Zs] at O
    try simp only [Yg] at O
    refine Za (Zc O Z (fun hc4=>?_) (fun hc4=>?_))
    ·have hne:¬ Nn l (k+j - 1)=Nn l (k+j):=by rw [← hx1,← hx0];simp at hc4 ⊢;exact fun e=>hc4 e.symm
     rw [Yb hne] at hstp
     obtain ⟨i2,hi2e⟩:∃ i2,i2=k1+1:=⟨_,rfl⟩
     have hi2:IntKind.wrap .i64 ((k1:Int)+1)=(i2:Int):=by rw [hi2e];exact Ze ow
     obtain ⟨l2,hl2e⟩:∃ l2,l2=l1.set k1 (Nn l1 (k+j)):=⟨_,rfl⟩
     have hx1b:Nn l1 (k+j)=Nn l (k+j):=hrest _ ow hjl
     have hC2:1≤j+1∧j+1≤l.length - k∧k≤i2∧i2≤k+(j+1) - 1∧l2.length=l.length∧l2.take i2=ZR (l.take (k+(j+1))) ∧ ∀ q,k+(j+1) - 1≤q→q<l.length→Nn l2 q=Nn l q:=⟨by omega,by omega,by omega,by omega,by rw [hl2e,YN];exact hl1,by rw [hl2e,hi2e,ZQ (by rw [YN];omega),List.take_set_of_le (YA _),htk,Zy (by rw [YN];omega),List.getElem_set_self,hx1b];exact hstp.symm,fun q hq hq2=>by rw [hl2e,Zy (by rw [YN];omega),List.getElem_set_ne ow,← Zy ow];exact hrest q ow hq2⟩
     refine Ya (Zh O (qR rr (qR rr (qR rr (qR rr (qf (o_indexAddr_sub (sz:=1) 1 (.mk YbO kr) .t .t ow ow (by rfl)) r2 r1 (qf (Zt (ag:=false) (sz':=1) (sz:=1) 1 .t (by intro x;rfl) ow kr kr kr) r1 r1 (qf (o_indexAddr_row (sz:=1) 1 (.mk YbO kr) .is .t ow ow (by rfl)) r2 r1 (qf (Zkh (R:=Zs) (sz:=1) (v:=(Nn l1 (((k:Int)).toNat+((j:Int)).toNat))) 1 .t (by intro x;rfl) ow .t Z one_int kr) r2 r1 qZ)))))))) V [5,4,3,2,0] [1,0] Z Z fun a w F O=>?_)
     try simp only [Yg] at O
     rw [← hl2e] at O
     refine Za (Zh O (qR rr (qp r1 (qO rr qZ))) V [5,4,3,2,0] [1,0] Z Z fun a w F O=>Zi (Za ?_))
     refine rZ O (qR rr (qp r1 (qO rr qZ))) V [5,4,3,2,0] [1,0] fun O=>?_
     have hmu:l.length - (j+1)<l.length - j:=by omega
     replace O:=O.ent (i:=3) (s':=.pv (.int .i64 (i2:Int))) Z (.int hi2)
     replace O:=O.ent (i:=5) (s':=.pv (.int .i64 ((j+1:Nat):Int))) Z (.int (Ze ow))
     obtain ⟨F,O⟩:=O.nM [4,2,0,5,3] [0,1]
     exact ⟨((i2),(j+1),(l2)),F,hC2,O,hmu⟩
    have heq2:Nn l (k+j - 1)=Nn l (k+j):=by rw [← hx1,← hx0];simp at hc4 ⊢;exact hc4.symm
    rw [Yf heq2] at hstp
    obtain ⟨i2,hi2e⟩:∃ i2,i2=k1:=⟨_,rfl⟩
    have hi2:(k1:Int)=(i2:Int):=by rw [hi2e]
    obtain ⟨l2,hl2e⟩:∃ l2,l2=l1:=⟨_,rfl⟩
    rw [← hl2e] at O
    have hC2:1≤j+1∧j+1≤l.length - k∧k≤i2∧i2≤k+(j+1) - 1∧l2.length=l.length∧l2.take i2=ZR (l.take (k+(j+1))) ∧ ∀ q,k+(j+1) - 1≤q→q<l.length→Nn l2 q=Nn l q:=⟨by omega,by omega,by omega,by omega,by rw [hl2e];exact hl1,by rw [hl2e,hi2e,htk];exact hstp.symm,fun q hq hq2=>by rw [hl2e];exact hrest q ow hq2⟩
    refine Yd (Zi (Za (rZ O (qR rr (qp r1 (qO rr qZ))) V [5,4,3,2,0] [1,0] fun O=>?_)))
    have hmu:l.length - (j+1)<l.length - j:=by omega
    replace O:=O.ent (i:=3) (s':=.pv (.int .i64 (i2:Int))) Z (.int hi2)
    replace O:=O.ent (i:=5) (s':=.pv (.int .i64 ((j+1:Nat):Int))) Z (.int (Ze ow))
    obtain ⟨F,O⟩:=O.nM [4,2,0,5,3] [0,1]
    exact ⟨((i2),(j+1),(l2)),F,hC2,O,hmu⟩
   have hjl:k+j=l.length:=by simp at hc3;omega
   have hg:(ZR l)=(l1.take k1++List.replicate (l1.length - k1) (0:Int)).take k1:=by rw [List.take_append_of_le_length (by rw [Yk];omega),Ya1,Nat.min_self,htk,hjl,YE]
   refine Ym (Zg (Zg (Zo (Za (Ya (rZ O (qR rr (qR rr (qf (ZjB (sz:=1) 1 (.mk YbO kr) .is .t ow ow) r2 r1 (qf (Zlm (R:=Zs) (z:=(0:Int)) (zs:=[.int .i64 0]) 1 YbO kr Z Z (fun _ _=>⟨⟨rfl,rfl,ZhL⟩,tv⟩) (by intro x;rfl) .t (by simp;omega)) r1 r1 qZ)))) V [3,2,0] [1,0] fun O=>Ya ?_))))))
   refine Zb O (qR rr (qR rr (qf (Zdu (sz:=1) 1 (.mk YbO kr) (by intro x;rfl) .is .t ow (by simp;omega)) r2 r1 (qO rr qZ)))) V [3,2,0] [1,0] (fun _=>rfl) (fun _=>rfl) fun τ a w F O=>?_
   try dsimp only [RS.sub,SF.sub,CF.sub,csub,Anc.sub,List.map,Zs] at O
   generalize τ 59=v59 at O
   refine Za (Yh (Zr (Zf (Zf (Zr (Zf ?_))))))
   have O:=O.turn 1 Z (r':=RS.hp (ZO 3 1 Zs (ZR l) v59)) (fun _ _ _ _ h=>by rw [hg];exact h)
   refine Zed (h':=fun v=>ZO 3 1 Zs (ZR l) v) hG O Z (.tmp Z .nil) (.one .one) rfl
  have hne:¬ Nn l (k - 1)=Nn l k:=by rw [hy0] at hc2;simp at hc2;exact fun e=>hc2 e.symm
  rw [Yb hne] at hst
  refine Yd (Zi (Za (rZ O (qR rr (qp r1 (qO rr qZ))) V [3,2,0] [1,0] fun O=>?_)))
  replace O:=O.ent (i:=3) (s':=.pv (.int .i64 ((k+1:Nat):Int))) Z (.int (Ze ow))
  obtain ⟨F,O⟩:=O.nM [2,0,3] [1,0]
  exact ⟨(k+1),F,⟨by omega,by omega,by rw [hst,hkc,← ZQ hil]⟩,O,by omega⟩
 have hg:(ZR l)=l:=by rw [show k=l.length by simp at hc1;omega,YE] at hkc;exact hkc
 refine Ym (Zg (Zg (Zo (Za (Ya (rZ O (qR rr (qO rr qZ)) V [2] [1,0] fun O=>Yh ?_))))))
 have O:=O.turn 1 Z (r':=RS.hp (ZO 3 1 Zs (ZR l) v)) (fun _ _ _ _ h=>by rw [hg];exact h)
 refine Zed (h':=fun v=>ZO 3 1 Zs (ZR l) v) hG O Z (.tmp Z .nil) (.one .one) rfl
def putIR (n:Int):List Int→Bool→List Int
 | [],d=>if d then [] else [n]
 | x :: l,d=>(if d=false∧n≤x then [n] else [])++(if x=n then [] else [x])++putIR n l (d || decide (n≤x))
def Zdi (l:List Int) (n:Int):List Int:=putIR n l false
abbrev Zjt (l:List Int):Prop:=l.Pairwise fun a b=>a<b
theorem ZfF {n:Int} : ∀ {l:List Int},(∀ x ∈ l,n<x)→putIR n l true=l
 | [],_=>rfl
 | x :: l,h=>by
  have:=h x (by simp)
  rw [putIR,YbB,ZfF fun y hy=>h y (by simp [hy]),Yb (by simp),Yb ow]
  rfl
theorem ZiK {n:Int} : ∀ {l:List Int},Zjt l→Zjt (Zdi l n) ∧ ∀ x,x ∈ Zdi l n ↔ x ∈ l∨x=n
 | [],_=>by simp [Zdi,putIR]
 | y :: l,h=>by
  have h':=Yx.1 h
  unfold Zdi
  by_cases h1:y<n
  ·have e:putIR n (y :: l) false=y :: putIR n l false:=by
    rw [putIR,Yb ow,Yb ow,show (false || decide (n≤y))=false by simp;omega];rfl
   have ih:=ZiK (n:=n) h'.2
   rw [e]
   refine ⟨Yx.2 ⟨fun p hp=>?_,ih.1⟩,fun x=>?_⟩
   ·rcases (ih.2 p).1 hp with hp | rfl
    ·exact h'.1 p hp
    ·exact h1
   ·have:=ih.2 x
    unfold Zdi at this
    simp only [Yo,this]
    constructor
    ·rintro (h | h | h)
     ·exact .inl (.inl h)
     ·exact .inl (.inr h)
     ·exact .inr h
    ·rintro ((h | h) | h)
     ·exact .inl h
     ·exact .inr (.inl h)
     ·exact .inr (.inr h)
  ·by_cases h2:y=n
   ·subst h2
    rw [putIR,Yf ⟨rfl,Yar _⟩,Yf rfl,show (false || decide (y≤y))=true by simp,ZfF h'.1]
    exact ⟨h,fun x=>by simp;intro e;exact .inl e⟩
   ·rw [putIR,Yf ⟨rfl,by omega⟩,Yb h2,show (false || decide (n≤y))=true by simp;omega,ZfF fun x hx=>by have:=h'.1 x hx;omega]
    refine ⟨Yx.2 ⟨fun p hp=>?_,h⟩,fun x=>by simp;constructor <;> (rintro (h | h | h) <;> simp [h])⟩
    rcases Yo.1 hp with rfl | hp
    ·omega
    ·have:=h'.1 p hp;omega
def Zbu (l:List Int):List Int:=l.foldl Zdi []
theorem Zbd (l:List Int):Zjt (Zbu l) ∧ ∀ x,x ∈ Zbu l ↔ x ∈ l:=by
 have key:∀ (l acc:List Int),Zjt acc→Zjt (l.foldl Zdi acc) ∧ ∀ x,x ∈ l.foldl Zdi acc ↔ x ∈ acc∨x ∈ l:=by
  intro l
  induction l with
  | nil=>intro acc h;exact ⟨h,fun x=>by simp⟩
  | cons y l ih=>
   intro acc h
   have h1:=ZiK (n:=y) h
   have h2:=ih (Zdi acc y) h1.1
   refine ⟨h2.1,fun x=>?_⟩
   rw [Yaw,h2.2 x,h1.2 x,Yo]
   constructor
   ·rintro ((h | h) | h)
    ·exact .inl h
    ·exact .inr (.inl h)
    ·exact .inr (.inr h)
   ·rintro (h | h | h)
    ·exact .inl (.inl h)
    ·exact .inl (.inr h)
    ·exact .inr h
 have:=key l [] List.Pairwise.nil
 exact ⟨this.1,fun x=>by rw [show Zbu l=l.foldl Zdi [] from rfl,this.2 x];simp⟩
theorem ZfO:∀ {a b:List Int},Zjt a→Zjt b→(∀ x,x ∈ a ↔ x ∈ b)→a=b
 | [],[],_,_,_=>rfl
 | [],y :: b,_,_,h=>by have:=(h y).2 (by simp);cases this
 | x :: a,[],_,_,h=>by have:=(h x).1 (by simp);cases this
 | x :: a,y :: b,ha,hb,h=>by
  have ha':=Yx.1 ha
  have hb':=Yx.1 hb
  have e:x=y:=by
   rcases Yo.1 ((h x).1 (by simp)) with e | e
   ·exact e
   ·rcases Yo.1 ((h y).2 (by simp)) with e2 | e2
    ·exact e2.symm
    ·have:=hb'.1 x e;have:=ha'.1 y e2;omega
  subst e
  congr 1
  refine ZfO ha'.2 hb'.2 fun z=>⟨fun hz=>?_,fun hz=>?_⟩
  ·rcases Yo.1 ((h z).1 (by simp [hz])) with e | e
   ·have:=ha'.1 z hz;omega
   ·exact e
  ·rcases Yo.1 ((h z).2 (by simp [hz])) with e | e
   ·have:=hb'.1 z hz;omega
   ·exact e
def Za7:List Int→List Int
 | []=>[]
 | x :: l=>match Za7 l with
  | []=>[x]
  | y :: m=>if x=y then y :: m else x :: y :: m
theorem Zfn:∀ (x:Int) (l:List Int),∃ m,Za7 (x :: l)=x :: m
 | x,[]=>⟨[],rfl⟩
 | x,y :: l=>by
  obtain ⟨m,hm⟩:=Zfn y l
  unfold Za7
  rw [hm]
  by_cases h:x=y
  ·subst h;exact ⟨m,Yf rfl⟩
  ·exact ⟨y :: m,Yb h⟩
theorem ZeJ (x y:Int) (l:List Int):Za7 (x :: y :: l)=if x=y then Za7 (y :: l) else x :: Za7 (y :: l):=by
 obtain ⟨m,hm⟩:=Zfn y l
 conv=>lhs;unfold Za7
 rw [hm]
theorem ZdM:∀ {l:List Int},l.Pairwise (fun a b=>a≤b)→Zjt (Za7 l) ∧ ∀ x,x ∈ Za7 l ↔ x ∈ l
 | [],_=>by simp [Za7]
 | [x],_=>by simp [Za7]
 | x :: y :: l,h=>by
  have h':=Yx.1 h
  have ih:=ZdM h'.2
  rw [ZeJ]
  split
  ·rename_i e
   subst e
   exact ⟨ih.1,fun z=>by rw [ih.2 z];simp⟩
  ·rename_i e
   refine ⟨Yx.2 ⟨fun z hz=>?_,ih.1⟩,fun z=>by rw [Yo,ih.2 z,← Yo]⟩
   have h1:=h'.1 y (by simp)
   rcases Yo.1 ((ih.2 z).1 hz) with rfl | hz2
   ·omega
   ·have:=(Yx.1 h'.2).1 z hz2
    omega
theorem Zod (l:List Int):List.Pairwise (fun x y=>x≤y) (l.mergeSort leI):=by
 have:=Ybj (le:=leI) (fun a b c h1 h2=>by simp [leI] at *;omega) (fun a b=>by simp [leI];omega) l
 exact this.imp fun h=>by simpa [leI] using h
theorem Zld (l:List Int):Za7 (l.mergeSort leI)=Zbu l:=
 ZfO (ZdM (Zod l)).1 (Zbd l).1 fun x=>by rw [(ZdM (Zod l)).2,(Zbd l).2];exact (YaK l leI).mem_iff
theorem Zh5:∀ l:List Int,ZR l=Za7 l
 | []=>rfl
 | [x]=>rfl
 | x :: y :: l=>by
  rw [ZeJ,← Zh5 (y :: l)];rfl
theorem Zgi {n x:Int} {l out r:List Int} {d:Bool} (hA:d=false∧n≤x) (V:¬ x=n) (h:out++putIR n (x :: l) d=r):out ++ [n] ++ [x] ++ putIR n l true=r:=by
 rw [← h,putIR,Yf hA,Yb V];simp [hA.2]
theorem Zgg {n x:Int} {l out r:List Int} {d:Bool} (hA:d=false∧n≤x) (V:x=n) (h:out++putIR n (x :: l) d=r):out ++ [n] ++ putIR n l true=r:=by
 rw [← h,putIR,Yf hA,Yf V];simp [hA.2]
theorem Zol {n x:Int} {d:Bool} (hA:¬ (d=false∧n≤x)):(d || decide (n≤x))=d:=by
 cases d
 ·simp at hA ⊢;omega
 ·rfl
theorem Zgj {n x:Int} {l out r:List Int} {d:Bool} (hA:¬ (d=false∧n≤x)) (V:¬ x=n) (h:out++putIR n (x :: l) d=r):out ++ [x] ++ putIR n l d=r:=by
 rw [← h,putIR,Yb hA,Yb V,Zol hA];simp
theorem Zf9 {n x:Int} {l out r:List Int} {d:Bool} (hA:¬ (d=false∧n≤x)) (V:x=n) (h:out++putIR n (x :: l) d=r):out++putIR n l d=r:=by
 rw [← h,putIR,Yb hA,Yf V,Zol hA];simp
theorem ZeS {n:Int} : ∀ (l:List Int) (d:Bool),(putIR n l d).length≤l.length+1
 | [],d=>by cases d <;> simp [putIR]
 | x :: l,d=>by
  have h1:=ZeS (n:=n) l (d || decide (n≤x))
  have h2:∀ l:List Int,(putIR n l true).length≤l.length:=fun l=>by
   induction l with
   | nil=>simp [putIR]
   | cons y l ih=>
    rw [putIR,Yb (by simp),Yc,Yc,YbB]
    split <;> simp <;> omega
  rw [putIR,Yc,Yc]
  have h3:=h2 l
  by_cases hA:d=false∧n≤x
  ·rw [show (d || decide (n≤x))=true by simp [hA.2],Yf hA]
   split <;> simp <;> omega
  ·rw [Yb hA]
   split <;> simp <;> omega
theorem Zp2 (l:List Int) (n:Int) (hl:l.length≤1000000):FnP prog 255 [.sl Zs l,.int .i64 n] (.sl Zs (Zdi l n)):=by
 refine FnP.mk func255 Z ntmps255 Z fun B a w F V hfr O=>?_
 have hll:=Sat.lenSl O (i:=0) rfl
 refine Ya (rZ O (qC qZ) V [4,1,0] [0] fun O=>Ya ?_)
 refine rZ O (qC qZ) V [5,4,1,0] [0] fun O=>Ya ?_
 refine rZ O qB V [6,5,4,1,0] [0] fun O=>(Ya (Ya ?_))
 refine rZ O (qR rr (qu YbO r1 (qJ qZ))) V [11,10,9,6,5,4,1] [0] fun O=>Ye ?_
 replace O:=O.fresh 50 rfl
 replace O:=O.turn 50 Z (ZaC (T:=3) (sz:=1) (R:=Zs))
 refine Zk (σ:=(Nat)×(Bool)×(Value)×(List Int)) [1,4,9,10] [0] (fun s=>[(11,.pv (.int .i64 (s.1:Int))),(6,.pv (.bool s.2.1)),(5,.pv (.is s.2.2.1))]) (fun s=>[(50,.ob (.val s.2.2.1) (ZO 3 1 Zs s.2.2.2))]) (fun s=>s.1≤l.length∧(s.2.2.2++putIR n (l.drop s.1) s.2.1=Zdi l n)) (fun s=>l.length - s.1) ((0),_,(.slice none 0 0),([])) O ⟨rfl,rfl,rfl,rfl,rfl,rfl,rfl,tv⟩ ⟨rfl,rfl,tv⟩ ⟨Yt _,rfl⟩ ?_
 clear O;intro s a w F hC O
 obtain ⟨i,d,v,out⟩:=s
 try dsimp only at hC
 obtain ⟨F,O⟩:=O.nM [11,10,9,6,5,4,1] [50,0]
 try dsimp only at O
 obtain ⟨hi,hq⟩:=hC
 have hol:=Yai List.length hq
 rw [Yc] at hol
 have htl:(Zdi l n).length≤l.length+1:=ZeS l false
 refine Ya (rZ O (qL r2) V [12,11,10,9,6,5,4,1] [50,0] fun O=>Ya ?_)
 refine Zc O Z (fun hc0=>?_) (fun hc0=>?_)
 ·have hil:i<l.length:=by simp at hc0;omega
  refine Yd (Za (Ya (Ye (Ya (Zh O (qy 1 YbO r2 (qf (oR false 1 .t) r1 qz (qO rr qZ))) V [11,10,9,8,6,5,4,1] [50,0] Z Z fun a w F O=>?_)))))
  try simp only [Yg] at O
  refine Za (Ya (Ya (rZ O (qR rr (qf (Z1 .t) r1 qz (qR rr (qm Z Z Z Z (qm Z Z Z Z (qk Z (fun h=>Zcx (.w h) (.w h)) r3 qz (qf (ZJ .t .t) r2 qz qZ))))))) V [21,11,10,9,8,6,5,4,1] [50,0] fun O=>?_)))
  refine Zc O Z (fun hc1=>?_) (fun hc1=>?_)
  ·have hA:d=false∧n≤Nn l i:=by simpa using hc1
   refine Ya (Zb O (qR rr (qR rr (qf (Zn (sz:=1) (zs:=[.int .i64 0]) (r:=[(0,.tmp 23)]) (l:=[_]) YbO kr kr kr kr Z Z (.one Z .t one_int kr .nil) Z) r1 qz (qf (o_append (sz:=1) (bs:=8) 50 (.mk' YbO kr kr) (by intro x;rfl) .is (.arr (l':=[n]) .t) (by simp only [Yc,Yl,Yq];omega) (by decide)) ⟨rfl,rfl,tv⟩ ⟨rfl,tv⟩ (qO rr qZ))))) V [11,10,9,8,6,5,4,1] [50,0] (fun _=>rfl) (fun _=>rfl) fun τ a w F O=>?_)
   try dsimp only [RS.sub,SF.sub,CF.sub,csub,Anc.sub,List.map,Zd,xL,xM,Nat.reduceAdd,xD,xE,xT,xU,xC,xN,zCF,Zs] at O
   generalize τ 25=v25 at O
   refine Za (rZ O qB V [11,10,9,8,6,5,4,1] [50,0] fun O=>Ya ?_)
   refine rZ O (qR rr (qR rr (qf (o_neq .t .t) r2 qz qZ))) V [28,11,10,9,8,6,5,4,1] [50,0] fun O=>?_
   refine Zc O Z (fun hc2=>?_) (fun hc2=>?_)
   ·have hBq:¬ Nn l i=n:=by simpa using hc2
    refine Zb O (qR rr (qR rr (qf (Zn (sz:=1) (zs:=[.int .i64 0]) (r:=[(0,.tmp 30)]) (l:=[_]) YbO kr kr kr kr Z Z (.one Z .t one_int kr .nil) Z) r1 qz (qf (o_append (sz:=1) (bs:=8) 50 (.mk' YbO kr kr) (by intro x;rfl) .is (.arr (l':=[Nn l i]) .t) (by simp only [Yc,Yl,Yq];omega) (by decide)) ⟨rfl,rfl,tv⟩ ⟨rfl,tv⟩ (qO rr qZ))))) V [11,10,9,6,5,4,1] [50,0] (fun _=>rfl) (fun _=>rfl) fun τ a w F O=>?_
    try dsimp only [RS.sub,SF.sub,CF.sub,csub,Anc.sub,List.map,Zd,xL,xM,Nat.reduceAdd,xD,xE,xT,xU,xC,xN,zCF,Zs] at O
    generalize τ 32=v32 at O
    refine Zi (Za (rZ O (qp r1 (qR rr qZ)) V [11,10,9,6,5,4,1] [50,0] fun O=>?_))
    replace O:=O.ent (i:=11) (s':=.pv (.int .i64 ((i+1:Nat):Int))) Z (.int (Ze ow))
    obtain ⟨F,O⟩:=O.nM [10,9,4,1,5,6,11] [0,50]
    exact ⟨((i+1),_,_,_),F,⟨by omega,(by rw [ZaX hil] at hq;first | exact Zgi hA hBq hq | exact Zgg hA hBq hq | exact Zgj hA hBq hq | exact Zf9 hA hBq hq)⟩,O,by omega⟩
   have hBq:Nn l i=n:=by simpa using hc2
   refine Yd (Zi (Za (rZ O (qp r1 (qR rr qZ)) V [11,10,9,6,5,4,1] [50,0] fun O=>?_)))
   replace O:=O.ent (i:=11) (s':=.pv (.int .i64 ((i+1:Nat):Int))) Z (.int (Ze ow))
   obtain ⟨F,O⟩:=O.nM [10,9,4,1,5,6,11] [0,50]
   exact ⟨((i+1),_,_,_),F,⟨by omega,(by rw [ZaX hil] at hq;first | exact Zgi hA hBq hq | exact Zgg hA hBq hq | exact Zgj hA hBq hq | exact Zf9 hA hBq hq)⟩,O,by omega⟩
  have hA:¬ (d=false∧n≤Nn l i):=by rintro ⟨h1,h2⟩;subst h1;simp at hc1;omega
  refine Yd (Za (Ya (rZ O (qR rr (qR rr (qf (o_neq .t .t) r2 qz qZ))) V [28,11,10,9,8,6,5,4,1] [50,0] fun O=>?_)))
  refine Zc O Z (fun hc3=>?_) (fun hc3=>?_)
  ·have hBq:¬ Nn l i=n:=by simpa using hc3
   refine Zb O (qR rr (qR rr (qf (Zn (sz:=1) (zs:=[.int .i64 0]) (r:=[(0,.tmp 30)]) (l:=[_]) YbO kr kr kr kr Z Z (.one Z .t one_int kr .nil) Z) r1 qz (qf (o_append (sz:=1) (bs:=8) 50 (.mk' YbO kr kr) (by intro x;rfl) .is (.arr (l':=[Nn l i]) .t) (by simp only [Yc,Yl,Yq];omega) (by decide)) ⟨rfl,rfl,tv⟩ ⟨rfl,tv⟩ (qO rr qZ))))) V [11,10,9,6,5,4,1] [50,0] (fun _=>rfl) (fun _=>rfl) fun τ a w F O=>?_
   try dsimp only [RS.sub,SF.sub,CF.sub,csub,Anc.sub,List.map,Zd,xL,xM,Nat.reduceAdd,xD,xE,xT,xU,xC,xN,zCF,Zs] at O
   generalize τ 32=v32 at O
   refine Zi (Za (rZ O (qp r1 (qR rr qZ)) V [11,10,9,6,5,4,1] [50,0] fun O=>?_))
   replace O:=O.ent (i:=11) (s':=.pv (.int .i64 ((i+1:Nat):Int))) Z (.int (Ze ow))
   obtain ⟨F,O⟩:=O.nM [10,9,4,1,5,6,11] [0,50]
   exact ⟨((i+1),_,_,_),F,⟨by omega,(by rw [ZaX hil] at hq;first | exact Zgi hA hBq hq | exact Zgg hA hBq hq | exact Zgj hA hBq hq | exact Zf9 hA hBq hq)⟩,O,by omega⟩
  have hBq:Nn l i=n:=by simpa using hc3
  refine Yd (Zi (Za (rZ O (qp r1 (qR rr qZ)) V [11,10,9,6,5,4,1] [50,0] fun O=>?_)))
  replace O:=O.ent (i:=11) (s':=.pv (.int .i64 ((i+1:Nat):Int))) Z (.int (Ze ow))
  obtain ⟨F,O⟩:=O.nM [10,9,4,1,5,6,11] [0,50]
  exact ⟨((i+1),_,_,_),F,⟨by omega,(by rw [ZaX hil] at hq;first | exact Zgi hA hBq hq | exact Zgg hA hBq hq | exact Zgj hA hBq hq | exact Zf9 hA hBq hq)⟩,O,by omega⟩
 have hil:i=l.length:=by simp at hc0;omega
 refine Ym (Zg (Zg (Zo (Za (Ya (Ya (rZ O (qR rr (qf (Z1 .t) r1 qz qZ)) V [35,5,4,1] [50,0] fun O=>?_)))))))
 refine Zc O Z (fun hc4=>?_) (fun hc4=>?_)
 ·have hfin:out ++ [n] = Zdi l n:=by rw [hil,Yba] at hq;cases d with | true=>simp at hc4 | false=>exact hq
  refine Zb O (qR rr (qR rr (qf (Zn (sz:=1) (zs:=[.int .i64 0]) (r:=[(0,.tmp 37)]) (l:=[_]) YbO kr kr kr kr Z Z (.one Z .t one_int kr .nil) Z) r1 qz (qf (o_append (sz:=1) (bs:=8) 50 (.mk' YbO kr kr) (by intro x;rfl) .is (.arr (l':=[n]) .t) (by simp only [Yc,Yl,Yq];omega) (by decide)) ⟨rfl,rfl,tv⟩ ⟨rfl,tv⟩ (qO rr qZ))))) V [5,4] [50,0] (fun _=>rfl) (fun _=>rfl) fun τ a w F O=>?_
  try dsimp only [RS.sub,SF.sub,CF.sub,csub,Anc.sub,List.map,Zd,xL,xM,Nat.reduceAdd,xD,xE,xT,xU,xC,xN,zCF,Zs] at O
  generalize τ 39=v39 at O
  refine Za (Ya (rZ O (qR rr (qO rr qZ)) V [4] [50,0] fun O=>Yh ?_))
  obtain ⟨F,O⟩:=O.give 50 4 Z rfl
  refine ZB hfr O Z Z Z (.sl hfin)
 have hfin:out=Zdi l n:=by rw [hil,Yba] at hq;cases d with | false=>simp at hc4 | true=>simpa [putIR] using hq
 refine Yd (Za (Ya (rZ O (qR rr (qO rr qZ)) V [4] [50,0] fun O=>Yh ?_)))
 obtain ⟨F,O⟩:=O.give 50 4 Z rfl
 refine ZB hfr O Z Z Z (.sl hfin)
structure OpD where
 read:Bool
 key:Int
 tx:Int
 nth:Int
 deriving DecidableEq,Inhabited
structure TxD where
 id:Int
 done:Bool
 ops:List OpD
 deriving DecidableEq,Inhabited
structure OrdD where
 key:Int
 txs:List Int
 deriving DecidableEq,Inhabited
structure Zx where
 txs:List TxD
 orders:List OrdD
 deriving DecidableEq,Inhabited
structure ZK where
 was:List TxD
 now:List TxD
 old:List OrdD
 new:List OrdD
 deriving DecidableEq,Inhabited
def rOp (o:OpD):List PV:=[.bool o.read,.int .i64 o.key,.int .i64 o.tx,.int .i64 o.nth]
def rTx (t:TxD):List PV:=[.int .i64 t.id,.bool t.done,.sl rOp t.ops]
def Zv (o:OrdD):List PV:=[.int .i64 o.key,.sl Zs o.txs]
def Zl (h:Zx):List PV:=[.sl rTx h.txs,.sl Zv h.orders]
def Zaa (d:ZK):List PV:=[.sl rTx d.was,.sl rTx d.now,.sl Zv d.old,.sl Zv d.new]
theorem ZrI {u v:OpD} (h:(!((u.read == v.read) && (decide (u.key=v.key) && (decide (u.tx=v.tx) && (decide (u.nth=v.nth) && true)))))=false):u=v:=by
 cases u;cases v
 simp at h
 simp [h]
theorem ZkG (x y:List OpD):FnP prog 59 [.sl rOp x,.sl rOp y] (.bool (decide (x=y))):=by
 refine FnP.mk func59 Z ntmps59 Z fun B a w F V hfr O=>?_
 have hxl:=Sat.lenSl O (i:=0) rfl
 refine Ya (rZ O qB V [4,1,0] [0] fun O=>(Ya (Ya ?_)))
 refine rZ O (qR rr (qu YbR r1 (qR rr (qu YbR r1 (qf (o_neq .t .t) r2 qz qZ))))) V [10,4,1,0] [0] fun O=>?_
 refine Zc O Z (fun hc0=>?_) (fun hc0=>?_)
 ·have hg:false=decide (x=y):=by
    rw [Y8,Yi]
    intro h
    subst h
    simp at hc0
  refine Ya (rZ O qB V [4,1,0] [0] fun O=>(Yh (Zf ?_)))
  refine ZB hfr O Z Z Z (.bool hg)
 have hl:x.length=y.length:=by simp at hc0;omega
 refine Yd (Za (Ya (Ya (rZ O (qR rr (qu YbR r1 (qJ qZ))) V [13,12,4,1,0] [0] fun O=>Ye ?_))))
 obtain ⟨F,O⟩:=O.nM [13,12,1,0] [0]
 refine Zbw (σ:=Nat) (fun s=>(⟨[(0,.pv (.sl rOp x)),(1,.pv (.sl rOp y)),(12,.pv (.int .i64 x.length)),(13,.pv (.int .i64 s))],[(0,frame B)]⟩:En)) (fun s=>s≤x.length ∧ ∀ j,j<s→Nn x j=Nn y j) (fun s=>x.length - s) 0 O ⟨Yt _,fun j hj=>absurd hj (YJ j)⟩ ?_
 clear O;intro i a w F hC O
 try dsimp only at hC
 try dsimp only at O
 obtain ⟨hi,hq⟩:=hC
 refine Ya (rZ O (qL r2) V [14,13,12,1,0] [0] fun O=>Ya ?_)
 refine Zc O Z (fun hc1=>?_) (fun hc1=>?_)
 ·have hil:i<x.length:=by simp at hc1;omega
  refine Yd (Za (Ya (Ye (Ya (rZ O (qR rr (qO rr qZ)) V [13,12,5,1,0] [0] fun O=>Ya ?_)))))
  refine Zu O (qR rr (qR rr (qy 4 YbR r2 (qf (oR true 4 .t) r1 qz (qR rr (qR rr (qy 4 YbR r2 (qf (oR true 4 .t) r1 qz (qf (Zp8 (ks:=[false,true,true,true]) kr .t .t (.bool (.int (.int (.int .nil))))) r2 qz qZ))))))))) V [24,13,12,1,0] [0] Z Z fun a w F O=>?_
  try dsimp only [List.map,xD,xE,xT,xU,ldSF] at O
  refine Za (Zc O Z (fun hc2=>?_) (fun hc2=>?_))
  ·have hg:false=decide (x=y):=by
     rw [Y8,Yi]
     intro h
     subst h
     simp at hc2
   refine Ya (rZ O qB V [13,12,4,1,0] [0] fun O=>(Yh (Zr (Zf (Zf (Zr (Zf ?_)))))))
   refine ZB hfr O Z Z Z (.bool hg)
  rw [Yg] at hc2
  have hqi:Nn x i=Nn y i:=ZrI hc2
  refine Yd (Zi (Za (rZ O (qp r1 (qR rr qZ)) V [13,12,1,0] [0] fun O=>?_)))
  replace O:=O.ent (i:=13) (s':=.pv (.int .i64 ((i+1:Nat):Int))) Z (.int (Ze ow))
  obtain ⟨F,O⟩:=O.nM [13,12,1,0] [0]
  exact ⟨i+1,F,⟨by omega,fun j hj=>by rcases Yy (YD hj) with h | h;exact hq j h;rw [h];exact hqi⟩,O,by omega⟩
 have hg:true=decide (x=y):=by
   rw [Y8,Yj]
   exact ZaS hl fun j hj=>hq j (by simp at hc1;omega)
 refine Ym (Zg (Zg (Zo (Za (Ya (rZ O qB V [4] [0] fun O=>Yh ?_))))))
 refine ZB hfr O Z Z Z (.bool hg)
theorem Zmh (l:List OpD) (hl:l.length≤1000000):FnG prog 86 1 [.sl rOp l] [.star []] (PV.one) (fun v=>[ZO 70 4 rOp l v]):=by
 refine FnG.mk func86 Z ntmps86 Z kr fun B F0 a w F V hG O=>?_
 obtain ⟨F,O⟩:=O.nM [0] [0]
 refine Ya (rZ O (qC qZ) V [2,0] [0] fun O=>(Ya (Ya ?_)))
 refine Zh O (qR rr (qf (Zc8 YbR .t) r1 qz qZ)) V [4,2,0] [0] Z Z fun a w F O=>?_
 obtain ⟨β4,hβ4,O⟩:=O.pickBool 4 rfl
 obtain ⟨F,O⟩:=O.nM [4,2,0] [0]
 refine Za (Zc O Z (fun hc0=>?_) (fun hc0=>?_))
 ·have hg:l = []:=hβ4 hc0
  refine Ya (rZ O (qC qZ) V [2,0] [0] fun O=>(Yh (Zf ?_)))
  have O:=O.fresh 1 rfl
  have O:=O.turn 1 Z (ZaC (T:=70) (sz:=4) (R:=rOp))
  have O:=O.turn 1 Z (r':=RS.hp (ZO 70 4 rOp l (.slice none 0 0))) (fun _ _ _ _ h=>by rw [hg];exact h)
  refine Zed (h':=fun v=>ZO 70 4 rOp l v) hG O Z (.tmp Z .nil) (.one .one) rfl
 have hg:l = [] ++ l:=rfl
 refine Yd (Za (Ya (Zb O (qf (ZaP (R:=rOp) (sz:=4) 101 YbR kr) trivial qz (qR rr (qf (o_append (sz:=4) (bs:=32) 101 (.mk' YbR kr kr) (by intro x;rfl) .same (.sl .t) (by simp only [Yc,Yq];omega) (by decide)) ⟨rfl,rfl,tv⟩ ⟨rfl,tv⟩ (qO rr qZ)))) V [2] [101,0] (fun _=>rfl) (fun _=>rfl) fun τ a w F O=>?_)))
 try dsimp only [RS.sub,SF.sub,CF.sub,csub,Anc.sub,List.map,Zd,xL,xM,Nat.reduceAdd,xD,xE,xT,xU,xC,xN,zCF,rOp] at O
 generalize τ 7=v7 at O
 refine Za (Yh ?_)
 obtain ⟨F,O⟩:=O.rename 101 1 Z rfl
 have O:=O.turn 1 Z (r':=RS.hp (ZO 70 4 rOp l v7)) (fun _ _ _ _ h=>by rw [hg];exact h)
 refine Zed (h':=fun v=>ZO 70 4 rOp l v) hG O Z (.tmp Z .nil) (.one .one) rfl
structure Zuf where
 src:Int
 dst:Int
 kind:Int
 key:Int
 deriving DecidableEq,Inhabited
structure ZcF where
 tx:Int
 key:Int
 nth:Int
 deriving DecidableEq,Inhabited
def ZY (v:ZcF):List PV:=[.int .i64 v.tx,.int .i64 v.key,.int .i64 v.nth]
def noV:ZcF:=⟨0,0,0⟩
def idB (n:Int):Bool:=decide (1≤n) && decide (n≤1048575)
def Zca (v:ZcF):Bool:=if v.tx=0 then idB v.key && decide (v.nth=0) else ((idB v.tx && idB v.key) && decide (1≤v.nth)) && decide (v.nth≤4095)
def ZtG (v:ZcF):Int:=(v.tx*1048576+v.key)*4096+v.nth
def ZrH (v:ZcF):Int×Int:=if Zca v then (ZtG v,0) else (0,1)
theorem Zhn {n:Int} : idB n=true ↔ 1≤n∧n≤1048575:=by unfold idB;rw [Yv,Yj,Yj]
theorem Zm5 (k:Int):decide (k<1) = !decide (1≤k):=by rw [← decide_not];exact decide_eq_decide.2 ow
theorem ZpL (m k:Int):decide (m<k) = !decide (k≤m):=by rw [← decide_not];exact decide_eq_decide.2 ow
theorem or64 (x y:Nat) (hx:x<18446744073709551616) (hy:y<18446744073709551616):bits .or .u64 (x:Int) (y:Int)=((x ||| y:Nat):Int):=by
 have h1:(BitVec.ofInt 64 (x:Int)).toNat=x:=by rw [BitVec.toNat_ofInt];omega
 have h2:(BitVec.ofInt 64 (y:Int)).toNat=y:=by rw [BitVec.toNat_ofInt];omega
 show IntKind.wrap .u64 (((BitVec.ofInt 64 (x:Int) ||| BitVec.ofInt 64 (y:Int)).toNat:Nat):Int)=_
 rw [BitVec.toNat_or,h1,h2]
 exact ZeL (by have:=Nat.or_lt_two_pow (n:=64) hx hy;omega)
theorem ZtW {q:Nat} (h:q<18446744073709551616):IntKind.wrap .u64 (q:Int)=q:=ZeL ow
theorem ZrP {K:Int} (k:Nat) (hk:min K.toNat (IntKind.bits .u64)=k) (x y:Int) (hx:0≤x) (hy:0≤y) (hyk:y<2 ^ k) (hb:x*2 ^ k+y<18446744073709551616):bits .or .u64 (IntKind.wrap .u64 (x*2 ^ min K.toNat (IntKind.bits .u64))) y=x*2 ^ k+y:=by
 obtain ⟨X,rfl⟩:=Int.eq_ofNat_of_zero_le hx
 obtain ⟨Y,rfl⟩:=Int.eq_ofNat_of_zero_le hy
 rw [hk]
 have e2:(X:Int)*2 ^ k=((X*2 ^ k:Nat):Int):=by rw [Int.natCast_mul,Int.natCast_pow];rfl
 have hY:Y<2 ^ k:=by exact_mod_cast hyk
 have hor:X*2 ^ k ||| Y=X*2 ^ k+Y:=by rw [Nat.mul_comm];exact (Nat.two_pow_add_eq_or_of_lt hY X).symm
 rw [e2] at hb ⊢
 generalize X*2 ^ k=Q at hb hor ⊢
 rw [ZtW ow,or64 _ _ ow ow,hor]
 omega
theorem Zmo {v:ZcF} (h:Zca v=true):bits .or .u64 (IntKind.wrap .u64 (bits .or .u64 (IntKind.wrap .u64 (IntKind.wrap .u64 v.tx*2 ^ min (20:Int).toNat (IntKind.bits .u64))) (IntKind.wrap .u64 v.key)*2 ^ min (12:Int).toNat (IntKind.bits .u64))) (IntKind.wrap .u64 v.nth)=ZtG v:=by
 have hb:(0≤v.tx∧v.tx≤1048575)∧(1≤v.key∧v.key≤1048575)∧(0≤v.nth∧v.nth≤4095):=by
  unfold Zca at h
  split at h <;> simp only [Yv,Yj,Zhn] at h <;> omega
 obtain ⟨h1,h2,h3⟩:=hb
 rw [ZeL (x:=v.tx) ow,ZeL (x:=v.key) ow,ZeL (x:=v.nth) ow]
 rw [ZrP 20 rfl v.tx v.key ow ow ow ow,ZrP 12 rfl (v.tx*2 ^ 20+v.key) v.nth ow ow ow ow]
 unfold ZtG
 omega
theorem Zt6 (n:Int):FnP prog 259 [.int .i64 n] (.bool (idB n)):=by
 refine FnP.mk func259 Z ntmps259 Z fun B a w F V hfr O=>Ya ?_
 refine rZ O qB V [2,0] [0] fun O=>Ya ?_
 refine rZ O (qR rr (qf (Zcx .t qi) r1 qz (qR rr (qm Z Z Z Z (qk Z (fun h=>ZhO (.w h) qi) r2 qz (qf (ZJ .t .t) r2 qz (qO rr qZ))))))) V [2] [0] fun O=>Yh ?_
 refine ZB hfr O Z Z Z .refl
theorem ZfE (n:Int):FnP prog 195 [.int .i64 n] (.bool (idB n)):=by
 refine FnP.mk func195 Z ntmps195 Z fun B a w F V hfr O=>Ya ?_
 refine rZ O qB V [2,0] [0] fun O=>Ya ?_
 refine rZ O (qR rr (qf (Zcx .t qi) r1 qz (qR rr (qm Z Z Z Z (qk Z (fun h=>ZhO (.w h) qi) r2 qz (qf (ZJ .t .t) r2 qz (qO rr qZ))))))) V [2] [0] fun O=>Yh ?_
 refine ZB hfr O Z Z Z .refl
theorem Zig (v:ZcF):((!(decide (v.tx=0) && decide (v.nth=0)) && ((!idB v.tx || decide (v.nth<1)) || decide (4095<v.nth))) || !idB v.key) = !Zca v:=by
 unfold Zca
 by_cases h:v.tx=0
 ·rw [Yf h,YI h]
  have hi:idB v.tx=false:=by rw [h];rfl
  rw [hi]
  cases decide (v.nth=0) <;> cases idB v.key <;> simp
 ·rw [Yb h,Yu h,Zm5,ZpL 4095]
  cases idB v.tx <;> cases idB v.key <;> cases decide (1≤v.nth) <;> cases decide (v.nth≤4095) <;> rfl
theorem Zpt (v:ZcF):FnP prog 215 [.agg (ZY v)] (.tup [.int .u64 (ZrH v).1,.int .i64 (ZrH v).2]):=by
 refine FnP.mk func215 Z ntmps215 Z fun B a w F V hfr O=>Ya ?_
 refine Zb O (qx 101 r1 (qI (qI qZ))) V [3,2,1] [101,0] (fun _=>rfl) (fun _=>rfl) fun τ a w F O=>?_
 try dsimp only [RS.sub,SF.sub,CF.sub,csub,Anc.sub,List.map,zCF] at O
 generalize τ 1=v1 at O
 refine Za (Ya (rZ O (qg 0 101 r1 r1 (qa 101 r1 r1 (qf (o_eql .t qi) r1 qz (qR rr (qv 2 101 Z r2 r1 (qw 101 Z r2 r1 (qk Z (fun h=>o_eql (.w h) qi) r2 qz (qf (ZJ .t .t) r2 qz (qO rr qZ))))))))) V [4,3,2,1] [101,0] fun O=>(Ya (Ya ?_))))
 refine Zh O (qR rr (qf (Z1 .t) r1 qz (qR rr (qv 0 101 Z r2 r1 (qw 101 Z r2 r1 (qk Z (fun h=>oP (Zt6 _) func259 (Args.one (.w h))) r2 qz (qk Z (fun h=>Z1 (.w h)) r2 qz (qk Z (fun h=>oM (.w h)) r2 qz (Zq.cons (Zaj.cond2 Z Z (fun h=>ZA (off:=2) 101 .is kr (by rfl))) r2 r1 (Zq.cons (Zaj.cond2 Z Z (fun h=>Zaq (ag:=false) (sz:=1) 101 (.w h .adr) kr kr kr (by rfl))) r2 r1 (Zq.cons (Zaj.cond2 Z Z (fun h=>ZaR (.w h) qi)) r2 qz (qk Z (fun h=>ZaM (.w h) (.wc h)) r3 qz (qk Z (fun h=>oM (.w h)) r2 qz (Zq.cons (Zaj.cond2 Z Z (fun h=>ZA (off:=2) 101 .is kr (by rfl))) r2 r1 (Zq.cons (Zaj.cond2 Z Z (fun h=>Zaq (ag:=false) (sz:=1) 101 (.w h .adr) kr kr kr (by rfl))) r2 r1 (Zq.cons (Zaj.cond2 Z Z (fun h=>Zal (.w h) qi)) r2 qz (qk Z (fun h=>ZaM (.w h) (.wc h)) r3 qz (qf (ZJ .t .t) r2 qz (qR rr (qv 1 101 Z r2 r1 (qw 101 Z r2 r1 (qk Z (fun h=>oP (Zt6 _) func259 (Args.one (.w h))) r2 qz (qk Z (fun h=>Z1 (.w h)) r2 qz (qf (ZaM .t .t) r2 qz qZ)))))))))))))))))))))))) V [36,3,2,1] [101,0] Z Z fun a w F O=>?_
 try dsimp only [List.map,xD,xE,xT,xU,ldSF] at O
 refine Za (Zc O Z (fun hc0=>?_) (fun hc0=>?_))
 ·rw [Zig] at hc0
  have hr:Zca v=false:=by simpa using hc0
  have hg:ZrH v=(0,1):=by unfold ZrH;rw [hr];rfl
  refine Ya (rZ O (qI (qI qZ)) V [3,2,1] [101,0] fun O=>(Yh (Zf ?_)))
  refine Z3 hfr O Z (.tmp Z (.tmp Z .nil)) (.two (.int (by rw [hg];try exact Zmo hr)) (.int (by rw [hg])))
 rw [Zig] at hc0
 have hr:Zca v=true:=by simpa using hc0
 have hg:ZrH v=(ZtG v,0):=Yf hr
 refine Yd (Za (Ya (rZ O (qg 0 101 r1 r1 (qa 101 r1 r1 (qf (Za0 underlying262 kr .t) r1 qz (qf (ZsY .t qi (by decide)) r1 qz (qg 1 101 r1 r1 (qa 101 r1 r1 (qf (Za0 underlying262 kr .t) r1 qz (qf (Zud .t .t) r2 qz (qf (ZsY .t qi (by decide)) r1 qz (qg 2 101 r1 r1 (qa 101 r1 r1 (qf (Za0 underlying262 kr .t) r1 qz (qf (Zud .t .t) r2 qz (qO rr (qI qZ))))))))))))))) V [3,2] [0] fun O=>Yh ?_)))
 refine Z3 hfr O Z (.tmp Z (.tmp Z .nil)) (.two (.int (by rw [hg];try exact Zmo hr)) (.int (by rw [hg])))
theorem Zrp (v:ZcF):FnP prog 252 [.agg (ZY v)] (.bool (Zca v)):=by
 refine FnP.mk func252 Z ntmps252 Z fun B a w F V hfr O=>Ya ?_
 refine Zb O (qx 101 r1 qB) V [2,1] [101,0] (fun _=>rfl) (fun _=>rfl) fun τ a w F O=>?_
 try dsimp only [RS.sub,SF.sub,CF.sub,csub,Anc.sub,List.map,zCF] at O
 generalize τ 1=v1 at O
 refine Za (Ya (Ya (rZ O (qg 0 101 r1 r1 (qa 101 r1 r1 (qf (o_eql .t qi) r1 qz qZ))) V [5,2,1] [101,0] fun O=>?_)))
 refine Zc O Z (fun hc0=>?_) (fun hc0=>?_)
 ·have h0:v.tx=0:=YV hc0
  refine Ya (rZ O (qg 1 101 r1 r1 (qa 101 r1 r1 (qf (oP (ZfE _) func195 (Args.one .t)) r1 qz (qR rr (qv 2 101 Z r2 r1 (qw 101 Z r2 r1 (qk Z (fun h=>o_eql (.w h) qi) r2 qz (qf (ZJ .t .t) r2 qz (qO rr qZ))))))))) V [2,1] [101,0] fun O=>(Yh (Zf ?_)))
  refine ZB hfr O Z Z Z (.bool (by unfold Zca;first | rw [Yf h0] | rw [Yb h0]))
 have h0:¬ v.tx=0:=YaR hc0
 refine Yd (Za (Ya (rZ O (qg 0 101 r1 r1 (qa 101 r1 r1 (qf (oP (ZfE _) func195 (Args.one .t)) r1 qz (qR rr (qv 1 101 Z r2 r1 (qw 101 Z r2 r1 (qk Z (fun h=>oP (ZfE _) func195 (Args.one (.w h))) r2 qz (qf (ZJ .t .t) r2 qz (qR rr (qv 2 101 Z r2 r1 (qw 101 Z r2 r1 (qk Z (fun h=>Zcx (.w h) qi) r2 qz (qf (ZJ .t .t) r2 qz (qR rr (qv 2 101 Z r2 r1 (qw 101 Z r2 r1 (qk Z (fun h=>ZhO (.w h) qi) r2 qz (qf (ZJ .t .t) r2 qz (qO rr qZ))))))))))))))))))) V [2] [0] fun O=>Yh ?_)))
 refine ZB hfr O Z Z Z (.bool (by unfold Zca;first | rw [Yf h0] | rw [Yb h0]))
def ZbX (o:OpD):Bool:=if o.read=true then Zca ⟨o.tx,o.key,o.nth⟩ else (idB o.key && decide (o.tx=0)) && decide (o.nth=0)
def ofO (o:OpD):ZcF:=if o.read=true then ⟨o.tx,o.key,o.nth⟩ else noV
def Zdt (o:OpD):Int:=if ZbX o=true then 0 else 1
theorem ZoB {o:OpD} (h:ZbX o=true):(1≤o.key∧o.key≤1048575)∧(0≤o.tx∧o.tx≤1048575)∧(0≤o.nth∧o.nth≤4095):=by
 unfold ZbX at h
 split at h
 ·unfold Zca at h
  dsimp only at h
  split at h <;> simp only [Yv,Yj,Zhn] at h <;> omega
 ·simp only [Yv,Yj,Zhn] at h
  omega
theorem ZfK {o:OpD} (h:o.read=true):ZbX o=Zca (ofO o):=by unfold ZbX ofO;rw [Yf h,Yf h]
theorem Zeh {o:OpD} (h:o.read=false):ZbX o=((idB o.key && decide (o.tx=0)) && decide (o.nth=0)):=by unfold ZbX;rw [Yb (by rw [h];decide)]
theorem Zm3 (v:ZcF):(ZrH v).2=if Zca v=true then 0 else 1:=by unfold ZrH;split <;> rfl
theorem ZrM (o:OpD):FnP prog 148 [.agg (rOp o)] (.agg (ZY (ofO o))):=by
 refine FnP.mk func148 Z ntmps148 Z fun B a w F V hfr O=>Ya ?_
 refine Zb O (qx 101 r1 (qf (oH [.int .i64 0,.int .i64 0,.int .i64 0] 102) trivial qz qZ)) V [2,1] [102,101,0] (fun _=>rfl) (fun _=>rfl) fun τ a w F O=>?_
 try dsimp only [RS.sub,SF.sub,CF.sub,csub,Anc.sub,List.map,zCF] at O
 generalize τ 1=v1,τ 2=v2 at O
 refine Za (Ya (Ya (rZ O (qg 0 101 r1 r1 (qa 101 r1 r1 (qf (Z1 .t) r1 qz qZ))) V [5,2,1] [102,101,0] fun O=>?_)))
 refine Zc O Z (fun hc0=>?_) (fun hc0=>?_)
 ·have hr:o.read=false:=by simpa using hc0
  refine Ya (rZ O (qf (oB [] [.int .i64 0,.int .i64 0,.int .i64 0] [(0,1),(1,1),(2,1)] .nil) trivial qz (qs 3 102 r2 r1 qZ)) V [2,1] [102,101,0] fun O=>(Yh (Zf ?_)))
  refine Z3 hfr O Z (.cl 102 true 3 Z Z .nil) (.one (.aggU Z (by unfold ofO;rw [hr];rfl)))
 have hr:o.read=true:=by simpa using hc0
 refine Yd (Za (Ya (rZ O (qg 2 101 r1 r1 (qa 101 r1 r1 (qg 1 101 r1 r1 (qa 101 r1 r1 (qg 3 101 r1 r1 (qa 101 r1 r1 (qf (oB [(0,.tmp 8),(1,.tmp 10),(2,.tmp 12)] [.int .i64 0,.int .i64 0,.int .i64 0] [(0,1),(1,1),(2,1)] (.one Z .t one_int kr (.one Z .t one_int kr (.one Z .t one_int kr .nil)))) r3 qz (qs 3 102 r2 r1 qZ)))))))) V [2] [102,101,0] fun O=>Yh ?_)))
 refine Z3 hfr O Z (.cl 102 true 3 Z Z .nil) (.one (.aggU Z (by unfold ofO;rw [hr];rfl)))
theorem Zpo (o:OpD):FnP prog 253 [.agg (rOp o)] (.agg (ZY (ofO o))):=by
 refine FnP.mk func253 Z ntmps253 Z fun B a w F V hfr O=>Ya ?_
 refine Zb O (qx 101 r1 (qf (oH [.int .i64 0,.int .i64 0,.int .i64 0] 102) trivial qz qZ)) V [2,1] [102,101,0] (fun _=>rfl) (fun _=>rfl) fun τ a w F O=>?_
 try dsimp only [RS.sub,SF.sub,CF.sub,csub,Anc.sub,List.map,zCF] at O
 generalize τ 1=v1,τ 2=v2 at O
 refine Za (Ya (Ya (rZ O (qg 0 101 r1 r1 (qa 101 r1 r1 (qf (Z1 .t) r1 qz qZ))) V [5,2,1] [102,101,0] fun O=>?_)))
 refine Zc O Z (fun hc0=>?_) (fun hc0=>?_)
 ·have hr:o.read=false:=by simpa using hc0
  refine Ya (rZ O (qf (oB [] [.int .i64 0,.int .i64 0,.int .i64 0] [(0,1),(1,1),(2,1)] .nil) trivial qz (qs 3 102 r2 r1 qZ)) V [2,1] [102,101,0] fun O=>(Yh (Zf ?_)))
  refine Z3 hfr O Z (.cl 102 true 3 Z Z .nil) (.one (.aggU Z (by unfold ofO;rw [hr];rfl)))
 have hr:o.read=true:=by simpa using hc0
 refine Yd (Za (Ya (rZ O (qg 2 101 r1 r1 (qa 101 r1 r1 (qg 1 101 r1 r1 (qa 101 r1 r1 (qg 3 101 r1 r1 (qa 101 r1 r1 (qf (oB [(0,.tmp 8),(1,.tmp 10),(2,.tmp 12)] [.int .i64 0,.int .i64 0,.int .i64 0] [(0,1),(1,1),(2,1)] (.one Z .t one_int kr (.one Z .t one_int kr (.one Z .t one_int kr .nil)))) r3 qz (qs 3 102 r2 r1 qZ)))))))) V [2] [102,101,0] fun O=>Yh ?_)))
 refine Z3 hfr O Z (.cl 102 true 3 Z Z .nil) (.one (.aggU Z (by unfold ofO;rw [hr];rfl)))
theorem Zo9 (o:OpD):FnP prog 149 [.agg (rOp o)] (.int .i64 (Zdt o)):=by
 refine FnP.mk func149 Z ntmps149 Z fun B a w F V hfr O=>Ya ?_
 refine Zb O (qx 101 r1 (qI qZ)) V [2,1] [101,0] (fun _=>rfl) (fun _=>rfl) fun τ a w F O=>?_
 try dsimp only [RS.sub,SF.sub,CF.sub,csub,Anc.sub,List.map,zCF] at O
 generalize τ 1=v1 at O
 refine Za (Ya (Ya (rZ O (qg 0 101 r1 r1 (qa 101 r1 r1 qZ)) V [6,2,1] [101,0] fun O=>?_)))
 refine Zc O Z (fun hc0=>?_) (fun hc0=>?_)
 ·have hg:(ZrH (ofO o)).2=Zdt o:=by rw [Zm3];unfold Zdt;rw [ZfK hc0]
  refine Ya (rZ O (qe 4 101 r1 r1 (qf (oP (ZrM o) func148 (Args.one (.pagg .t))) r1 qz (qf (oP (Zpt (ofO o)) func215 (Args.one .t)) r1 qz (qR rr (qf (o_extract .t Z) r1 qz (qf (o_extract .t Z) r1 qz (qO rr (qO rr qZ)))))))) V [4,2,1] [101,0] fun O=>Ya ?_)
  refine rZ O (qR rr (qO rr qZ)) V [2,1] [101,0] fun O=>(Yh (Zf ?_))
  refine ZB hfr O Z Z Z (.int hg)
 have hr:o.read=false:=hc0
 refine Yd (Za (Ya (Ya (rZ O (qe 4 101 r1 r1 (qg 1 101 r1 r1 (qa 101 r1 r1 (qf (oB [(1,.tmp 16)] [.bool false,.int .i64 0,.int .i64 0,.int .i64 0] [(0,1),(1,1),(2,1),(3,1)] (.one Z .t one_int kr .nil)) r1 qz (qf (Zp8 (ks:=[false,true,true,true]) kr .t .t (.bool (.int (.int (.int .nil))))) r2 qz (qR rr (qv 1 101 Z r2 r1 (qw 101 Z r2 r1 (qk Z (fun h=>ZaR (.w h) qi) r2 qz (qf (ZaM .t .t) r2 qz (qR rr (qv 1 101 Z r2 r1 (qw 101 Z r2 r1 (qk Z (fun h=>Zal (.w h) qi) r2 qz (qf (ZaM .t .t) r2 qz qZ))))))))))))))) V [28,2] [101,0] fun O=>?_))))
 refine Zc O Z (fun hc1=>?_) (fun hc1=>?_)
 ·have hg:(1:Int)=Zdt o:=by
    unfold Zdt
    rw [Yb]
    rw [Zeh hr]
    simp [hr,idB] at hc1 ⊢
    omega
  refine Ya (rZ O (qI qZ) V [2] [101,0] fun O=>(Yh (Zf ?_)))
  refine ZB hfr O Z Z Z (.int hg)
 have hg:(0:Int)=Zdt o:=by
   unfold Zdt
   rw [Yf]
   rw [Zeh hr]
   simp [hr,idB] at hc1 ⊢
   omega
 refine Yd (Za (Ya (rZ O (qI qZ) V [2] [101,0] fun O=>Yh ?_)))
 refine ZB hfr O Z Z Z (.int hg)
theorem ZkM (o:OpD):FnP prog 196 [.agg (rOp o)] (.bool (ZbX o)):=by
 refine FnP.mk func196 Z ntmps196 Z fun B a w F V hfr O=>Ya ?_
 refine Zb O (qx 101 r1 qB) V [2,1] [101,0] (fun _=>rfl) (fun _=>rfl) fun τ a w F O=>?_
 try dsimp only [RS.sub,SF.sub,CF.sub,csub,Anc.sub,List.map,zCF] at O
 generalize τ 1=v1 at O
 refine Za (Ya (Ya (rZ O (qg 0 101 r1 r1 (qa 101 r1 r1 qZ)) V [4,2,1] [101,0] fun O=>?_)))
 refine Zc O Z (fun hc0=>?_) (fun hc0=>?_)
 ·have hg:Zca (ofO o)=ZbX o:=(ZfK hc0).symm
  refine Ya (rZ O (qe 4 101 r1 r1 (qf (oP (Zpo o) func253 (Args.one (.pagg .t))) r1 qz (qf (oP (Zrp (ofO o)) func252 (Args.one .t)) r1 qz (qO rr qZ)))) V [2,1] [101,0] fun O=>(Yh (Zf ?_)))
  refine ZB hfr O Z Z Z (.bool hg)
 have hg:((idB o.key && decide (o.tx=0)) && decide (o.nth=0))=ZbX o:=(Zeh hc0).symm
 refine Yd (Za (Ya (rZ O (qg 1 101 r1 r1 (qa 101 r1 r1 (qf (oP (ZfE o.key) func195 (Args.one .t)) r1 qz (qR rr (qv 2 101 Z r2 r1 (qw 101 Z r2 r1 (qk Z (fun h=>o_eql (.w h) qi) r2 qz (qf (ZJ .t .t) r2 qz (qR rr (qv 3 101 Z r2 r1 (qw 101 Z r2 r1 (qk Z (fun h=>o_eql (.w h) qi) r2 qz (qf (ZJ .t .t) r2 qz (qO rr qZ)))))))))))))) V [2] [101,0] fun O=>Yh ?_)))
 refine ZB hfr O Z Z Z (.bool hg)
theorem Zsn (t : TxD) (hl : t.ops.length ≤ 1000000) (p : OpD → Bool) (f : FuncId) (fn : Func) (cps : List PV) (hf : prog.funcs[f]? = some fn) (hb : fn.body.isSome = true) (hnn : (fn.name == "runtime.NumGoroutine") = false) (hw : ∀ x, FnP prog f (.agg (rOp x) :: cps) (.bool (p x))) : FnP prog 144 [.agg (rTx t), .clos f cps] (.sl Zs (Zbu ((t.ops.filter p).map OpD.key))) := by
 refine FnP.mk func144 Z ntmps144 Z fun B a w F V hfr O=>Ya ?_
 refine Zb O (qx 101 r1 (qC qZ)) V [4,2,1] [101,0] (fun _=>rfl) (fun _=>rfl) fun τ a w F O=>?_
 try dsimp only [RS.sub,SF.sub,CF.sub,csub,Anc.sub,List.map,zCF,Zs,rOp,rTx] at O
 generalize τ 2=v2 at O
 refine Za (Ya (rZ O (qC qZ) V [5,4,2,1] [101,0] fun O=>(Ya (Ya ?_))))
 refine rZ O (qg 2 101 r1 r1 (qa 101 r1 r1 (qu YbR r1 (qJ qZ)))) V [11,10,9,5,4,1] [101,0] fun O=>Ye ?_
 replace O:=O.fresh 50 rfl
 replace O:=O.turn 50 Z (ZaC (T:=3) (sz:=1) (R:=Zs))
 refine Zk (σ:=(Nat)×(Value)×(List Int)) [1,4,9,10] [0,101] (fun s=>[(11,.pv (.int .i64 (s.1:Int))),(5,.pv (.is s.2.1))]) (fun s=>[(50,.ob (.val s.2.1) (ZO 3 1 Zs s.2.2))]) (fun s=>s.1≤t.ops.length∧(s.2.2=(((t.ops.take s.1).filter p).map OpD.key))) (fun s=>t.ops.length - s.1) ((0),(.slice none 0 0),([])) O ⟨rfl,rfl,rfl,rfl,rfl,rfl,tv⟩ ⟨rfl,rfl,rfl,tv⟩ ⟨Yt _,rfl⟩ ?_
 clear O;intro s a w F hC O
 obtain ⟨i,v,out⟩:=s
 try dsimp only at hC
 obtain ⟨F,O⟩:=O.nM [11,10,9,5,4,1] [101,50,0]
 try dsimp only at O
 obtain ⟨hi,hq⟩:=hC
 have hol:out.length≤i:=by rw [hq,YP];exact YW (YR _ _) (by rw [Yk];omega)
 refine Ya (rZ O (qL r2) V [12,11,10,9,5,4,1] [101,50,0] fun O=>Ya ?_)
 refine Zc O Z (fun hc0=>?_) (fun hc0=>?_)
 ·skip
  have hil:i<t.ops.length:=by simp at hc0;omega
  refine Yd (Za (Ya (Ye (Ya (Zb O (qy 4 YbR r2 (qf (oR true 4 .t) r1 qz (qf (oH [.bool false,.int .i64 0,.int .i64 0,.int .i64 0] 102) trivial qz (qS 4 102 r2 r1 qZ)))) V [11,10,9,7,5,4,1] [102,101,50,0] (fun _=>rfl) (fun _=>rfl) fun τ a w F O=>?_)))))
  try dsimp only [RS.sub,SF.sub,CF.sub,csub,Anc.sub,List.map,Zd,xL,xM,Nat.reduceAdd,xD,xE,xT,xU,xC,xN,zCF,ldSF,Zs,rOp,rTx] at O
  generalize τ 7=v7 at O
  try simp only [Yg] at O
  refine Za (Ya (rZ O (qR rr (qe 4 102 r1 r1 (qf (o_callClosP (avs:=[.agg (rOp (Nn t.ops i))]) .t (hw (Nn t.ops i)) hf hb hnn (Args.one (.pagg .t))) r2 qz qZ))) V [17,11,10,9,7,5,4,1] [102,101,50,0] fun O=>?_))
  refine Zc O Z (fun hc1=>?_) (fun hc1=>?_)
  ·skip
   have hBq:p (Nn t.ops i)=true:=by simpa using hc1
   refine Zb O (qR rr (qg 1 102 r1 r1 (qa 102 r1 r1 (qf (Zn (sz:=1) (zs:=[.int .i64 0]) (r:=[(0,.tmp 20)]) (l:=[_]) YbO kr kr kr kr Z Z (.one Z .t one_int kr .nil) Z) r1 qz (qf (o_append (sz:=1) (bs:=8) 50 (.mk' YbO kr kr) (by intro x;rfl) .is (.arr (l':=[(Nn t.ops i).key]) .t) (by simp only [Yc,Yl,Yq,Yk,YK];omega) (by decide)) ⟨rfl,rfl,tv⟩ ⟨rfl,tv⟩ (qO rr qZ)))))) V [11,10,9,5,4,1] [102,101,50,0] (fun _=>rfl) (fun _=>rfl) fun τ a w F O=>?_
   try dsimp only [RS.sub,SF.sub,CF.sub,csub,Anc.sub,List.map,Zd,xL,xM,Nat.reduceAdd,xD,xE,xT,xU,xC,xN,zCF,ldSF,Zs,rOp,rTx] at O
   generalize τ 22=v22 at O
   refine Zi (Za (rZ O (qp r1 (qR rr qZ)) V [11,10,9,5,4,1] [102,101,50,0] fun O=>?_))
   replace O:=O.ent (i:=11) (s':=.pv (.int .i64 ((i+1:Nat):Int))) Z (.int (Ze ow))
   obtain ⟨F,O⟩:=O.nM [10,9,4,1,5,11] [101,0,50]
   exact ⟨((i+1),_,_),F,⟨by omega,(by rw [ZQ hil,Y3,YZ,← hq];simp [hBq])⟩,O,by omega⟩
  have hBq:p (Nn t.ops i)=false:=by simpa using hc1
  refine Yd (Zi (Za (rZ O (qp r1 (qR rr qZ)) V [11,10,9,5,4,1] [102,101,50,0] fun O=>?_)))
  replace O:=O.ent (i:=11) (s':=.pv (.int .i64 ((i+1:Nat):Int))) Z (.int (Ze ow))
  obtain ⟨F,O⟩:=O.nM [10,9,4,1,5,11] [101,0,50]
  exact ⟨((i+1),_,_),F,⟨by omega,(by rw [ZQ hil,Y3,YZ,← hq];simp [hBq])⟩,O,by omega⟩
 have hil:i=t.ops.length:=by simp at hc0;omega
 refine Ym (Zg (Zg (Zo (Za (Ya (rZ O (qR rr (qf (ZW 50 (Zmq _ out ow) func92 Z kr (Args.one .t)) r1 r1 qZ)) V [5,4] [101,50,0] fun O=>Ya ?_))))))
 refine Zb O (qR rr (qf (Znw 50 (ZsC _ _ (by rw [List.length_mergeSort];omega)) func212 Z kr (Args.one .t) Zf1) r1 r1 (qO rr qZ))) V [4] [101,50,0] (fun _=>rfl) (fun _=>rfl) fun τ a w F O=>?_
 try dsimp only [RS.sub,SF.sub,CF.sub,csub,Anc.sub,List.map,Zs,rOp,rTx] at O
 generalize τ 27=v27 at O
 refine Za (Yh ?_)
 obtain ⟨F,O⟩:=O.give 50 4 Z rfl
 refine ZB hfr O Z Z Z (.sl (by rw [Zh5,Zld,hq,hil,YE]))
theorem ZeP (l:List Int):(Zbu l).length≤l.length:=by
 have key:∀ (l acc:List Int),(l.foldl Zdi acc).length≤acc.length+l.length:=fun l=>by
  induction l with
  | nil=>intro acc;simp
  | cons x l ih=>
   intro acc
   have h1:=ih (Zdi acc x)
   have h2:(Zdi acc x).length≤acc.length+1:=ZeS acc false
   rw [Yaw,Yl];omega
 have:=key l []
 simpa [Zbu] using this
theorem Zo3 (t:TxD) (all:Bool) (hl:t.ops.length≤1000000):FnP prog 201 [.agg (rTx t),.bool all] (.sl Zs (Zbu ((t.ops.filter fun o=>all || !o.read).map OpD.key))):=by
 refine FnP.mk func201 Z ntmps201 Z fun B a w F V hfr O=>Ya ?_
 refine Zb O (qx 101 r1 (qC qZ)) V [4,2,1] [101,0] (fun _=>rfl) (fun _=>rfl) fun τ a w F O=>?_
 try dsimp only [RS.sub,SF.sub,CF.sub,csub,Anc.sub,List.map,zCF,Zs,rOp,rTx] at O
 generalize τ 2=v2 at O
 refine Za (Ya (rZ O (qC qZ) V [5,4,2,1] [101,0] fun O=>(Ya (Ya ?_))))
 refine rZ O (qg 2 101 r1 r1 (qa 101 r1 r1 (qu YbR r1 (qJ qZ)))) V [11,10,9,5,4,1] [0] fun O=>Ye ?_
 replace O:=O.ent (i:=5) (s':=.pv (.sl Zs [])) Z (.nilSl)
 refine Zk (σ:=(Nat)) [1,4,9,10] [0] (fun s=>[(11,.pv (.int .i64 (s:Int))),(5,.pv (.sl Zs (Zbu (((t.ops.take s).filter fun o=>all || !o.read).map OpD.key))))]) (fun s=>[]) (fun s=>s≤t.ops.length∧(True)) (fun s=>t.ops.length - s) (0) O ⟨rfl,rfl,rfl,rfl,rfl,rfl,tv⟩ ⟨rfl,tv⟩ ⟨Yt _,tv⟩ ?_
 clear O;intro i a w F hC O
 try dsimp only at hC
 obtain ⟨F,O⟩:=O.nM [11,10,9,5,4,1] [0]
 try dsimp only at O
 obtain ⟨hi,hq⟩:=hC
 have hol:(Zbu (((t.ops.take i).filter fun o=>all || !o.read).map OpD.key)).length≤i:=by
   refine YW (ZeP _) ?_
   rw [YP];exact YW (YR _ _) (by rw [Yk];omega)
 refine Ya (rZ O (qL r2) V [12,11,10,9,5,4,1] [0] fun O=>Ya ?_)
 refine Zc O Z (fun hc0=>?_) (fun hc0=>?_)
 ·have hil:i<t.ops.length:=by simp at hc0;omega
  refine Yd (Za (Ya (Ye (Ya (Zb O (qy 4 YbR r2 (qf (oR true 4 .t) r1 qz (qf (oH [.bool false,.int .i64 0,.int .i64 0,.int .i64 0] 102) trivial qz (qS 4 102 r2 r1 qZ)))) V [11,10,9,7,5,4,1] [102,0] (fun _=>rfl) (fun _=>rfl) fun τ a w F O=>?_)))))
  try dsimp only [RS.sub,SF.sub,CF.sub,csub,Anc.sub,List.map,Zd,xL,xM,Nat.reduceAdd,xD,xE,xT,xU,xC,xN,zCF,ldSF,Zs,rOp,rTx] at O
  generalize τ 7=v7 at O
  try simp only [Yg] at O
  refine Za (Ya (rZ O (qR rr (qR rr (qv 0 102 Z r2 r1 (qw 102 Z r2 r1 (qk Z (fun h=>Z1 (.w h)) r2 qz (qf (ZaM .t .t) r2 qz qZ)))))) V [20,11,10,9,7,5,4,1] [102,0] fun O=>?_))
  refine Zc O Z (fun hc1=>?_) (fun hc1=>?_)
  ·have hBq:(all || !(Nn t.ops i).read)=true:=by simpa using hc1
   refine Zh O (qR rr (qg 1 102 r1 r1 (qa 102 r1 r1 (qf (oP (Zp2 _ (Nn t.ops i).key ow) func255 (Args.two .t .t)) r2 qz (qO rr qZ))))) V [11,10,9,5,4,1] [0] Z Z fun a w F O=>Zi (Za ?_)
   refine rZ O (qp r1 (qR rr qZ)) V [11,10,9,5,4,1] [0] fun O=>?_
   replace O:=O.ent (i:=11) (s':=.pv (.int .i64 ((i+1:Nat):Int))) Z (.int (Ze ow))
   replace O:=O.ent (i:=5) (s':=.pv (.sl Zs (Zbu (((t.ops.take (i+1)).filter fun o=>all || !o.read).map OpD.key)))) Z ((.sl (by rw [ZQ hil,Y3,YZ];simp [hBq,Zbu])))
   obtain ⟨F,O⟩:=O.nM [10,9,4,1,5,11] [0]
   exact ⟨(i+1),F,⟨by omega,tv⟩,O,by omega⟩
  have hBq:(all || !(Nn t.ops i).read)=false:=by simpa using hc1
  refine Yd (Zi (Za (rZ O (qp r1 (qR rr qZ)) V [11,10,9,5,4,1] [0] fun O=>?_)))
  replace O:=O.ent (i:=11) (s':=.pv (.int .i64 ((i+1:Nat):Int))) Z (.int (Ze ow))
  replace O:=O.ent (i:=5) (s':=.pv (.sl Zs (Zbu (((t.ops.take (i+1)).filter fun o=>all || !o.read).map OpD.key)))) Z ((.sl (by rw [ZQ hil,Y3,YZ];simp [hBq,Zbu])))
  obtain ⟨F,O⟩:=O.nM [10,9,4,1,5,11] [0]
  exact ⟨(i+1),F,⟨by omega,tv⟩,O,by omega⟩
 have hil:i=t.ops.length:=by simp at hc0;omega
 refine Ym (Zg (Zg (Zo (Za (Ya (rZ O (qR rr (qO rr qZ)) V [4] [0] fun O=>Yh ?_))))))
 refine ZB hfr O Z Z Z (.sl (by rw [hil,YE]))
theorem Ent.fnClos {f:FuncId} : Ent (.pv (.is (.func (.func f) #[] #[]))) (.pv (.clos f [])):=fun τ w y v h=>⟨[],h.1,tv⟩
theorem ZsN (o:OpD):FnP prog 145 [.agg (rOp o)] (.bool (!o.read)):=by
 refine FnP.mk func145 Z ntmps145 Z fun B a w F V hfr O=>Ya ?_
 refine Zb O (qx 101 r1 qB) V [2,1] [101,0] (fun _=>rfl) (fun _=>rfl) fun τ a w F O=>?_
 try dsimp only [RS.sub,SF.sub,CF.sub,csub,Anc.sub,List.map,zCF,rOp] at O
 generalize τ 1=v1 at O
 refine Za (Ya (rZ O (qg 0 101 r1 r1 (qa 101 r1 r1 (qf (Z1 .t) r1 qz (qO rr qZ)))) V [2] [0] fun O=>Yh ?_))
 refine ZB hfr O Z Z Z (.bool Z)
theorem Zsi (t:TxD) (hl:t.ops.length≤1000000):FnP prog 82 [.agg (rTx t)] (.sl Zs (Zbu ((t.ops.filter fun o=>!o.read).map OpD.key))):=by
 refine FnP.mk func82 Z ntmps82 Z fun B a w F V hfr O=>Ya ?_
 refine Zb O (qx 101 r1 (qC qZ)) V [2,1] [101,0] (fun _=>rfl) (fun _=>rfl) fun τ a w F O=>?_
 try dsimp only [RS.sub,SF.sub,CF.sub,csub,Anc.sub,List.map,zCF,rTx,Zs] at O
 generalize τ 1=v1 at O
 refine Za (Ya (rZ O (qe 3 101 r1 r1 (qf (oP (Zsn t hl (fun o=>!o.read) 145 f145 [] func145 Z kr (fun o=>ZsN o)) func144 (Args.two (.pagg .t) (.conv .f (Ent.fnClos)))) r1 qz (qO rr qZ))) V [2] [0] fun O=>Yh ?_))
 refine ZB hfr O Z Z Z (.sl Z)
theorem Zn2 (t:TxD) (n:Int) (hl:t.ops.length≤1000000):FnP prog 87 [.agg (rTx t),.int .i64 n] (.int .i64 (((t.ops.filter fun o=>!o.read && decide (o.key=n)).length:Nat):Int)):=by
 refine FnP.mk func87 Z ntmps87 Z fun B a w F V hfr O=>?_
 have hll:t.ops.length≤1000000:=hl
 refine Ya (Zb O (qx 101 r1 (qI qZ)) V [4,2,1] [101,0] (fun _=>rfl) (fun _=>rfl) fun τ a w F O=>?_)
 try dsimp only [RS.sub,SF.sub,CF.sub,csub,Anc.sub,List.map,zCF,Zs,rOp,rTx] at O
 generalize τ 2=v2 at O
 refine Za (Ya (rZ O (qI qZ) V [5,4,2,1] [101,0] fun O=>(Ya (Ya ?_))))
 refine rZ O (qg 2 101 r1 r1 (qa 101 r1 r1 (qu YbR r1 (qJ qZ)))) V [11,10,9,5,4,1] [0] fun O=>Ye ?_
 refine Zk (σ:=(Nat)) [1,4,9,10] [0] (fun s=>[(11,.pv (.int .i64 (s:Int))),(5,.pv (.int .i64 ((((t.ops.take s).filter fun o=>!o.read && decide (o.key=n)).length:Nat):Int)))]) (fun s=>[]) (fun s=>s≤t.ops.length∧(True)) (fun s=>t.ops.length - s) (0) O ⟨rfl,rfl,rfl,rfl,rfl,rfl,tv⟩ ⟨rfl,tv⟩ ⟨Yt _,tv⟩ ?_
 clear O;intro i a w F hC O
 try dsimp only at hC
 obtain ⟨F,O⟩:=O.nM [11,10,9,5,4,1] [0]
 try dsimp only at O
 obtain ⟨hi,hq⟩:=hC
 refine Ya (rZ O (qL r2) V [12,11,10,9,5,4,1] [0] fun O=>Ya ?_)
 refine Zc O Z (fun hc0=>?_) (fun hc0=>?_)
 ·have hil:i<t.ops.length:=by simp at hc0;omega
  refine Yd (Za (Ya (Ye (Ya (Zb O (qy 4 YbR r2 (qf (oR true 4 .t) r1 qz (qf (oH [.bool false,.int .i64 0,.int .i64 0,.int .i64 0] 102) trivial qz (qS 4 102 r2 r1 qZ)))) V [11,10,9,7,5,4,1] [102,0] (fun _=>rfl) (fun _=>rfl) fun τ a w F O=>?_)))))
  try dsimp only [RS.sub,SF.sub,CF.sub,csub,Anc.sub,List.map,Zd,xL,xM,Nat.reduceAdd,xD,xE,xT,xU,xC,xN,zCF,ldSF,Zs,rOp,rTx] at O
  generalize τ 7=v7 at O
  try simp only [Yg] at O
  refine Za (Ya (rZ O (qg 0 102 r1 r1 (qa 102 r1 r1 (qf (Z1 .t) r1 qz (qR rr (qv 1 102 Z r2 r1 (qw 102 Z r2 r1 (qm Z Z Z Z (qk Z (fun h=>o_eql (.w h) (.w h)) r3 qz (qf (ZJ .t .t) r2 qz qZ))))))))) V [23,11,10,9,5,4,1] [0] fun O=>?_))
  refine Zc O Z (fun hc1=>?_) (fun hc1=>?_)
  ·have hstp:((t.ops.take (i+1)).filter fun o=>!o.read && decide (o.key=n))=((t.ops.take i).filter fun o=>!o.read && decide (o.key=n))++(if (!(Nn t.ops i).read && decide ((Nn t.ops i).key=n))=true then [(Nn t.ops i)] else []):=by rw [ZQ hil,Y3];simp only [Yax,YbE]
   have hle:((t.ops.take i).filter fun o=>!o.read && decide (o.key=n)).length≤i:=YW (YR _ _) (by rw [Yk];omega)
   have hBq:(!(Nn t.ops i).read && decide ((Nn t.ops i).key=n))=true:=hc1
   have hcc:IntKind.wrap .i64 (((((t.ops.take i).filter fun o=>!o.read && decide (o.key=n)).length:Nat):Int)+1)=((((t.ops.take (i+1)).filter fun o=>!o.read && decide (o.key=n)).length:Nat):Int):=by rw [hstp,Yf hBq,Yc,Zj ow];simp
   refine Zh O (qR rr (qp r1 (qO rr qZ))) V [11,10,9,5,4,1] [0] Z Z fun a w F O=>Zi (Za ?_)
   refine rZ O (qp r1 (qR rr qZ)) V [11,10,9,5,4,1] [0] fun O=>?_
   replace O:=O.ent (i:=11) (s':=.pv (.int .i64 ((i+1:Nat):Int))) Z (.int (Ze ow))
   replace O:=O.ent (i:=5) (s':=.pv (.int .i64 ((((t.ops.take (i+1)).filter fun o=>!o.read && decide (o.key=n)).length:Nat):Int))) Z (.int hcc)
   obtain ⟨F,O⟩:=O.nM [10,9,4,1,5,11] [0]
   exact ⟨(i+1),F,⟨by omega,tv⟩,O,by omega⟩
  have hstp:((t.ops.take (i+1)).filter fun o=>!o.read && decide (o.key=n))=((t.ops.take i).filter fun o=>!o.read && decide (o.key=n))++(if (!(Nn t.ops i).read && decide ((Nn t.ops i).key=n))=true then [(Nn t.ops i)] else []):=by rw [ZQ hil,Y3];simp only [Yax,YbE]
  have hle:((t.ops.take i).filter fun o=>!o.read && decide (o.key=n)).length≤i:=YW (YR _ _) (by rw [Yk];omega)
  have hBq:(!(Nn t.ops i).read && decide ((Nn t.ops i).key=n))=false:=hc1
  have hcc:((((t.ops.take i).filter fun o=>!o.read && decide (o.key=n)).length:Nat):Int)=((((t.ops.take (i+1)).filter fun o=>!o.read && decide (o.key=n)).length:Nat):Int):=by rw [hstp,Yb (by rw [hBq];simp),YF]
  refine Yd (Zi (Za (rZ O (qp r1 (qR rr qZ)) V [11,10,9,5,4,1] [0] fun O=>?_)))
  replace O:=O.ent (i:=11) (s':=.pv (.int .i64 ((i+1:Nat):Int))) Z (.int (Ze ow))
  replace O:=O.ent (i:=5) (s':=.pv (.int .i64 ((((t.ops.take (i+1)).filter fun o=>!o.read && decide (o.key=n)).length:Nat):Int))) Z (.int hcc)
  obtain ⟨F,O⟩:=O.nM [10,9,4,1,5,11] [0]
  exact ⟨(i+1),F,⟨by omega,tv⟩,O,by omega⟩
 have hil:i=t.ops.length:=by simp at hc0;omega
 refine Ym (Zg (Zg (Zo (Za (Ya (rZ O (qR rr (qO rr qZ)) V [4] [0] fun O=>Yh ?_))))))
 refine ZB hfr O Z Z Z (.int (by rw [hil,YE]))
theorem Zdp (l:List OpD) (n:Int) (hl:l.length≤1000000):FnP prog 197 [.sl rOp l,.int .i64 n] (.int .i64 (((l.filter fun o=>!o.read && decide (o.key=n)).length:Nat):Int)):=by
 refine FnP.mk func197 Z ntmps197 Z fun B a w F V hfr O=>?_
 have hll:l.length≤1000000:=hl
 refine Ya (rZ O (qI qZ) V [4,1,0] [0] fun O=>Ya ?_)
 refine rZ O (qI qZ) V [5,4,1,0] [0] fun O=>(Ya (Ya ?_))
 refine rZ O (qR rr (qu YbR r1 (qJ qZ))) V [10,9,8,5,4,1] [0] fun O=>Ye ?_
 refine Zk (σ:=(Nat)) [1,4,8,9] [0] (fun s=>[(10,.pv (.int .i64 (s:Int))),(5,.pv (.int .i64 ((((l.take s).filter fun o=>!o.read && decide (o.key=n)).length:Nat):Int)))]) (fun s=>[]) (fun s=>s≤l.length∧(True)) (fun s=>l.length - s) (0) O ⟨rfl,rfl,rfl,rfl,rfl,rfl,tv⟩ ⟨rfl,tv⟩ ⟨Yt _,tv⟩ ?_
 clear O;intro i a w F hC O
 try dsimp only at hC
 obtain ⟨F,O⟩:=O.nM [10,9,8,5,4,1] [0]
 try dsimp only at O
 obtain ⟨hi,hq⟩:=hC
 refine Ya (rZ O (qL r2) V [11,10,9,8,5,4,1] [0] fun O=>Ya ?_)
 refine Zc O Z (fun hc0=>?_) (fun hc0=>?_)
 ·have hil:i<l.length:=by simp at hc0;omega
  refine Yd (Za (Ya (Ye (Ya (Zb O (qy 4 YbR r2 (qf (oR true 4 .t) r1 qz (qf (oH [.bool false,.int .i64 0,.int .i64 0,.int .i64 0] 101) trivial qz (qS 4 101 r2 r1 qZ)))) V [10,9,8,7,5,4,1] [101,0] (fun _=>rfl) (fun _=>rfl) fun τ a w F O=>?_)))))
  try dsimp only [RS.sub,SF.sub,CF.sub,csub,Anc.sub,List.map,Zd,xL,xM,Nat.reduceAdd,xD,xE,xT,xU,xC,xN,zCF,ldSF,Zs,rOp,rTx] at O
  generalize τ 7=v7 at O
  try simp only [Yg] at O
  refine Za (Ya (rZ O (qg 0 101 r1 r1 (qa 101 r1 r1 (qf (Z1 .t) r1 qz (qR rr (qv 1 101 Z r2 r1 (qw 101 Z r2 r1 (qm Z Z Z Z (qk Z (fun h=>o_eql (.w h) (.w h)) r3 qz (qf (ZJ .t .t) r2 qz qZ))))))))) V [22,10,9,8,5,4,1] [0] fun O=>?_))
  refine Zc O Z (fun hc1=>?_) (fun hc1=>?_)
  ·have hstp:((l.take (i+1)).filter fun o=>!o.read && decide (o.key=n))=((l.take i).filter fun o=>!o.read && decide (o.key=n))++(if (!(Nn l i).read && decide ((Nn l i).key=n))=true then [(Nn l i)] else []):=by rw [ZQ hil,Y3];simp only [Yax,YbE]
   have hle:((l.take i).filter fun o=>!o.read && decide (o.key=n)).length≤i:=YW (YR _ _) (by rw [Yk];omega)
   have hBq:(!(Nn l i).read && decide ((Nn l i).key=n))=true:=hc1
   have hcc:IntKind.wrap .i64 (((((l.take i).filter fun o=>!o.read && decide (o.key=n)).length:Nat):Int)+1)=((((l.take (i+1)).filter fun o=>!o.read && decide (o.key=n)).length:Nat):Int):=by rw [hstp,Yf hBq,Yc,Zj ow];simp
   refine Zh O (qR rr (qp r1 (qO rr qZ))) V [10,9,8,5,4,1] [0] Z Z fun a w F O=>Zi (Za ?_)
   refine rZ O (qp r1 (qR rr qZ)) V [10,9,8,5,4,1] [0] fun O=>?_
   replace O:=O.ent (i:=10) (s':=.pv (.int .i64 ((i+1:Nat):Int))) Z (.int (Ze ow))
   replace O:=O.ent (i:=5) (s':=.pv (.int .i64 ((((l.take (i+1)).filter fun o=>!o.read && decide (o.key=n)).length:Nat):Int))) Z (.int hcc)
   obtain ⟨F,O⟩:=O.nM [9,8,4,1,5,10] [0]
   exact ⟨(i+1),F,⟨by omega,tv⟩,O,by omega⟩
  have hstp:((l.take (i+1)).filter fun o=>!o.read && decide (o.key=n))=((l.take i).filter fun o=>!o.read && decide (o.key=n))++(if (!(Nn l i).read && decide ((Nn l i).key=n))=true then [(Nn l i)] else []):=by rw [ZQ hil,Y3];simp only [Yax,YbE]
  have hle:((l.take i).filter fun o=>!o.read && decide (o.key=n)).length≤i:=YW (YR _ _) (by rw [Yk];omega)
  have hBq:(!(Nn l i).read && decide ((Nn l i).key=n))=false:=hc1
  have hcc:((((l.take i).filter fun o=>!o.read && decide (o.key=n)).length:Nat):Int)=((((l.take (i+1)).filter fun o=>!o.read && decide (o.key=n)).length:Nat):Int):=by rw [hstp,Yb (by rw [hBq];simp),YF]
  refine Yd (Zi (Za (rZ O (qp r1 (qR rr qZ)) V [10,9,8,5,4,1] [0] fun O=>?_)))
  replace O:=O.ent (i:=10) (s':=.pv (.int .i64 ((i+1:Nat):Int))) Z (.int (Ze ow))
  replace O:=O.ent (i:=5) (s':=.pv (.int .i64 ((((l.take (i+1)).filter fun o=>!o.read && decide (o.key=n)).length:Nat):Int))) Z (.int hcc)
  obtain ⟨F,O⟩:=O.nM [9,8,4,1,5,10] [0]
  exact ⟨(i+1),F,⟨by omega,tv⟩,O,by omega⟩
 have hil:i=l.length:=by simp at hc0;omega
 refine Ym (Zg (Zg (Zo (Za (Ya (rZ O (qR rr (qO rr qZ)) V [4] [0] fun O=>Yh ?_))))))
 refine ZB hfr O Z Z Z (.int (by rw [hil,YE]))
def wcnt (l:List OpD) (k:Int):Nat:=(l.filter fun o=>!o.read && decide (o.key=k)).length
theorem ZkD {l:List OpD} {i:Nat} (h:i<l.length) (k:Int):wcnt (l.take (i+1)) k=wcnt (l.take i) k+if (Nn l i).read=false∧(Nn l i).key=k then 1 else 0:=by
 unfold wcnt
 rw [ZQ h,Y3,Yc]
 congr 1
 by_cases h1:(Nn l i).read=false∧(Nn l i).key=k
 ·rw [Yf h1];simp [h1.1,h1.2]
 ·rw [Yb h1]
  have:(!(Nn l i).read && decide ((Nn l i).key=k))=false:=by
   cases hr:(Nn l i).read with
   | true=>rfl
   | false=>simp;exact fun e=>h1 ⟨hr,e⟩
  simp [this]
theorem Zr6 (l:List OpD) (i:Nat) (k:Int):wcnt (l.take i) k≤i:=YW (YR _ _) (by rw [Yk];omega)
def Za9 (id:Int):List OpD→List OpD→Int
 | _,[]=>0
 | s,o :: r=>if ZbX o=false then 1 else if o.read=true∧o.tx=id∧(wcnt s o.key:Int)<o.nth then 6 else Za9 id (s ++ [o]) r
def Zaf (t:TxD):Int:=if ¬ (1≤t.id∧t.id≤1048575) then 1 else if 4095<t.ops.length then 9 else Za9 t.id [] t.ops
theorem ZbL {id:Int} {l:List OpD} {i:Nat} (h:i<l.length):Za9 id (l.take i) (l.drop i)=if ZbX (Nn l i)=false then 1 else if (Nn l i).read=true∧(Nn l i).tx=id∧(wcnt (l.take i) (Nn l i).key:Int)<(Nn l i).nth then 6 else Za9 id (l.take (i+1)) (l.drop (i+1)):=by
 rw [ZaX h,Za9,ZQ h]
theorem ZgS {id:Int} {l:List OpD} {i:Nat} (h:i=l.length):Za9 id (l.take i) (l.drop i)=0:=by rw [h,Yba];rfl
def ZhQ (id:Int) (o:OpD):Bool:=(o.read && !decide (o.tx=0)) && !decide (o.tx=id)
def Za8 (id:Int) (out:List ZcF) (o:OpD):List ZcF:=if ZhQ id o=true∧ofO o ∉ out then out ++ [ofO o] else out
def Zc0 (id:Int) (l:List OpD):List ZcF:=l.foldl (Za8 id) []
def ZaB (t:TxD):List ZcF:=Zc0 t.id t.ops
theorem ZgZ {id:Int} {l:List OpD} {i:Nat} (h:i<l.length):Zc0 id (l.take (i+1))=Za8 id (Zc0 id (l.take i)) (Nn l i):=by
 unfold Zc0
 rw [ZQ h,YaO]
 rfl
theorem ZjA (id:Int) (out:List ZcF) (o:OpD):(Za8 id out o).length≤out.length+1:=by
 unfold Za8
 split <;> simp
theorem ZdU (id:Int) (l:List OpD) (i:Nat):(Zc0 id (l.take i)).length≤i:=by
 have key:∀ (l:List OpD) (out:List ZcF),(l.foldl (Za8 id) out).length≤out.length+l.length:=by
  intro l
  induction l with
  | nil=>intro out;simp
  | cons x l ih=>
   intro out
   have h1:=ih (Za8 id out x)
   have h2:=ZjA id out x
   rw [Yaw,Yl];omega
 have:=key (l.take i) []
 rw [Yk] at this
 unfold Zc0
 simp at this ⊢
 omega
structure ZbW where
 key:Int
 nth:Int
 deriving DecidableEq,Inhabited
def Zb5 (p:ZbW):List Int:=[p.key,p.nth]
def Zee (v:ZcF):List Int:=[v.tx,v.key,v.nth]
def Zc6 (es:List (GE ZbW Int)) (s:List OpD):Prop:=∀ k n,0≤n→(gGet (⟨k,n⟩:ZbW) es).getD 0=if n=0 then (wcnt s k:Int) else if n≤wcnt s k then 1 else 0
theorem ZpD:Zc6 [] []:=fun k n h=>by
 show (0:Int)=_
 have:wcnt [] k=0:=rfl
 rw [this]
 split
 ·rfl
 ·rw [Yb (by simp;omega)]
theorem Zpu {es:List (GE ZbW Int)} {l:List OpD} {i:Nat} (h:Zc6 es (l.take i)) (hi:i<l.length) (hr:(Nn l i).read=true):Zc6 es (l.take (i+1)):=fun k n hn=>by
 rw [h k n hn,ZkD hi,Yb (c:=(Nn l i).read=false∧(Nn l i).key=k) (by simp [hr]),Ybq]
theorem Zor {es es2:List (GE ZbW Int)} {l:List OpD} {i:Nat} {c:Int} (h:Zc6 es (l.take i)) (hi:i<l.length) (hr:(Nn l i).read=false) (hc:c=(wcnt (l.take i) (Nn l i).key:Int)+1)
  (he:∀ p,(gGet p es2).getD 0=if p = ⟨(Nn l i).key,c⟩ then 1 else if p = ⟨(Nn l i).key,0⟩ then c else (gGet p es).getD 0):Zc6 es2 (l.take (i+1)):=fun k n hn=>by
 have hk:=h k n hn
 rw [he,hk,ZkD hi]
 by_cases e:(Nn l i).key=k
 ·rw [Yf (c:=(Nn l i).read=false∧_) ⟨hr,e⟩]
  rw [e] at hc
  rw [e]
  by_cases e2:n=c
  ·subst e2
   rw [Yf rfl,Yb ow,Yf ow]
  ·rw [Yb (by simp [e2])]
   by_cases e3:n=0
   ·subst e3
    rw [Yf rfl,Yf rfl,hc];simp
   ·rw [Yb (by simp [e3]),Yb e3,Yb e3]
    by_cases e4:n≤(wcnt (l.take i) k:Int)
    ·rw [Yf e4,Yf ow]
    ·rw [Yb e4,Yb ow]
 ·rw [Yb (c:=(Nn l i).read=false∧_) (by simp [e]),Ybq,Yb (by simp;exact fun h=>absurd h.symm e),Yb (by simp;exact fun h=>absurd h.symm e)]
def ZeQ (es:List (GE ZcF Int)) (i:Nat) (out:List ZcF):Prop:=∀ v,0≤(gGet v es).getD 0∧(gGet v es).getD 0≤i∧(0<(gGet v es).getD 0 ↔ v ∈ out)
theorem Zq0:ZeQ [] 0 []:=fun v=>⟨Yar _,Yar _,by show (0:Int)<0 ↔ _;simp⟩
theorem Zql {es:List (GE ZcF Int)} {i:Nat} {out:List ZcF} (h:ZeQ es i out):ZeQ es (i+1) out:=fun v=>⟨(h v).1,by have:=(h v).2.1;omega,(h v).2.2⟩
theorem ZqD {es es2:List (GE ZcF Int)} {i:Nat} {out:List ZcF} {v:ZcF} (h:ZeQ es i out) (he:∀ u,(gGet u es2).getD 0=if u=v then (gGet v es).getD 0+1 else (gGet u es).getD 0):ZeQ es2 (i+1) (if v ∈ out then out else out ++ [v]):=fun u=>by
 have h1:=h u
 have h2:=h v
 rw [he u]
 by_cases e:u=v
 ·subst e
  rw [Yf rfl]
  refine ⟨by omega,by omega,?_⟩
  constructor
  ·intro _;split <;> simp_all
  ·intro _;omega
 ·rw [Yb e]
  refine ⟨by omega,by omega,?_⟩
  rw [h1.2.2]
  split
  ·rfl
  ·simp [e]
theorem Zip {κ:Type} [DecidableEq κ] {k p:κ} {x:Int} (s:List (GE κ Int)×Nat):(gGet p (gSet k x (gEns 0 k s).1)).getD 0=if p=k then x else (gGet p s.1).getD 0:=by
 rw [ZnO];split <;> rfl
theorem Zqh {κ:Type} [DecidableEq κ] {k p:κ} {x:Int} (s:List (GE κ Int)×Nat):(gGet p (gPut k x s).1).getD 0=if p=k then x else (gGet p s.1).getD 0:=by
 rw [ZeC];split <;> rfl
theorem Zg5:ZnU prog 215 (fun k=>∀ x ∈ Zb5 k,inR .i64 x) (kvS Zb5):=ZgA (n:=2) (fun _=>rfl) (fun a b h=>by cases a;cases b;simpa [Zb5] using h) kr
theorem Zpe:ZnU prog 146 (fun k=>∀ x ∈ Zee k,inR .i64 x) (kvS Zee):=ZgA (n:=3) (fun _=>rfl) (fun a b h=>by cases a;cases b;simpa [Zee] using h) kr
theorem ZjE {es:List (GE ZbW Int)} {s:List OpD} {o:OpD} {id:Int} (h:Zc6 es s) (hk:ZbX o=true) (hr:o.read=true) (hid:1≤id):(o.tx=id∧(gGet (⟨o.key,o.nth⟩:ZbW) es).getD 0=0) ↔ (o.read=true∧o.tx=id∧(wcnt s o.key:Int)<o.nth):=by
 have hb:=ZoB hk
 have h1:=h o.key o.nth ow
 constructor
 ·rintro ⟨e1,e2⟩
  refine ⟨hr,e1,?_⟩
  have hn:1≤o.nth:=by
   rw [ZfK hr] at hk
   unfold ofO at hk
   rw [Yf hr] at hk
   unfold Zca at hk
   rw [Yb (show ¬ o.tx=0 by omega)] at hk
   simp at hk
   omega
  rw [e2,Yb ow] at h1
  split at h1
  ·cases h1
  ·omega
 ·rintro ⟨_,e1,e2⟩
  refine ⟨e1,?_⟩
  rw [h1,Yb ow,Yb ow]
theorem ZoS (t:TxD):FnP prog 85 [.agg (rTx t)] (.int .i64 (Zaf t)):=by
 refine FnP.mk func85 Z ntmps85 Z fun B a w F V hfr O=>Ya ?_
 refine Zb O (qx 101 r1 (qI qZ)) V [2,1] [101,0] (fun _=>rfl) (fun _=>rfl) fun τ a w F O=>?_
 try dsimp only [RS.sub,SF.sub,CF.sub,csub,Anc.sub,List.map,zCF,Zs,rOp,rTx] at O
 generalize τ 1=v1 at O
 refine Za (Ya (Ye (Ya (rZ O (qg 0 101 r1 r1 (qa 101 r1 r1 (qf (ZaR .t qi) r1 qz (qR rr (qv 0 101 Z r2 r1 (qw 101 Z r2 r1 (qk Z (fun h=>Zal (.w h) qi) r2 qz (qf (ZaM .t .t) r2 qz (qO rr qZ))))))))) V [7,2,1] [101,0] fun O=>?_))))
 refine Zc O Z (fun hc0=>?_) (fun hc0=>?_)
 ·have hg:1=Zaf t:=by unfold Zaf;rw [Yf (by simp at hc0;omega)]
  refine Ya (rZ O (qI qZ) V [2,1] [101,0] fun O=>(Yh (Zr (Zf ?_))))
  refine ZB hfr O Z Z Z (.int hg)
 have hid:1≤t.id∧t.id≤1048575:=by simp at hc0;omega
 refine Ya (rZ O (qg 2 101 r1 r1 (qa 101 r1 r1 (qu YbR r1 (qf (Zal .t qi) r1 qz (qO rr qZ))))) V [16,2,1] [101,0] fun O=>?_)
 refine Zc O Z (fun hc1=>?_) (fun hc1=>?_)
 ·have hg:9=Zaf t:=by unfold Zaf;rw [Yb ow,Yf (by simp at hc1;omega)]
  refine Ya (rZ O (qI qZ) V [2,1] [101,0] fun O=>(Yh (Zr (Zf ?_))))
  refine ZB hfr O Z Z Z (.int hg)
 have hlen:t.ops.length≤4095:=by simp at hc1;omega
 have hT:Zaf t=Za9 t.id [] t.ops:=by unfold Zaf;rw [Yb ow,Yb ow]
 refine Yd (Zi (Za (Ya (Zb O (qf (ZcU (ek:=(fun n:Int=>PV.int .i64 n)) (ok:=(fun k=>∀ x ∈ Zb5 k,inR .i64 x)) (kv:=(kvS Zb5)) 102) trivial qz (qO rr qZ)) V [3,2,1] [102,101,0] (fun _=>rfl) (fun _=>rfl) fun τ a w F O=>?_))))
 try dsimp only [RS.sub,SF.sub,CF.sub,csub,Anc.sub,List.map,Zd,xL,xM,Nat.reduceAdd,xD,xE,xT,xU,xC,xN,zCF,Zs,rOp,rTx] at O
 generalize τ 21=v21 at O
 refine Za (Ya (Ya (rZ O (qg 2 101 r1 r1 (qa 101 r1 r1 (qu YbR r1 (qJ qZ)))) V [25,24,23,3,2,1] [102,101,0] fun O=>Ye ?_)))
 refine Zk (σ:=(Nat)×(List (GE ZbW Int))×(Nat)) [1,2,3,23,24] [0,101] (fun s=>[(25,.pv (.int .i64 (s.1:Int)))]) (fun s=>[(102,.ob (.val v21) (mapG (fun n:Int=>PV.int .i64 n) (fun k=>∀ x ∈ Zb5 k,inR .i64 x) (kvS Zb5) s.2.1 s.2.2))]) (fun s=>s.1≤t.ops.length∧(Za9 t.id [] t.ops=Za9 t.id (t.ops.take s.1) (t.ops.drop s.1)∧Zc6 s.2.1 (t.ops.take s.1))) (fun s=>t.ops.length - s.1) ((0),([]),(0)) O ⟨rfl,rfl,rfl,rfl,rfl,rfl,tv⟩ ⟨rfl,rfl,rfl,tv⟩ ⟨Yt _,⟨rfl,ZpD⟩⟩ ?_
 clear O;intro s a w F hC O
 obtain ⟨i,es,ck⟩:=s
 try dsimp only at hC
 obtain ⟨F,O⟩:=O.nM [25,24,23,3,2,1] [102,101,0]
 try dsimp only at O
 obtain ⟨hi,hq⟩:=hC
 obtain ⟨hrt,hsp⟩:=hq
 have hwl:=fun k=>Zr6 t.ops i k
 refine Ya (rZ O (qL r2) V [26,25,24,23,3,2,1] [102,101,0] fun O=>Ya ?_)
 refine Zc O Z (fun hc2=>?_) (fun hc2=>?_)
 ·have hil:i<t.ops.length:=by simp at hc2;omega
  refine Yd (Za (Ya (Ye (Ya (Zb O (qy 4 YbR r2 (qf (oR true 4 .t) r1 qz (qf (oH [.bool false,.int .i64 0,.int .i64 0,.int .i64 0] 103) trivial qz (qS 4 103 r2 r1 qZ)))) V [25,24,23,5,3,2,1] [103,102,101,0] (fun _=>rfl) (fun _=>rfl) fun τ a w F O=>?_)))))
  try dsimp only [RS.sub,SF.sub,CF.sub,csub,Anc.sub,List.map,Zd,xL,xM,Nat.reduceAdd,xD,xE,xT,xU,xC,xN,zCF,ldSF,Zs,rOp,rTx] at O
  generalize τ 5=v5 at O
  try simp only [Yg] at O
  refine Za (Ya (Ya (rZ O (qe 4 103 r1 r1 (qf (oP (Zo9 (Nn t.ops i)) func149 (Args.one (.pagg .t))) r1 qz (qO rr qZ))) V [25,24,23,6,5,3,2,1] [103,102,101,0] fun O=>Ya ?_)))
  refine rZ O (qR rr (qf (o_neq .t qi) r1 qz qZ)) V [32,25,24,23,6,5,3,2,1] [103,102,101,0] fun O=>?_
  refine Zc O Z (fun hc3=>?_) (fun hc3=>?_)
  ·have hk:ZbX (Nn t.ops i)=false:=by unfold Zdt at hc3;simpa using hc3
   have hg:Zdt (Nn t.ops i)=Zaf t:=by rw [hT,hrt,ZbL hil,Yf hk];unfold Zdt;rw [hk];rfl
   refine Ya (rZ O (qR rr (qO rr qZ)) V [25,24,23,5,3,2,1] [103,102,101,0] fun O=>(Yh (Zf (Zr (Zf (Zf (Zr (Zf ?_))))))))
   refine ZB hfr O Z Z Z (.int hg)
  have hk:ZbX (Nn t.ops i)=true:=by unfold Zdt at hc3;simpa using hc3
  refine Yd (Za (Ya (Ya (rZ O (qg 0 103 r1 r1 (qa 103 r1 r1 (qf (Z1 .t) r1 qz qZ))) V [36,25,24,23,5,3,2,1] [103,102,101,0] fun O=>?_))))
  refine Zc O Z (fun hc4=>?_) (fun hc4=>?_)
  ·have hr:(Nn t.ops i).read=false:=by simpa using hc4
   have hm0:=hsp (Nn t.ops i).key 0 (Yar _)
   rw [Yf rfl] at hm0
   have hwc:IntKind.wrap .i64 (((gGet (⟨(Nn t.ops i).key,0⟩:ZbW) es).getD 0)+1)=(wcnt (t.ops.take i) (Nn t.ops i).key:Int)+1:=by rw [hm0];exact Zj (by have:=hwl (Nn t.ops i).key;omega)
   refine Ya ?_
   replace O:=O.turnZ 102 (0) (⟨(Nn t.ops i).key,0⟩:ZbW) rfl
   refine ZgT 102 8 (m1:=1) (m2:=2) kr O kr (qR rr (qg 1 103 r1 r1 (qa 103 r1 r1 (qf (oB [(0,.tmp 39),(1,_)] [.int .i64 0,.int .i64 0] [(0,1),(1,1)] (.one Z .t one_int kr (.one Z qi one_int kr .nil))) r1 qz (qf (ZkC (ek:=(fun n:Int=>PV.int .i64 n)) (z0:=(0)) 102 underlying212 Zg5 kr (fun _ _=>⟨rfl,ZhL⟩) .is (Z6.agg (enc:=Zb5) (k:=(⟨(Nn t.ops i).key,0⟩:ZbW)) (.pagg .t) Z)) r2 r1 (qp r1 (qf (ZgD (ek:=(fun n:Int=>PV.int .i64 n)) (z0:=(0)) 102 underlying212 Zg5 kr (fun _ _=>⟨rfl,ZhL⟩) .is (Z6.agg (enc:=Zb5) (k:=(⟨(Nn t.ops i).key,0⟩:ZbW)) (.pagg .t) Z) (by intros;first | rfl | simp [Anc.v,upd])) r2 r1 (qf (o_extract .t Z) r1 qz (qf (Ze3 102 (ZgL _ _ _) .is .t .t) r3 r1 qZ))))))))) kr kr kr Z Z Z (fun _ _ _ _ h=>.inr h) (by rw [V];kernel_rfl) fun a w F O=>?_
   obtain ⟨F,O⟩:=O.nM [25,24,23,5,3,2,1] [103,102,101,0]
   try dsimp only [List.map,Zd,xL,xM,Nat.reduceAdd,xD,xE,xT,xU,xC,xN,zCF,ldSF,Zs,rOp,rTx] at O
   obtain ⟨es1,he1⟩:∃ z,z=gSet (⟨(Nn t.ops i).key,0⟩:ZbW) (IntKind.wrap .i64 (((gGet (⟨(Nn t.ops i).key,0⟩:ZbW) es).getD 0)+1)) (gEns 0 (⟨(Nn t.ops i).key,0⟩:ZbW) (es,ck)).1:=⟨_,rfl⟩
   obtain ⟨ck1,hc1⟩:∃ z,z=(gEns 0 (⟨(Nn t.ops i).key,0⟩:ZbW) (es,ck)).2:=⟨_,rfl⟩
   rw [← he1,← hc1] at O
   refine Za (Ya (Zu O (qR rr (qg 1 103 r1 r1 (qa 103 r1 r1 (qR rr (qg 1 103 r1 r1 (qa 103 r1 r1 (qf (oB [(0,.tmp 50),(1,_)] [.int .i64 0,.int .i64 0] [(0,1),(1,1)] (.one Z .t one_int kr (.one Z qi one_int kr .nil))) r1 qz (qf (ZaL (ek:=(fun n:Int=>PV.int .i64 n)) (z0:=(0)) 102 underlying212 Zg5 kr (fun _ _=>⟨rfl,ZhL⟩) .is (Z6.agg (enc:=Zb5) (k:=(⟨(Nn t.ops i).key,0⟩:ZbW)) (.pagg .t) Z)) r2 r1 (qf (oB [(0,.tmp 47),(1,.tmp 52)] [.int .i64 0,.int .i64 0] [(0,1),(1,1)] (.one Z .t one_int kr (.one Z .t one_int kr .nil))) r2 qz (qf (Zbq (ek:=(fun n:Int=>PV.int .i64 n)) 102 underlying212 Zg5 .is (Z6.agg (enc:=Zb5) (k:=(⟨(Nn t.ops i).key,(gGet (⟨(Nn t.ops i).key,0⟩:ZbW) es1).getD 0⟩:ZbW)) (.pagg .t) Z) qi) r2 r1 qZ)))))))))) V [25,24,23,5,3,2,1] [103,102,101,0] Z Z fun a w F O=>?_))
   try dsimp only [List.map,Zd,xL,xM,Nat.reduceAdd,xD,xE,xT,xU,xC,xN,zCF,ldSF,Zs,rOp,rTx] at O
   have hv1:∀ p,(gGet p es1).getD 0=if p=(⟨(Nn t.ops i).key,0⟩:ZbW) then (wcnt (t.ops.take i) (Nn t.ops i).key:Int)+1 else (gGet p es).getD 0:=fun p=>by rw [he1,Zip,hwc]
   obtain ⟨es2,he2⟩:∃ z,z=(gPut (⟨(Nn t.ops i).key,(gGet (⟨(Nn t.ops i).key,0⟩:ZbW) es1).getD 0⟩:ZbW) 1 (es1,ck1)).1:=⟨_,rfl⟩
   obtain ⟨ck2,hc2⟩:∃ z,z=(gPut (⟨(Nn t.ops i).key,(gGet (⟨(Nn t.ops i).key,0⟩:ZbW) es1).getD 0⟩:ZbW) 1 (es1,ck1)).2:=⟨_,rfl⟩
   rw [← he2,← hc2] at O
   have hR2:Za9 t.id [] t.ops=Za9 t.id (t.ops.take (i+1)) (t.ops.drop (i+1))∧Zc6 es2 (t.ops.take (i+1)):=⟨by rw [hrt,ZbL hil,Yb (by rw [hk];decide),Yb (by rw [hr];simp)],Zor hsp hil hr rfl (fun p=>by rw [he2,Zqh];dsimp only;rw [hv1,hv1,Yf rfl])⟩
   refine Za (Ym (Zg (Zo (Za (rZ O (qp r1 (qR rr qZ)) V [25,24,23,3,2,1] [103,102,101,0] fun O=>?_)))))
   replace O:=O.ent (i:=25) (s':=.pv (.int .i64 ((i+1:Nat):Int))) Z (.int (Ze ow))
   obtain ⟨F,O⟩:=O.nM [24,23,3,2,1,25] [101,0,102]
   exact ⟨((i+1),(es2),(ck2)),F,⟨by omega,hR2⟩,O,by omega⟩
  have hr:(Nn t.ops i).read=true:=by simpa using hc4
  refine Yd (Za (Ya (rZ O (qg 2 103 r1 r1 (qa 103 r1 r1 (qg 0 101 r1 r1 (qa 101 r1 r1 (qf (o_eql .t .t) r2 qz (qR rr (qm Z Z Z Z (qv 1 103 Z r2 r1 (qw 103 Z r2 r1 (qv 3 103 Z r2 r1 (qw 103 Z r2 r1 (qk Z (fun h=>Zc9 (r:=[(0,.tmp 62),(1,.tmp 64)]) (zs:=[.int .i64 0,.int .i64 0]) (pl:=[(0,1),(1,1)]) kr kr (.one Z (.w h) one_int kr (.one Z (.w h) one_int kr .nil)) (by rfl)) r3 qz (qk Z (fun h=>ZaL (ek:=(fun n:Int=>PV.int .i64 n)) (z0:=(0)) 102 underlying212 Zg5 kr (fun _ _=>⟨rfl,ZhL⟩) (.w h .is) (Z6.agg (enc:=Zb5) (k:=(⟨(Nn t.ops i).key,(Nn t.ops i).nth⟩:ZbW)) (.pagg (.w h)) Z)) r3 r1 (qk Z (fun h=>o_eql (.w h) qi) r2 qz (qf (ZJ .t .t) r2 qz qZ))))))))))))))) V [68,25,24,23,3,2,1] [103,102,101,0] fun O=>?_)))
  refine Zc O Z (fun hc5=>?_) (fun hc5=>?_)
  ·have hg:6=Zaf t:=by rw [hT,hrt,ZbL hil,Yb (by rw [hk];decide),Yf ((ZjE hsp hk hr hid.1).1 (by simpa using hc5))]
   refine Ya (rZ O (qI qZ) V [25,24,23,3,2,1] [103,102,101,0] fun O=>(Yh (Zr (Zf (Zf (Zr (Zf ?_)))))))
   refine ZB hfr O Z Z Z (.int hg)
  have hno:=fun h9=>(by simpa using hc5:¬ ((Nn t.ops i).tx=t.id∧(gGet (⟨(Nn t.ops i).key,(Nn t.ops i).nth⟩:ZbW) es).getD 0=0)) ((ZjE hsp hk hr hid.1).2 h9)
  obtain ⟨es2,he2⟩:∃ z,z=es:=⟨_,rfl⟩
  obtain ⟨ck2,hc2⟩:∃ z,z=ck:=⟨_,rfl⟩
  have hR2:Za9 t.id [] t.ops=Za9 t.id (t.ops.take (i+1)) (t.ops.drop (i+1))∧Zc6 es2 (t.ops.take (i+1)):=⟨by rw [hrt,ZbL hil,Yb (by rw [hk];decide),Yb hno],by rw [he2];exact Zpu hsp hil hr⟩
  rw [← he2,← hc2] at O
  refine Yd (Zi (Za (rZ O (qp r1 (qR rr qZ)) V [25,24,23,3,2,1] [103,102,101,0] fun O=>?_)))
  replace O:=O.ent (i:=25) (s':=.pv (.int .i64 ((i+1:Nat):Int))) Z (.int (Ze ow))
  obtain ⟨F,O⟩:=O.nM [24,23,3,2,1,25] [101,0,102]
  exact ⟨((i+1),(es2),(ck2)),F,⟨by omega,hR2⟩,O,by omega⟩
 have hil:i=t.ops.length:=by simp at hc2;omega
 have hg:0=Zaf t:=by rw [hT,hrt,ZgS hil]
 refine Ym (Zg (Zg (Zo (Za (Ya (rZ O (qI qZ) V [2] [102,101,0] fun O=>Yh ?_))))))
 refine ZB hfr O Z Z Z (.int hg)
theorem Zdv (t:TxD):FnP prog 131 [.agg (rTx t)] (.int .i64 (Zaf t)):=by
 refine FnP.mk func131 Z ntmps131 Z fun B a w F V hfr O=>Ya ?_
 refine Zb O (qx 101 r1 (qI qZ)) V [2,1] [101,0] (fun _=>rfl) (fun _=>rfl) fun τ a w F O=>?_
 try dsimp only [RS.sub,SF.sub,CF.sub,csub,Anc.sub,List.map,zCF,Zs,rOp,rTx] at O
 generalize τ 1=v1 at O
 refine Za (Ya (Ya (rZ O (qg 0 101 r1 r1 (qa 101 r1 r1 (qf (oP (ZfE t.id) func195 (Args.one .t)) r1 qz (qf (Z1 .t) r1 qz qZ)))) V [8,2,1] [101,0] fun O=>?_)))
 refine Zc O Z (fun hc0=>?_) (fun hc0=>?_)
 ·have hg:1=Zaf t:=by unfold Zaf;rw [Yf (by rw [← Zhn];simpa using hc0)]
  refine Ya (rZ O (qI qZ) V [2,1] [101,0] fun O=>(Yh (Zf ?_)))
  refine ZB hfr O Z Z Z (.int hg)
 have hid:1≤t.id∧t.id≤1048575:=by rw [← Zhn];simpa using hc0
 refine Yd (Za (Ya (Ya (rZ O (qg 2 101 r1 r1 (qa 101 r1 r1 (qu YbR r1 (qf (Zal .t qi) r1 qz qZ)))) V [12,2,1] [101,0] fun O=>?_))))
 refine Zc O Z (fun hc1=>?_) (fun hc1=>?_)
 ·have hg:9=Zaf t:=by unfold Zaf;rw [Yb ow,Yf (by simp at hc1;omega)]
  refine Ya (rZ O (qI qZ) V [2,1] [101,0] fun O=>(Yh (Zf ?_)))
  refine ZB hfr O Z Z Z (.int hg)
 have hlen:t.ops.length≤4095:=by simp at hc1;omega
 have hT:Zaf t=Za9 t.id [] t.ops:=by unfold Zaf;rw [Yb ow,Yb ow]
 refine Yd (Za (Ya (Ya (rZ O (qg 2 101 r1 r1 (qa 101 r1 r1 (qu YbR r1 (qJ qZ)))) V [16,15,14,2,1] [101,0] fun O=>Ye ?_))))
 refine Zk (σ:=(Nat)) [1,2,14,15] [0,101] (fun s=>[(16,.pv (.int .i64 (s:Int)))]) (fun s=>[]) (fun s=>s≤t.ops.length∧(Za9 t.id [] t.ops=Za9 t.id (t.ops.take s) (t.ops.drop s))) (fun s=>t.ops.length - s) (0) O ⟨rfl,rfl,rfl,rfl,rfl,tv⟩ ⟨rfl,rfl,tv⟩ ⟨Yt _,rfl⟩ ?_
 clear O;intro i a w F hC O
 try dsimp only at hC
 obtain ⟨F,O⟩:=O.nM [16,15,14,2,1] [101,0]
 try dsimp only at O
 obtain ⟨hi,hq⟩:=hC
 have hrt:=hq
 refine Ya (rZ O (qL r2) V [17,16,15,14,2,1] [101,0] fun O=>Ya ?_)
 refine Zc O Z (fun hc2=>?_) (fun hc2=>?_)
 ·have hil:i<t.ops.length:=by simp at hc2;omega
  refine Yd (Za (Ya (Ye (Ya (Zb O (qR rr (qy 4 YbR r2 (qf (oR true 4 .t) r1 qz (qf (oH [.bool false,.int .i64 0,.int .i64 0,.int .i64 0] 102) trivial qz (qO rr (qS 4 102 r2 r1 qZ)))))) V [16,15,14,4,3,2,1] [102,101,0] (fun _=>rfl) (fun _=>rfl) fun τ a w F O=>?_)))))
  try dsimp only [RS.sub,SF.sub,CF.sub,csub,Anc.sub,List.map,Zd,xL,xM,Nat.reduceAdd,xD,xE,xT,xU,xC,xN,zCF,ldSF,Zs,rOp,rTx] at O
  generalize τ 4=v4 at O
  try simp only [Yg] at O
  refine Za (Ya (Ya (rZ O (qe 4 102 r1 r1 (qf (oP (ZkM (Nn t.ops i)) func196 (Args.one (.pagg .t))) r1 qz (qf (Z1 .t) r1 qz qZ))) V [23,16,15,14,4,3,2,1] [102,101,0] fun O=>?_)))
  refine Zc O Z (fun hc3=>?_) (fun hc3=>?_)
  ·have hk:ZbX (Nn t.ops i)=false:=by simpa using hc3
   have hg:1=Zaf t:=by rw [hT,hrt,ZbL hil,Yf hk]
   refine Ya (rZ O (qI qZ) V [16,15,14,4,3,2,1] [102,101,0] fun O=>(Yh (Zf (Zr (Zf (Zf (Zr (Zf ?_))))))))
   refine ZB hfr O Z Z Z (.int hg)
  have hk:ZbX (Nn t.ops i)=true:=by simpa using hc3
  refine Yd (Za (Ya (Zu O (qg 0 102 r1 r1 (qa 102 r1 r1 (qR rr (qv 2 102 Z r2 r1 (qw 102 Z r2 r1 (qv 0 101 Z r2 r1 (qw 101 Z r2 r1 (qk Z (fun h=>o_eql (.w h) (.w h)) r3 qz (qf (ZJ .t .t) r2 qz (qR rr (qv 3 102 Z r2 r1 (qw 102 Z r2 r1 (qv 2 101 Z r2 r1 (qw 101 Z r2 r1 (qm Z Z Z Z (qk Z (fun h=>ZcP (sz:=4) (.mk YbR kr) (by intro x;rfl) (.w h) (.w h) ow ow) r3 qz (qv 1 102 Z r2 r1 (qw 102 Z r2 r1 (qk Z (fun h=>oP (Zdp (t.ops.take i) (Nn t.ops i).key (by rw [Yk];omega)) func197 (Args.two (.w h) (.w h))) r3 qz (qk Z (fun h=>Zal (.w h) (.w h)) r3 qz (qf (ZJ .t .t) r2 qz qZ))))))))))))))))))))) V [44,16,15,14,2,1] [102,101,0] Z Z fun a w F O=>?_)))
  try dsimp only [List.map,xD,xE,xT,xU,ldSF,Zs,rOp,rTx] at O
  refine Za (Zc O Z (fun hc4=>?_) (fun hc4=>?_))
  ·have hyes:(Nn t.ops i).read=true∧(Nn t.ops i).tx=t.id∧(wcnt (t.ops.take i) (Nn t.ops i).key:Int)<(Nn t.ops i).nth:=by unfold wcnt;simpa [YbL] using hc4
   have hg:6=Zaf t:=by rw [hT,hrt,ZbL hil,Yb (by rw [hk];decide),Yf hyes]
   refine Ya (rZ O (qI qZ) V [16,15,14,2,1] [102,101,0] fun O=>(Yh (Zr (Zf (Zf (Zr (Zf ?_)))))))
   refine ZB hfr O Z Z Z (.int hg)
  have hno:¬ ((Nn t.ops i).read=true∧(Nn t.ops i).tx=t.id∧(wcnt (t.ops.take i) (Nn t.ops i).key:Int)<(Nn t.ops i).nth):=by unfold wcnt;intro h9;have h8:=hc4;simp [h9.1,h9.2.1] at h8;omega
  refine Yd (Zi (Za (rZ O (qp r1 (qR rr qZ)) V [16,15,14,2,1] [102,101,0] fun O=>?_)))
  replace O:=O.ent (i:=16) (s':=.pv (.int .i64 ((i+1:Nat):Int))) Z (.int (Ze ow))
  obtain ⟨F,O⟩:=O.nM [15,14,2,1,16] [101,0]
  exact ⟨(i+1),F,⟨by omega,(by rw [hrt,ZbL hil,Yb (by rw [hk];decide),Yb hno])⟩,O,by omega⟩
 have hil:i=t.ops.length:=by simp at hc2;omega
 have hg:0=Zaf t:=by rw [hT,hrt,ZgS hil]
 refine Ym (Zg (Zg (Zo (Za (Ya (rZ O (qI qZ) V [2] [101,0] fun O=>Yh ?_))))))
 refine ZB hfr O Z Z Z (.int hg)
theorem ZoM {u v:ZcF} {r:Bool} (h:(decide (u.tx=v.tx) && (decide (u.key=v.key) && (decide (u.nth=v.nth) && true)))=r):r=decide (u=v):=by
 cases u;cases v
 rw [← h,Y6]
 simp
theorem Zqr (l:List ZcF) (v:ZcF):FnP prog 254 [.sl ZY l,.agg (ZY v)] (.bool (decide (v ∈ l))):=by
 refine FnP.mk func254 Z ntmps254 Z fun B a w F V hfr O=>?_
 have hll:=Sat.lenSl O (i:=0) rfl
 refine Ya (Zb O (qx 101 r1 qB) V [4,3,0] [101,0] (fun _=>rfl) (fun _=>rfl) fun τ a w F O=>?_)
 try dsimp only [RS.sub,SF.sub,CF.sub,csub,Anc.sub,List.map,zCF,ZY] at O
 generalize τ 3=v3 at O
 refine Za (Ya (Ya (rZ O (qR rr (qu YbW r1 (qJ qZ))) V [9,8,7,4,3] [101,0] fun O=>Ye ?_)))
 refine Zk (σ:=(Nat)) [3,4,7,8] [0,101] (fun s=>[(9,.pv (.int .i64 (s:Int)))]) (fun s=>[]) (fun s=>s≤l.length∧(∀ k,k<s→Nn l k≠v)) (fun s=>l.length - s) (0) O ⟨rfl,rfl,rfl,rfl,rfl,tv⟩ ⟨rfl,rfl,tv⟩ ⟨Yt _,fun k hk=>absurd hk (YJ k)⟩ ?_
 clear O;intro i a w F hC O
 try dsimp only at hC
 obtain ⟨F,O⟩:=O.nM [9,8,7,4,3] [101,0]
 try dsimp only at O
 obtain ⟨hi,hq⟩:=hC
 refine Ya (rZ O (qL r2) V [10,9,8,7,4,3] [101,0] fun O=>Ya ?_)
 refine Zc O Z (fun hc0=>?_) (fun hc0=>?_)
 ·have hil:i<l.length:=by simp at hc0;omega
  refine Yd (Za (Ya (Ye (Ya (Zb O (qy 3 YbW r2 (qf (oR true 3 .t) r1 qz (qf (oH [.int .i64 0,.int .i64 0,.int .i64 0] 102) trivial qz (qS 3 102 r2 r1 qZ)))) V [9,8,7,6,4,3] [102,101,0] (fun _=>rfl) (fun _=>rfl) fun τ a w F O=>?_)))))
  try dsimp only [RS.sub,SF.sub,CF.sub,csub,Anc.sub,List.map,Zd,xL,xM,Nat.reduceAdd,xD,xE,xT,xU,xC,xN,zCF,ldSF,ZY] at O
  generalize τ 6=v6 at O
  try simp only [Yg] at O
  refine Za (Ya (rZ O (qe 3 102 r1 r1 (qe 3 101 r1 r1 (qf (Ztm (ks:=[true,true,true]) kr .t .t (.int (.int (.int .nil)))) r2 qz qZ))) V [15,9,8,7,4,3] [101,0] fun O=>?_))
  refine Zc O Z (fun hc1=>?_) (fun hc1=>?_)
  ·have hg:true=decide (v ∈ l):=(YI (by have h9:=(ZoM hc1).symm;rw [Yj] at h9;rw [← h9];exact ZU hil)).symm
   refine Ya (rZ O qB V [9,8,7,4,3] [101,0] fun O=>(Yh (Zr (Zf (Zf (Zr (Zf ?_)))))))
   refine ZB hfr O Z Z Z (.bool hg)
  have hne:Nn l i≠v:=by have h9:=(ZoM hc1).symm;rwa [Yi] at h9
  refine Yd (Zi (Za (rZ O (qp r1 (qR rr qZ)) V [9,8,7,4,3] [101,0] fun O=>?_)))
  replace O:=O.ent (i:=9) (s':=.pv (.int .i64 ((i+1:Nat):Int))) Z (.int (Ze ow))
  obtain ⟨F,O⟩:=O.nM [8,7,4,3,9] [101,0]
  exact ⟨(i+1),F,⟨by omega,(fun k hk=>by rcases Yy (YD hk) with h | h;exact hq k h;rw [h];exact hne)⟩,O,by omega⟩
 have hil:i=l.length:=by simp at hc0;omega
 have hg:false=decide (v ∈ l):=by
   rw [Y8,Yi]
   intro hv
   obtain ⟨k,hk,e⟩:=YH hv
   exact hq k (by simp at hc0;omega) (by rw [Zy hk];exact e)
 refine Ym (Zg (Zg (Zo (Za (Ya (rZ O qB V [4] [101,0] fun O=>Yh ?_))))))
 refine ZB hfr O Z Z Z (.bool hg)
theorem Zoa (t:TxD) (hl:t.ops.length≤1000000):FnP prog 84 [.agg (rTx t)] (.sl ZY (ZaB t)):=by
 refine FnP.mk func84 Z ntmps84 Z fun B a w F V hfr O=>Ya ?_
 refine Zb O (qx 101 r1 (qC qZ)) V [2,1] [101,0] (fun _=>rfl) (fun _=>rfl) fun τ a w F O=>?_
 try dsimp only [RS.sub,SF.sub,CF.sub,csub,Anc.sub,List.map,zCF,Zs,rOp,rTx,ZY] at O
 generalize τ 1=v1 at O
 refine Za (Ya (rZ O (qC qZ) V [3,2,1] [101,0] fun O=>Ya ?_))
 refine Zb O (qf (ZcU (ek:=(fun n:Int=>PV.int .i64 n)) (ok:=(fun k=>∀ x ∈ Zee k,inR .i64 x)) (kv:=(kvS Zee)) 102) trivial qz (qO rr qZ)) V [4,3,2,1] [102,101,0] (fun _=>rfl) (fun _=>rfl) fun τ a w F O=>?_
 try dsimp only [RS.sub,SF.sub,CF.sub,csub,Anc.sub,List.map,Zd,xL,xM,Nat.reduceAdd,xD,xE,xT,xU,xC,xN,zCF,Zs,rOp,rTx,ZY] at O
 generalize τ 8=v8 at O
 refine Za (Ya (Ya (rZ O (qg 2 101 r1 r1 (qa 101 r1 r1 (qu YbR r1 (qJ qZ)))) V [12,11,10,4,3,2,1] [102,101,0] fun O=>Ye ?_)))
 replace O:=O.fresh 50 rfl
 replace O:=O.turn 50 Z (ZaC (T:=146) (sz:=3) (R:=ZY))
 refine Zk (σ:=(Nat)×(List (GE ZcF Int))×(Nat)×(Value)×(List ZcF)) [1,2,4,10,11] [0,101] (fun s=>[(12,.pv (.int .i64 (s.1:Int))),(3,.pv (.is s.2.2.2.1))]) (fun s=>[(102,.ob (.val v8) (mapG (fun n:Int=>PV.int .i64 n) (fun k=>∀ x ∈ Zee k,inR .i64 x) (kvS Zee) s.2.1 s.2.2.1)),(50,.ob (.val s.2.2.2.1) (ZO 146 3 ZY s.2.2.2.2))]) (fun s=>s.1≤t.ops.length∧(s.2.2.2.2=Zc0 t.id (t.ops.take s.1)∧ZeQ s.2.1 s.1 s.2.2.2.2)) (fun s=>t.ops.length - s.1) ((0),([]),(0),(.slice none 0 0),([])) O ⟨rfl,rfl,rfl,rfl,rfl,rfl,rfl,tv⟩ ⟨rfl,rfl,rfl,rfl,tv⟩ ⟨Yt _,⟨rfl,Zq0⟩⟩ ?_
 clear O;intro s a w F hC O
 obtain ⟨i,es,ck,v,out⟩:=s
 try dsimp only at hC
 obtain ⟨F,O⟩:=O.nM [12,11,10,4,3,2,1] [102,101,50,0]
 try dsimp only at O
 obtain ⟨hi,hq⟩:=hC
 obtain ⟨hou,hvi⟩:=hq
 have hol:out.length≤i:=by rw [hou];exact ZdU _ _ _
 have hst:=fun hil:i<t.ops.length=>ZgZ (id:=t.id) hil
 refine Ya (rZ O (qL r2) V [13,12,11,10,4,3,2,1] [102,101,50,0] fun O=>Ya ?_)
 refine Zc O Z (fun hc0=>?_) (fun hc0=>?_)
 ·have hil:i<t.ops.length:=by simp at hc0;omega
  refine Yd (Za (Ya (Ye (Ya (Zb O (qy 4 YbR r2 (qf (oR true 4 .t) r1 qz (qf (oH [.bool false,.int .i64 0,.int .i64 0,.int .i64 0] 103) trivial qz (qS 4 103 r2 r1 qZ)))) V [12,11,10,6,4,3,2,1] [103,102,101,50,0] (fun _=>rfl) (fun _=>rfl) fun τ a w F O=>?_)))))
  try dsimp only [RS.sub,SF.sub,CF.sub,csub,Anc.sub,List.map,Zd,xL,xM,Nat.reduceAdd,xD,xE,xT,xU,xC,xN,zCF,ldSF,Zs,rOp,rTx,ZY] at O
  generalize τ 6=v6 at O
  try simp only [Yg] at O
  refine Za (Ya (Zb O (qe 4 103 r1 r1 (qf (oP (ZrM (Nn t.ops i)) func148 (Args.one (.pagg .t))) r1 qz (qf (oH [.int .i64 0,.int .i64 0,.int .i64 0] 104) trivial qz (qf (oA 3 104 .same (.conv .t .agg)) r2 r1 qZ)))) V [12,11,10,7,6,4,3,2,1] [104,103,102,101,50,0] (fun _=>rfl) (fun _=>rfl) fun τ a w F O=>?_))
  try dsimp only [RS.sub,SF.sub,CF.sub,csub,Anc.sub,List.map,Zd,xL,xM,Nat.reduceAdd,xD,xE,xT,xU,xC,xN,zCF,ldSF,Zs,rOp,rTx,ZY] at O
  generalize τ 7=v7 at O
  refine Za (Ya (Ya (rZ O (qg 0 103 r1 r1 (qa 103 r1 r1 (qf (Z1 .t) r1 qz (qR rr (qv 0 104 Z r2 r1 (qw 104 Z r2 r1 (qk Z (fun h=>o_eql (.w h) qi) r2 qz (qf (ZaM .t .t) r2 qz (qR rr (qv 0 104 Z r2 r1 (qw 104 Z r2 r1 (qv 0 101 Z r2 r1 (qw 101 Z r2 r1 (qk Z (fun h=>o_eql (.w h) (.w h)) r3 qz (qf (ZaM .t .t) r2 qz qZ))))))))))))))) V [32,12,11,10,7,4,3,2,1] [104,103,102,101,50,0] fun O=>?_)))
  refine Zc O Z (fun hc1=>?_) (fun hc1=>?_)
  ·have hno:ZhQ t.id (Nn t.ops i)=false:=by unfold ZhQ;unfold ofO at hc1;cases hr:(Nn t.ops i).read <;> simp [hr] at hc1 ⊢;omega
   obtain ⟨es2,he2⟩:∃ z,z=es:=⟨_,rfl⟩
   obtain ⟨ck2,hc2⟩:∃ z,z=ck:=⟨_,rfl⟩
   obtain ⟨out2,ho2⟩:∃ z,z=out:=⟨_,rfl⟩
   have hR2:out2=Zc0 t.id (t.ops.take (i+1))∧ZeQ es2 (i+1) out2:=⟨by rw [ho2,hou,hst hil];unfold Za8;rw [Yb (by rw [hno];simp)],by rw [he2,ho2];exact Zql hvi⟩
   rw [← he2,← hc2,← ho2] at O
   refine Ym (Zg (Zo (Za (rZ O (qp r1 (qR rr qZ)) V [12,11,10,4,3,2,1] [103,102,101,50,0] fun O=>?_))))
   replace O:=O.ent (i:=12) (s':=.pv (.int .i64 ((i+1:Nat):Int))) Z (.int (Ze ow))
   obtain ⟨F,O⟩:=O.nM [11,10,4,2,1,3,12] [101,0,50,102]
   exact ⟨((i+1),(es2),(ck2),_,(out2)),F,⟨by omega,hR2⟩,O,by omega⟩
  have hyes:ZhQ t.id (Nn t.ops i)=true:=by unfold ZhQ;unfold ofO at hc1;cases hr:(Nn t.ops i).read <;> simp [hr] at hc1 ⊢;exact hc1
  have hvr:=hvi (ofO (Nn t.ops i))
  have hw1:IntKind.wrap .i64 (((gGet (ofO (Nn t.ops i)) es).getD 0)+1)=((gGet (ofO (Nn t.ops i)) es).getD 0)+1:=Zj (by have:=Sat.lenSl O (i:=10) rfl;omega)
  refine Yd (Za (Ya ?_))
  replace O:=O.turnZ 102 (0) (ofO (Nn t.ops i)) rfl
  refine ZgT 102 6 (m1:=1) (m2:=2) kr O kr (qR rr (qe 3 104 r1 r1 (qf (ZkC (ek:=(fun n:Int=>PV.int .i64 n)) (z0:=(0)) 102 underlying210 Zpe kr (fun _ _=>⟨rfl,ZhL⟩) .is (Z6.agg (enc:=Zee) (k:=(ofO (Nn t.ops i))) (.pagg .t) Z)) r2 r1 (qp r1 (qf (ZgD (ek:=(fun n:Int=>PV.int .i64 n)) (z0:=(0)) 102 underlying210 Zpe kr (fun _ _=>⟨rfl,ZhL⟩) .is (Z6.agg (enc:=Zee) (k:=(ofO (Nn t.ops i))) (.pagg .t) Z) (by intros;first | rfl | simp [Anc.v,upd])) r2 r1 (qf (o_extract .t Z) r1 qz (qf (Ze3 102 (ZgL _ _ _) .is .t .t) r3 r1 qZ))))))) kr kr kr Z Z Z (fun _ _ _ _ h=>.inr h) (by rw [V];kernel_rfl) fun a w F O=>?_
  obtain ⟨F,O⟩:=O.nM [12,11,10,7,4,3,2,1] [104,103,102,101,50,0]
  try dsimp only [List.map,xD,xE,xT,xU,ldSF,Zs,rOp,rTx,ZY] at O
  obtain ⟨es2,he2⟩:∃ z,z=gSet (ofO (Nn t.ops i)) (IntKind.wrap .i64 (((gGet (ofO (Nn t.ops i)) es).getD 0)+1)) (gEns 0 (ofO (Nn t.ops i)) (es,ck)).1:=⟨_,rfl⟩
  obtain ⟨ck2,hc2⟩:∃ z,z=(gEns 0 (ofO (Nn t.ops i)) (es,ck)).2:=⟨_,rfl⟩
  rw [← he2,← hc2] at O
  have hvv:∀ u,(gGet u es2).getD 0=if u=(ofO (Nn t.ops i)) then ((gGet (ofO (Nn t.ops i)) es).getD 0)+1 else (gGet u es).getD 0:=fun u=>by rw [he2,Zip,hw1]
  have hmv:(gGet (ofO (Nn t.ops i)) es2).getD 0=((gGet (ofO (Nn t.ops i)) es).getD 0)+1:=by rw [hvv,Yf rfl]
  have hvs:=ZqD hvi hvv
  refine Za (Ya (rZ O (qR rr (qe 3 104 r1 r1 (qf (ZaL (ek:=(fun n:Int=>PV.int .i64 n)) (z0:=(0)) 102 underlying210 Zpe kr (fun _ _=>⟨rfl,ZhL⟩) .is (Z6.agg (enc:=Zee) (k:=(ofO (Nn t.ops i))) (.pagg .t) Z)) r2 r1 (qf (o_eql .t qi) r1 qz qZ)))) V [42,12,11,10,7,4,3,2,1] [104,103,102,101,50,0] fun O=>?_))
  refine Zc O Z (fun hc2=>?_) (fun hc2=>?_)
  ·have hnm:(ofO (Nn t.ops i)) ∉ out:=by rw [← hvr.2.2];rw [hmv] at hc2;simp at hc2;omega
   obtain ⟨out2,ho2⟩:∃ z,z=out ++ [(ofO (Nn t.ops i))]:=⟨_,rfl⟩
   have hR2:out2=Zc0 t.id (t.ops.take (i+1))∧ZeQ es2 (i+1) out2:=⟨by rw [ho2,hst hil];unfold Za8;rw [Yf ⟨hyes,by rw [← hou];exact hnm⟩,← hou],by have:=hvs;rw [Yb hnm] at this;rw [ho2];exact this⟩
   refine Zb O (qR rr (qe 3 104 r1 r1 (qf (Zn (sz:=3) (zs:=[.int .i64 0,.int .i64 0,.int .i64 0]) (r:=[(0,.tmp 44)]) (l:=[_,_,_]) YbW kr kr kr kr Z Z (.agg Z .t kr kr .nil) Z) r1 qz (qf (o_append (sz:=3) (bs:=24) 50 (.mk' YbW kr kr) (by intro x;rfl) .is (.arr (l':=[_]) .t) (by simp only [Yc,Yl,Yq,Yk,YK];omega) (by decide)) ⟨rfl,rfl,tv⟩ ⟨rfl,tv⟩ (qO rr qZ))))) V [12,11,10,4,3,2,1] [103,102,101,50,0] (fun _=>rfl) (fun _=>rfl) fun τ a w F O=>?_
   try dsimp only [RS.sub,SF.sub,CF.sub,csub,Anc.sub,List.map,Zd,xL,xM,Nat.reduceAdd,xD,xE,xT,xU,xC,xN,zCF,ldSF,Zs,rOp,rTx,ZY] at O
   generalize τ 46=v46 at O
   rw [← ho2] at O
   refine Zi (Za (rZ O (qp r1 (qR rr qZ)) V [12,11,10,4,3,2,1] [103,102,101,50,0] fun O=>?_))
   replace O:=O.ent (i:=12) (s':=.pv (.int .i64 ((i+1:Nat):Int))) Z (.int (Ze ow))
   obtain ⟨F,O⟩:=O.nM [11,10,4,2,1,3,12] [101,0,50,102]
   exact ⟨((i+1),(es2),(ck2),_,(out2)),F,⟨by omega,hR2⟩,O,by omega⟩
  have hnm:(ofO (Nn t.ops i)) ∈ out:=by rw [← hvr.2.2];rw [hmv] at hc2;simp at hc2;omega
  obtain ⟨out2,ho2⟩:∃ z,z=out:=⟨_,rfl⟩
  have hR2:out2=Zc0 t.id (t.ops.take (i+1))∧ZeQ es2 (i+1) out2:=⟨by rw [ho2,hst hil];unfold Za8;rw [Yb (by rw [← hou];simp [hnm])];exact hou,by have:=hvs;rw [Yf hnm] at this;rw [ho2];exact this⟩
  rw [← ho2] at O
  refine Yd (Zi (Za (rZ O (qp r1 (qR rr qZ)) V [12,11,10,4,3,2,1] [103,102,101,50,0] fun O=>?_)))
  replace O:=O.ent (i:=12) (s':=.pv (.int .i64 ((i+1:Nat):Int))) Z (.int (Ze ow))
  obtain ⟨F,O⟩:=O.nM [11,10,4,2,1,3,12] [101,0,50,102]
  exact ⟨((i+1),(es2),(ck2),_,(out2)),F,⟨by omega,hR2⟩,O,by omega⟩
 have hil:i=t.ops.length:=by simp at hc0;omega
 refine Ym (Zg (Zg (Zo (Za (Ya (rZ O (qR rr (qO rr qZ)) V [2] [102,101,50,0] fun O=>Yh ?_))))))
 obtain ⟨F,O⟩:=O.give 50 2 Z rfl
 refine ZB hfr O Z Z Z (.sl (by rw [hou,hil,YE];rfl))
theorem Zh1 (t:TxD) (hl:t.ops.length≤1000000):FnP prog 198 [.agg (rTx t)] (.sl ZY (ZaB t)):=by
 refine FnP.mk func198 Z ntmps198 Z fun B a w F V hfr O=>Ya ?_
 refine Zb O (qx 101 r1 (qC qZ)) V [2,1] [101,0] (fun _=>rfl) (fun _=>rfl) fun τ a w F O=>?_
 try dsimp only [RS.sub,SF.sub,CF.sub,csub,Anc.sub,List.map,zCF,Zs,rOp,rTx,ZY] at O
 generalize τ 1=v1 at O
 refine Za (Ya (rZ O (qC qZ) V [3,2,1] [101,0] fun O=>(Ya (Ya ?_))))
 refine rZ O (qg 2 101 r1 r1 (qa 101 r1 r1 (qu YbR r1 (qJ qZ)))) V [10,9,8,3,2,1] [101,0] fun O=>Ye ?_
 replace O:=O.fresh 50 rfl
 replace O:=O.turn 50 Z (ZaC (T:=146) (sz:=3) (R:=ZY))
 refine Zk (σ:=(Nat)×(Value)×(List ZcF)) [1,2,8,9] [0,101] (fun s=>[(10,.pv (.int .i64 (s.1:Int))),(3,.pv (.is s.2.1))]) (fun s=>[(50,.ob (.val s.2.1) (ZO 146 3 ZY s.2.2))]) (fun s=>s.1≤t.ops.length∧(s.2.2=Zc0 t.id (t.ops.take s.1))) (fun s=>t.ops.length - s.1) ((0),(.slice none 0 0),([])) O ⟨rfl,rfl,rfl,rfl,rfl,rfl,tv⟩ ⟨rfl,rfl,rfl,tv⟩ ⟨Yt _,rfl⟩ ?_
 clear O;intro s a w F hC O
 obtain ⟨i,v,out⟩:=s
 try dsimp only at hC
 obtain ⟨F,O⟩:=O.nM [10,9,8,3,2,1] [101,50,0]
 try dsimp only at O
 obtain ⟨hi,hq⟩:=hC
 have hol:out.length≤i:=by rw [hq];exact ZdU _ _ _
 have hst:=fun hil:i<t.ops.length=>ZgZ (id:=t.id) hil
 refine Ya (rZ O (qL r2) V [11,10,9,8,3,2,1] [101,50,0] fun O=>Ya ?_)
 refine Zc O Z (fun hc0=>?_) (fun hc0=>?_)
 ·have hil:i<t.ops.length:=by simp at hc0;omega
  refine Yd (Za (Ya (Ye (Ya (Zb O (qy 4 YbR r2 (qf (oR true 4 .t) r1 qz (qf (oH [.bool false,.int .i64 0,.int .i64 0,.int .i64 0] 102) trivial qz (qS 4 102 r2 r1 qZ)))) V [10,9,8,5,3,2,1] [102,101,50,0] (fun _=>rfl) (fun _=>rfl) fun τ a w F O=>?_)))))
  try dsimp only [RS.sub,SF.sub,CF.sub,csub,Anc.sub,List.map,Zd,xL,xM,Nat.reduceAdd,xD,xE,xT,xU,xC,xN,zCF,ldSF,Zs,rOp,rTx,ZY] at O
  generalize τ 5=v5 at O
  try simp only [Yg] at O
  refine Za (Ya (Zb O (qe 4 102 r1 r1 (qf (oP (Zpo (Nn t.ops i)) func253 (Args.one (.pagg .t))) r1 qz (qf (oH [.int .i64 0,.int .i64 0,.int .i64 0] 103) trivial qz (qf (oA 3 103 .same (.conv .t .agg)) r2 r1 qZ)))) V [10,9,8,6,5,3,2,1] [103,102,101,50,0] (fun _=>rfl) (fun _=>rfl) fun τ a w F O=>?_))
  try dsimp only [RS.sub,SF.sub,CF.sub,csub,Anc.sub,List.map,Zd,xL,xM,Nat.reduceAdd,xD,xE,xT,xU,xC,xN,zCF,ldSF,Zs,rOp,rTx,ZY] at O
  generalize τ 6=v6 at O
  refine Za (Ya (rZ O (qg 0 102 r1 r1 (qa 102 r1 r1 (qR rr (qv 2 102 Z r2 r1 (qw 102 Z r2 r1 (qk Z (fun h=>o_neq (.w h) qi) r2 qz (qf (ZJ .t .t) r2 qz (qR rr (qv 2 102 Z r2 r1 (qw 102 Z r2 r1 (qv 0 101 Z r2 r1 (qw 101 Z r2 r1 (qk Z (fun h=>o_neq (.w h) (.w h)) r3 qz (qf (ZJ .t .t) r2 qz (qR rr (qm Z Z Z Z (qk Z (fun h=>oL true 3 103 .is) r2 r1 (qk Z (fun h=>OpC.lendRow 50 [31] (oP (Zqr out (ofO (Nn t.ops i))) func254 (Args.two (.w h) (.pagg (.w h)))) ⟨rfl,tv,tv⟩ (.pv (fun _ _ _ _ h=>h)) trivial (by rfl)) r3 r1 (qk Z (fun h=>Z1 (.w h)) r2 qz (qf (ZJ .t .t) r2 qz qZ)))))))))))))))))))) V [35,10,9,8,6,3,2,1] [103,102,101,50,0] fun O=>?_))
  refine Zc O Z (fun hc1=>?_) (fun hc1=>?_)
  ·have hBq:(ZhQ t.id (Nn t.ops i)=true∧(ofO (Nn t.ops i)) ∉ Zc0 t.id (t.ops.take i)):=by rw [← hq];unfold ZhQ;simpa [YbL] using hc1
   refine Zb O (qR rr (qe 3 103 r1 r1 (qf (Zn (sz:=3) (zs:=[.int .i64 0,.int .i64 0,.int .i64 0]) (r:=[(0,.tmp 37)]) (l:=[_,_,_]) YbW kr kr kr kr Z Z (.agg Z .t kr kr .nil) Z) r1 qz (qf (o_append (sz:=3) (bs:=24) 50 (.mk' YbW kr kr) (by intro x;rfl) .is (.arr (l':=[_]) .t) (by simp only [Yc,Yl,Yq,Yk,YK];omega) (by decide)) ⟨rfl,rfl,tv⟩ ⟨rfl,tv⟩ (qO rr qZ))))) V [10,9,8,3,2,1] [103,102,101,50,0] (fun _=>rfl) (fun _=>rfl) fun τ a w F O=>?_
   try dsimp only [RS.sub,SF.sub,CF.sub,csub,Anc.sub,List.map,Zd,xL,xM,Nat.reduceAdd,xD,xE,xT,xU,xC,xN,zCF,ldSF,Zs,rOp,rTx,ZY] at O
   generalize τ 39=v39 at O
   refine Zi (Za (rZ O (qp r1 (qR rr qZ)) V [10,9,8,3,2,1] [103,102,101,50,0] fun O=>?_))
   replace O:=O.ent (i:=10) (s':=.pv (.int .i64 ((i+1:Nat):Int))) Z (.int (Ze ow))
   obtain ⟨F,O⟩:=O.nM [9,8,2,1,3,10] [101,0,50]
   exact ⟨((i+1),_,_),F,⟨by omega,(by rw [hst hil];unfold Za8;first | (rw [Yf hBq,← hq];done) | (rw [Yb hBq,← hq]))⟩,O,by omega⟩
  have hBq:¬ (ZhQ t.id (Nn t.ops i)=true∧(ofO (Nn t.ops i)) ∉ Zc0 t.id (t.ops.take i)):=by rw [← hq];unfold ZhQ;intro h9;have h8:=hc1;simp at h8 h9;simp [h9] at h8
  refine Yd (Zi (Za (rZ O (qp r1 (qR rr qZ)) V [10,9,8,3,2,1] [103,102,101,50,0] fun O=>?_)))
  replace O:=O.ent (i:=10) (s':=.pv (.int .i64 ((i+1:Nat):Int))) Z (.int (Ze ow))
  obtain ⟨F,O⟩:=O.nM [9,8,2,1,3,10] [101,0,50]
  exact ⟨((i+1),_,_),F,⟨by omega,(by rw [hst hil];unfold Za8;first | (rw [Yf hBq,← hq];done) | (rw [Yb hBq,← hq]))⟩,O,by omega⟩
 have hil:i=t.ops.length:=by simp at hc0;omega
 refine Ym (Zg (Zg (Zo (Za (Ya (rZ O (qR rr (qO rr qZ)) V [2] [101,50,0] fun O=>Yh ?_))))))
 obtain ⟨F,O⟩:=O.give 50 2 Z rfl
 refine ZB hfr O Z Z Z (.sl (by rw [hq,hil,YE];rfl))
theorem Zn8 (x y:List Int):FnP prog 93 [.sl Zs x,.sl Zs y] (.bool (decide (x=y))):=by
 refine FnP.mk func93 Z ntmps93 Z fun B a w F V hfr O=>?_
 have hxl:=Sat.lenSl O (i:=0) rfl
 refine Ya (rZ O qB V [4,1,0] [0] fun O=>(Ya (Ya ?_)))
 refine rZ O (qR rr (qu YbO r1 (qR rr (qu YbO r1 (qf (o_neq .t .t) r2 qz qZ))))) V [10,4,1,0] [0] fun O=>?_
 refine Zc O Z (fun hc0=>?_) (fun hc0=>?_)
 ·have hg:false=decide (x=y):=by
    rw [Y8,Yi]
    intro h
    subst h
    simp at hc0
  refine Ya (rZ O qB V [4,1,0] [0] fun O=>(Yh (Zf ?_)))
  refine ZB hfr O Z Z Z (.bool hg)
 have hl:x.length=y.length:=by simp at hc0;omega
 refine Yd (Za (Ya (Ya (rZ O (qR rr (qu YbO r1 (qJ qZ))) V [13,12,4,1,0] [0] fun O=>Ye ?_))))
 obtain ⟨F,O⟩:=O.nM [13,12,1,0] [0]
 refine Zbw (σ:=Nat) (fun s=>(⟨[(0,.pv (.sl Zs x)),(1,.pv (.sl Zs y)),(12,.pv (.int .i64 x.length)),(13,.pv (.int .i64 s))],[(0,frame B)]⟩:En)) (fun s=>s≤x.length ∧ ∀ j,j<s→Nn x j=Nn y j) (fun s=>x.length - s) 0 O ⟨Yt _,fun j hj=>absurd hj (YJ j)⟩ ?_
 clear O;intro i a w F hC O
 try dsimp only at hC
 try dsimp only at O
 obtain ⟨hi,hq⟩:=hC
 refine Ya (rZ O (qL r2) V [14,13,12,1,0] [0] fun O=>Ya ?_)
 refine Zc O Z (fun hc1=>?_) (fun hc1=>?_)
 ·have hil:i<x.length:=by simp at hc1;omega
  refine Yd (Za (Ya (Ye (Ya (rZ O (qR rr (qO rr qZ)) V [13,12,5,1,0] [0] fun O=>Ya ?_)))))
  refine Zu O (qR rr (qR rr (qy 1 YbO r2 (qf (oR false 1 .t) r1 qz (qR rr (qR rr (qy 1 YbO r2 (qf (oR false 1 .t) r1 qz (qf (o_neq .t .t) r2 qz qZ))))))))) V [24,13,12,1,0] [0] Z Z fun a w F O=>?_
  try dsimp only [List.map,xD,xE,xT,xU,ldSF] at O
  refine Za (Zc O Z (fun hc2=>?_) (fun hc2=>?_))
  ·have hg:false=decide (x=y):=by
     rw [Y8,Yi]
     intro h
     subst h
     simp at hc2
   refine Ya (rZ O qB V [13,12,4,1,0] [0] fun O=>(Yh (Zr (Zf (Zf (Zr (Zf ?_)))))))
   refine ZB hfr O Z Z Z (.bool hg)
  rw [Yg] at hc2
  have hqi:Nn x i=Nn y i:=by simpa using hc2
  refine Yd (Zi (Za (rZ O (qp r1 (qR rr qZ)) V [13,12,1,0] [0] fun O=>?_)))
  replace O:=O.ent (i:=13) (s':=.pv (.int .i64 ((i+1:Nat):Int))) Z (.int (Ze ow))
  obtain ⟨F,O⟩:=O.nM [13,12,1,0] [0]
  exact ⟨i+1,F,⟨by omega,fun j hj=>by rcases Yy (YD hj) with h | h;exact hq j h;rw [h];exact hqi⟩,O,by omega⟩
 have hg:true=decide (x=y):=by
   rw [Y8,Yj]
   exact ZaS hl fun j hj=>hq j (by simp at hc1;omega)
 refine Ym (Zg (Zg (Zo (Za (Ya (rZ O qB V [4] [0] fun O=>Yh ?_))))))
 refine ZB hfr O Z Z Z (.bool hg)
theorem ZrX (x y:List Int):FnP prog 143 [.sl Zs x,.sl Zs y] (.bool (decide (x=y))):=by
 refine FnP.mk func143 Z ntmps143 Z fun B a w F V hfr O=>Ya ?_
 refine rZ O qB V [4,1,0] [0] fun O=>Ya ?_
 refine rZ O (qR rr (qR rr (qf (oP (Zn8 x y) func93 (Args.two .t .t)) r2 qz (qO rr qZ)))) V [4] [0] fun O=>Yh ?_
 refine ZB hfr O Z Z Z .refl
theorem Zts (x y:List Int) (hx:x.length≤1000000) (hy:y.length≤1000000):FnP prog 37 [.sl Zs x,.sl Zs y] (.bool (decide (x.Perm y))):=by
 refine FnP.mk func37 Z ntmps37 Z fun B a w F V hfr O=>Ya ?_
 refine rZ O qB V [4,1,0] [0] fun O=>Ya ?_
 replace O:=O.fresh 101 rfl
 replace O:=O.fresh 102 rfl
 refine Zb O (qR rr (qf (Zc3 101 (ZlG x hx) func91 Z kr (Args.one .t) Zf1) r1 r1 (qR rr (qf (Zc3 102 (ZlG y hy) func91 Z kr (Args.one .t) Zf1) r1 r1 (qO rr (qO rr qZ)))))) V [6,5,4] [102,101,0] (fun _=>rfl) (fun _=>rfl) fun τ a w F O=>?_
 try dsimp only [RS.sub,SF.sub,CF.sub,csub,Anc.sub,List.map,Zs] at O
 generalize τ 8=v8,τ 10=v10 at O
 refine Za (Ya (rZ O (qR rr (qf (ZW 101 (Zmq _ x hx) func92 Z kr (Args.one .t)) r1 r1 qZ)) V [6,5,4] [102,101,0] fun O=>Ya ?_))
 refine rZ O (qR rr (qf (ZW 102 (Zmq _ y hy) func92 Z kr (Args.one .t)) r1 r1 qZ)) V [6,5,4] [102,101,0] fun O=>Ya ?_
 refine rZ O (qR rr (qR rr (qf (OpC.lendRow 102 [16] (OpC.lendRow 101 [15] (oP (Zn8 _ _) func93 (Args.two .t .t)) ⟨rfl,tv,tv⟩ (.pv (fun _ _ _ _ h=>h)) trivial (by rfl)) ⟨tv,rfl,tv⟩ (.pv (fun _ _ _ _ h=>h)) trivial (by rfl)) r2 r2 (qO rr qZ)))) V [4] [102,101,0] fun O=>Yh ?_
 refine ZB hfr O Z Z Z (.bool (by rw [decide_eq_decide];exact ZnX))
theorem Zsr {u v:OrdD} : (decide (u.key=v.key) && decide (u.txs=v.txs))=decide (u=v):=by
 cases u;cases v
 rw [Y6]
 simp
def zeroT:TxD:=⟨0,false,[]⟩
def ZaW (l:List TxD):Prop:=l.length≤1000 ∧ ∀ t ∈ l,t.ops.length≤1000
def ZbG (l:List OrdD):Prop:=l.length≤1000 ∧ ∀ o ∈ l,o.txs.length≤1000
def Zbb (h:Zx):Prop:=ZaW h.txs∧ZbG h.orders
theorem ZaW.at {l:List TxD} (h:ZaW l) {i:Nat} (hi:i<l.length):(Nn l i).ops.length≤1000:=h.2 _ (ZU hi)
theorem ZbG.at {l:List OrdD} (h:ZbG l) {i:Nat} (hi:i<l.length):(Nn l i).txs.length≤1000:=h.2 _ (ZU hi)
def Zbk (l:List TxD) (id:Int):Option TxD:=l.find? fun t=>decide (t.id=id)
theorem ZmZ {l:List TxD} {id:Int} {i:Nat} (hi:i<l.length) (h:(Nn l i).id=id) (hq:∀ k,k<i→(Nn l k).id≠id):Zbk l id=some (Nn l i):=by
 unfold Zbk
 rw [List.find?_eq_some_iff_getElem]
 refine ⟨by simpa using h,i,hi,(Zy hi).symm,fun j hj=>?_⟩
 have:=hq j hj
 rw [Zy ow] at this
 simpa using this
theorem Ziq {l:List TxD} {id:Int} (hq:∀ k,k<l.length→(Nn l k).id≠id):Zbk l id=none:=by
 unfold Zbk
 rw [YaS]
 intro x hx
 obtain ⟨k,hk,e⟩:=YH hx
 have:=hq k hk
 rw [Zy hk,e] at this
 simpa using this
theorem findT_mem {l:List TxD} {id:Int} {t:TxD} (h:Zbk l id=some t):t ∈ l∧t.id=id:=⟨Ybd h,by have:=List.find?_some h;simpa using this⟩
def Zgc (h:Zx) (v:ZcF):Bool:=if v.tx=0∧v.nth=0 then decide (1≤v.key∧v.key≤1048575) else (Zbk h.txs v.tx).isSome && (decide (1≤v.nth) && decide (v.nth≤(wcnt ((Zbk h.txs v.tx).getD zeroT).ops v.key:Int)))
def Za3 (h:Zx) (t:TxD):Bool:=(ZaB t).all (Zgc h)
theorem Zlx {h:Zx} {t:TxD} (hq:∀ k,k<(ZaB t).length→Zgc h (Nn (ZaB t) k)=true):Za3 h t=true:=by
 unfold Za3
 rw [Yau]
 intro x hx
 obtain ⟨k,hk,e⟩:=YH hx
 have:=hq k hk
 rwa [Zy hk,e] at this
theorem ZjL {h:Zx} {t:TxD} {i:Nat} (hi:i<(ZaB t).length) (hn:Zgc h (Nn (ZaB t) i)=false):Za3 h t=false:=by
 unfold Za3
 rw [List.all_eq_false]
 exact ⟨_,ZU hi,by simp [hn]⟩
def Zah (t:TxD):List Int:=Zbu ((t.ops.filter fun o=>!o.read).map OpD.key)
theorem Zc2 {t:TxD} {k:Int} : k ∈ Zah t ↔ 0<wcnt t.ops k:=by
 unfold Zah
 rw [(Zbd _).2,YC]
 unfold wcnt
 rw [List.length_pos_iff_exists_mem]
 constructor
 ·rintro ⟨o,ho,e⟩
  rw [YT] at ho
  exact ⟨o,by rw [YT];exact ⟨ho.1,by simp [e];simpa using ho.2⟩⟩
 ·rintro ⟨o,ho⟩
  rw [YT] at ho
  simp at ho
  exact ⟨o,by rw [YT];simp [ho.1,ho.2.1],ho.2.2⟩
theorem ZdD (t:TxD):(Zah t).length≤t.ops.length:=YW (ZeP _) (by rw [YP];exact YR _ _)
def Zad (l:List TxD) (k:Int):List Int:=(l.filter fun t=>t.done && decide (0<wcnt t.ops k)).map TxD.id
theorem Zb0 (l:List TxD) (k:Int):(Zad l k).length≤l.length:=by unfold Zad;rw [YP];exact YR _ _
theorem Zcd {l:List TxD} {i:Nat} (hi:i<l.length) (k:Int):Zad (l.take (i+1)) k=Zad (l.take i) k++if (Nn l i).done=true∧0<wcnt (Nn l i).ops k then [(Nn l i).id] else []:=by
 unfold Zad
 rw [ZQ hi,Y3,YZ]
 congr 1
 by_cases h:(Nn l i).done=true∧0<wcnt (Nn l i).ops k
 ·rw [Yf h,Y9 (by simp [h.1,h.2])];rfl
 ·rw [Yb h,Yaa (by simp;intro e;exact Nat.eq_zero_of_not_pos fun e2=>h ⟨e,e2⟩)];rfl
def ZaY (l:List TxD):List Int:=Zbu ((l.filter fun t=>t.done).flatMap Zah)
theorem ZhW {l:List TxD} {i:Nat} (hi:i<l.length):ZaY (l.take (i+1))=if (Nn l i).done=true then (Zah (Nn l i)).foldl Zdi (ZaY (l.take i)) else ZaY (l.take i):=by
 unfold ZaY
 rw [ZQ hi,Y3,Ya6]
 split
 ·rename_i h
  rw [Y9 (by simpa using h)]
  unfold Zbu
  rw [YaO]
  simp
 ·rename_i h
  rw [Yaa (by simpa using h)]
  simp
theorem ZlK {l:List TxD} (h:ZaW l) (i:Nat):(ZaY (l.take i)).length≤1000*i:=by
 unfold ZaY
 refine YW (ZeP _) ?_
 have key:∀ l:List TxD,(∀ t ∈ l,t.ops.length≤1000)→((l.filter fun t=>t.done).flatMap Zah).length≤1000*l.length:=by
  intro l
  induction l with
  | nil=>intro _;simp
  | cons t l ih=>
   intro h
   have h1:=ih fun x hx=>h x (by simp [hx])
   have h2:=h t (by simp)
   have h3:=ZdD t
   by_cases hd:t.done=true
   ·rw [Y9 (by simpa using hd),YaE,Yc,Yl]
    omega
   ·rw [Yaa (by simpa using hd),Yl]
    omega
 have h1:=key (l.take i) fun t ht=>h.2 t (Yat ht)
 have h2:(l.take i).length≤i:=by rw [Yk];omega
 exact YW h1 (Nat.mul_le_mul_left _ h2)
theorem ZjV {l:List TxD} (h:ZaW l):(ZaY l).length≤1000000:=by
 have h1:=ZlK h l.length
 rw [YE] at h1
 have:=h.1
 omega
theorem Zfm (a:List Int):∀ b:List Int,(b.foldl Zdi a).length≤a.length+b.length:=by
 intro b
 induction b generalizing a with
 | nil=>simp
 | cons x b ih=>
  have h1:=ih (Zdi a x)
  have h2:(Zdi a x).length≤a.length+1:=ZeS a false
  rw [Yaw,Yl];omega
theorem ZdI {l:List TxD} {k:Int} : k ∈ ZaY l ↔ Zad l k≠[]:=by
 unfold ZaY
 rw [(Zbd _).2,List.mem_flatMap]
 unfold Zad
 rw [ne_eq,List.map_eq_nil_iff,List.filter_eq_nil_iff]
 constructor
 ·rintro ⟨t,ht,hk⟩ hn
  rw [YT] at ht
  have:=hn t ht.1
  simp [ht.2] at this
  have:=Zc2.1 hk
  simp_all
 ·intro hn
  simp only [Classical.not_forall] at hn
  obtain ⟨t,ht,h2⟩:=hn
  simp at h2
  exact ⟨t,by rw [YT];exact ⟨ht,by simpa using h2.1⟩,Zc2.2 (Nat.pos_of_ne_zero h2.2)⟩
def ZmI (h:Zx) (i:Nat):Prop:=(0<i→(Nn h.txs (i - 1)).id<(Nn h.txs i).id)∧Zaf (Nn h.txs i)=0∧Za3 h (Nn h.txs i)=true
instance (h:Zx) (i:Nat):Decidable (ZmI h i):=by unfold ZmI;exact inferInstance
def ZiC (h:Zx) (i:Nat):Prop:=(Nn h.orders i).key=Nn (ZaY h.txs) i∧(Nn h.orders i).txs.Perm (Zad h.txs (Nn h.orders i).key)
instance (h:Zx) (i:Nat):Decidable (ZiC h i):=by unfold ZiC;exact inferInstance
def ZG (h:Zx):Prop:=h.txs.length≤4096∧(∀ i,i<h.txs.length→ZmI h i)∧h.orders.length=(ZaY h.txs).length ∧ ∀ i,i<h.orders.length→ZiC h i
instance (h:Zx):Decidable (ZG h):=by unfold ZG;exact inferInstance
def ZgC (h:Zx) (i:Nat):Prop:=(0<i→(Nn h.orders (i - 1)).key<(Nn h.orders i).key)∧(Nn h.orders i).txs≠[]∧(Nn h.orders i).txs.Perm (Zad h.txs (Nn h.orders i).key)
theorem Zjj:∀ {l:List Int},(∀ i,i<l.length→0<i→Nn l (i - 1)<Nn l i)→Zjt l
 | [],_=>List.Pairwise.nil
 | [x],_=>by simp
 | x :: y :: l,h=>by
  have ih:=Zjj (l:=y :: l) fun i hi h0=>by
   have:=h (i+1) (by simpa using hi) ow
   obtain ⟨j,rfl⟩:∃ j,i=j+1:=⟨i - 1,by omega⟩
   have hj:j<l.length:=by simpa using hi
   rw [Zy (l:=x :: y :: l) (by simp;omega),Zy (l:=x :: y :: l) (by simp;omega)] at this
   rw [Zy (l:=y :: l) (by simp;omega),Zy (l:=y :: l) (by simp;omega)]
   exact this
  have h1:=h 1 (by simp) ow
  rw [Zy (by simp),Zy (by simp)] at h1
  simp at h1
  have ih2:=Yx.1 ih
  refine Yx.2 ⟨fun z hz=>?_,ih⟩
  rcases Yo.1 hz with rfl | hz
  ·exact h1
  ·have:=ih2.1 z hz;omega
theorem ZrW {l:List Int} (h:Zjt l) {i:Nat} (hi:i<l.length) (h0:0<i):Nn l (i - 1)<Nn l i:=by
 rw [Zy hi,Zy ow]
 exact Y2.1 h (i - 1) i ow hi ow
theorem ZkW:∀ {b a:List Int},Zjt a→Zjt b→(∀ x ∈ a,x ∈ b)→a.length≤b.length∧(a.length=b.length→a=b)
 | [],a,_,_,h=>by
  have:a = []:=List.eq_nil_iff_forall_not_mem.2 fun x hx=>by cases h x hx
  subst this;simp
 | y :: b,[],_,_,_=>⟨by simp,fun h=>by simp at h⟩
 | y :: b,x :: a,ha,hb,h=>by
  have ha':=Yx.1 ha
  have hb':=Yx.1 hb
  by_cases e:x=y
  ·subst e
   have ih:=ZkW (b:=b) (a:=a) ha'.2 hb'.2 fun z hz=>by
    rcases Yo.1 (h z (by simp [hz])) with e | e
    ·have:=ha'.1 z hz;omega
    ·exact e
   exact ⟨by simp;exact ih.1,fun hl=>by rw [ih.2 (by simpa using hl)]⟩
  ·have hx:y<x:=by
    rcases Yo.1 (h x (by simp)) with e2 | e2
    ·exact absurd e2 e
    ·exact hb'.1 x e2
   have ih:=ZkW (b:=b) (a:=x :: a) ha hb'.2 fun z hz=>by
    rcases Yo.1 (h z hz) with e2 | e2
    ·rcases Yo.1 hz with e3 | e3
     ·omega
     ·have:=ha'.1 z e3;omega
    ·exact e2
   exact ⟨by have:=ih.1;simp at this ⊢;omega,fun hl=>by have:=ih.1;simp at this hl;omega⟩
theorem Zdz {α β:Type} [Inhabited α] [Inhabited β] {f:α→β} {l:List α} {i:Nat} (h:i<l.length):Nn (l.map f) i=f (Nn l i):=by
 rw [Zy (by simpa using h),Zy h];simp
theorem Zdb (h:Zx):(h.orders.length=(ZaY h.txs).length ∧ ∀ i,i<h.orders.length→ZgC h i) ↔ (h.orders.length=(ZaY h.txs).length ∧ ∀ i,i<h.orders.length→ZiC h i):=by
 have hK:Zjt (ZaY h.txs):=(Zbd _).1
 constructor
 ·rintro ⟨hl,hq⟩
  refine ⟨hl,?_⟩
  have hO:Zjt (h.orders.map OrdD.key):=Zjj fun i hi h0=>by
   have hi':i<h.orders.length:=by simpa using hi
   rw [Zdz ow,Zdz hi']
   exact (hq i hi').1 h0
  have hsub:∀ x ∈ h.orders.map OrdD.key,x ∈ ZaY h.txs:=fun x hx=>by
   obtain ⟨o,ho,rfl⟩:=YC.1 hx
   obtain ⟨k,hk,e⟩:=YH ho
   have:=hq k hk
   unfold ZgC at this
   rw [Zy hk,e] at this
   rw [ZdI]
   intro e2
   rw [e2] at this
   exact this.2.1 (List.Perm.eq_nil this.2.2)
  have he:=(ZkW hO hK hsub).2 (by simpa using hl)
  intro i hi
  refine ⟨?_,(hq i hi).2.2⟩
  rw [← he,Zdz hi]
 ·rintro ⟨hl,hq⟩
  refine ⟨hl,fun i hi=>?_⟩
  have hin:(Nn h.orders i).key ∈ ZaY h.txs:=by rw [(hq i hi).1];exact ZU ow
  refine ⟨fun h0=>?_,fun e=>?_,(hq i hi).2⟩
  ·rw [(hq i hi).1,(hq (i - 1) ow).1]
   exact ZrW hK ow h0
  ·have:=(hq i hi).2
   rw [e] at this
   exact ZdI.1 hin this.symm.eq_nil
theorem Zeg {h:Zx} (hb:4096<h.txs.length):false=decide (ZG h):=(Yu fun hr=>by have:=hr.1;omega).symm
theorem ZfZ {h:Zx} {i:Nat} (hi:i<h.txs.length) (hb:¬ ZmI h i):false=decide (ZG h):=(Yu fun hr=>hb (hr.2.1 i hi)).symm
theorem ZeD {h:Zx} (hb:h.orders.length≠(ZaY h.txs).length):false=decide (ZG h):=(Yu fun hr=>hb hr.2.2.1).symm
theorem ZiL {h:Zx} {i:Nat} (hi:i<h.orders.length) (hb:¬ ZiC h i):false=decide (ZG h):=(Yu fun hr=>hb (hr.2.2.2 i hi)).symm
theorem ZhP {h:Zx} {i:Nat} (hi:i<h.orders.length) (hb:¬ ZgC h i):false=decide (ZG h):=(Yu fun hr=>hb (((Zdb h).2 hr.2.2).2 i hi)).symm
theorem ZnL {h:Zx} (h1:h.txs.length≤4096) (h2:∀ i,i<h.txs.length→ZmI h i) (h3:h.orders.length=(ZaY h.txs).length) (h4:∀ i,i<h.orders.length→ZiC h i):true=decide (ZG h):=(YI ⟨h1,h2,h3,h4⟩).symm
theorem Zlc {h:Zx} (h1:h.txs.length≤4096) (h2:∀ i,i<h.txs.length→ZmI h i) (h3:h.orders.length=(ZaY h.txs).length) (h4:∀ i,i<h.orders.length→ZgC h i):true=decide (ZG h):=(YI ⟨h1,h2,(Zdb h).1 ⟨h3,h4⟩⟩).symm
def Zr5 (l:List Int):Option (List Int):=if l = [] then none else some l
theorem ZlO (l:List Int):(Zr5 l).getD [] = l:=by
 unfold Zr5
 split
 ·rename_i h;rw [h];rfl
 ·rfl
def WrL (es:List (GE Int (List Int))) (l:List TxD):Prop:=GNd es ∧ ∀ k,gGet k es=Zr5 (Zad l k)
def WrV (es:List (GE Int (Value×List Int))) (l:List TxD) (id:Int) (ks:List Int):Prop:=GNd es ∧ ∀ k,(gGet k es).map (·.2)=Zr5 (Zad l k++if k ∈ ks then [id] else [])
theorem Zr1 {id:Int} : WrV [] [] id []:=⟨by simp [GNd],fun k=>by simp [gGet,Zad,Zr5]⟩
theorem Zrb {es:List (GE Int (Value×List Int))} {l:List TxD} {id:Int} (h:WrV es l id []):WrL (ZfV es) l:=⟨by unfold GNd;rw [Zk5];exact h.1,fun k=>by rw [ZhS,h.2];simp⟩
theorem ZqG {es:List (GE Int (Value×List Int))} {l:List TxD} {id id':Int} (h:WrV es l id []):WrV es l id' []:=⟨h.1,fun k=>by rw [h.2];simp⟩
theorem Zso {es:List (GE Int (Value×List Int))} {l:List TxD} {i:Nat} {id:Int} (h:WrV es (l.take i) id []) (hi:i<l.length) (hd:(Nn l i).done=false):WrV es (l.take (i+1)) id []:=⟨h.1,fun k=>by rw [h.2,Zcd hi];simp [hd]⟩
theorem ZrY {es:List (GE Int (Value×List Int))} {l:List TxD} {i:Nat} {id:Int} (h:WrV es (l.take i) (Nn l i).id (Zah (Nn l i))) (hi:i<l.length) (hd:(Nn l i).done=true):WrV es (l.take (i+1)) id []:=⟨h.1,fun k=>by
 rw [h.2,Zcd hi]
 congr 1
 simp only [YaC,Yr,YF]
 congr 1
 by_cases hk:k ∈ Zah (Nn l i)
 ·rw [Yf hk,Yf ⟨hd,Zc2.1 hk⟩]
 ·rw [Yb hk,Yb fun h9=>hk (Zc2.2 h9.2)]⟩
theorem Zrw {es:List (GE Int (Value×List Int))} {l:List TxD} {id:Int} {ks:List Int} {j:Nat} (h:WrV es l id (ks.take j)) (hn:ks.Nodup) (hj:j<ks.length):((gGet (Nn ks j) es).getD ZiZ).2=Zad l (Nn ks j):=by
 have h1:=h.2 (Nn ks j)
 have hni:Nn ks j ∉ ks.take j:=fun hm=>by
  rw [Zy hj] at hm
  obtain ⟨k,hk,e⟩:=YH hm
  rw [Yk] at hk
  rw [Ybh] at e
  have h3:=Y2.1 hn k j ow hj ow
  exact h3 e
 rw [Yb hni,YF] at h1
 have h2:=ZlO (Zad l (Nn ks j))
 rw [← h1] at h2
 rw [← h2]
 cases gGet (Nn ks j) es <;> rfl
theorem Zr0 {es:List (GE Int (Value×List Int))} {l:List TxD} {id:Int} {ks:List Int} {j ck:Nat} {v:Value} (h:WrV es l id (ks.take j)) (hn:ks.Nodup) (hj:j<ks.length):WrV (gPut (Nn ks j) (v,((gGet (Nn ks j) es).getD ZiZ).2 ++ [id]) (es,ck)).1 l id (ks.take (j+1)):=⟨GNd.put h.1,fun k=>by
 rw [ZeC,Zrw h hn hj,ZQ hj]
 by_cases e:k=Nn ks j
 ·subst e
  rw [Yf rfl,Yf (by simp)]
  simp [Zr5]
 ·rw [Yb e,h.2]
  simp [e]⟩
theorem ZsT {es:List (GE Int (List Int))} {l:List TxD} (h:WrL es l) (k:Int):(gGet k es).getD [] = Zad l k:=by rw [h.2,ZlO]
theorem Ztv {es:List (GE Int (List Int))} {l:List TxD} (h:WrL es l):es.length=(ZaY l).length:=by
 have h1:(es.map (·.key)).Perm (ZaY l):=by
  refine (List.perm_ext_iff_of_nodup h.1 ((Zbd _).1.imp fun h=>Int.ne_of_lt h)).2 fun k=>?_
  rw [← Zc7,h.2,show (k ∈ Zbu ((l.filter fun t=>t.done).flatMap Zah)) ↔ Zad l k≠[] from ZdI]
  unfold Zr5
  split <;> simp_all
 simpa using h1.length_eq
theorem ZgU (t:TxD):(Zah t).Nodup:=(Zbd _).1.imp fun h=>Int.ne_of_lt h
theorem Zs1 {α:Type} {R:α→List PV} {w:World} {y:Ys} : (PV.sl R ([]:List α)).p (.slice none 0 0) w y:=⟨none,0,rfl,YA _,by unfold maxLen;omega,.inl rfl⟩
def Zdl (x y:Int):Int:=if x<y then -1 else if y<x then 1 else 0
theorem Zba {x y:Int} : Zdl x y<0 ↔ x<y:=by unfold Zdl;split <;> (try split) <;> omega
theorem ZtS {x:Int} (h:0≤x∧x≤18446744073709551615):IntKind.wrap .u64 x=x:=Zi8 ⟨by simp [IntKind.min,IntKind.signed,IntKind.bits];omega,by simp [IntKind.max,IntKind.signed,IntKind.bits];omega⟩
theorem Zdr {i j:Nat} (h:i+j≤2000000):IntKind.wrap .i64 ((IntKind.wrap .u64 (IntKind.wrap .i64 ((i:Int)+(j:Int)))).fdiv (2 ^ min (1:Int).toNat (IntKind.bits .u64)))=(((i+j) / 2:Nat):Int):=by
 rw [Zj (x:=(i:Int)+(j:Int)) ow,ZtS ow,show (2:Int) ^ min (1:Int).toNat (IntKind.bits .u64)=2 by decide,Int.fdiv_eq_ediv_of_nonneg _ (by decide),Zj ow]
 omega
def ZeA {α:Type} [Inhabited α] (κ:α→Int) (l:List α):Prop:=∀ a b,a<b→b<l.length→κ (Nn l a)<κ (Nn l b)
def lowK {α:Type} (κ:α→Int) (k:Int) (l:List α):Nat:=(l.takeWhile fun x=>decide (κ x<k)).length
def isK {α:Type} (κ:α→Int) (k:Int) (l:List α):Bool:=l.any fun x=>decide (κ x=k)
theorem Zph {α:Type} [Inhabited α] {κ:α→Int} {k:Int} : ∀ {l:List α} {i:Nat},i≤l.length→(∀ q,q<i→κ (Nn l q)<k)→(∀ q,i≤q→q<l.length→k≤κ (Nn l q))→lowK κ k l=i
 | [],i,hi,_,_=>by simp at hi;subst hi;rfl
 | x :: l,0,_,_,h2=>by
  have:=h2 0 (YA _) (by simp)
  rw [Zy (by simp)] at this
  unfold lowK
  rw [List.takeWhile_cons_of_neg (by simpa using this)];rfl
 | x :: l,i+1,hi,h1,h2=>by
  have hx:=h1 0 ow
  rw [Zy (by simp)] at hx
  have ih:=Zph (κ:=κ) (k:=k) (l:=l) (i:=i) (by simpa using hi) (fun q hq=>by
   have:=h1 (q+1) ow
   rw [Zy (by simp at hi ⊢;omega)] at this
   rw [Zy (by simp at hi;omega)];simpa using this) (fun q hq hq2=>by
   have:=h2 (q+1) ow (by simp;omega)
   rw [Zy (by simp;omega)] at this
   rw [Zy hq2];simpa using this)
  unfold lowK at ih ⊢
  rw [List.takeWhile_cons_of_pos (by simpa using hx),Yl,ih]
theorem Zr3 {α:Type} [Inhabited α] {κ:α→Int} {l:List α} (hs:ZeA κ l) {a b:Nat} (h:a≤b) (hb:b<l.length):κ (Nn l a)≤κ (Nn l b):=by
 rcases Yy h with h | h
 ·exact Ybr (hs a b h hb)
 ·subst h;exact Yar _
theorem ZlY (x:Int):FnP prog 175 [.int .i64 x] (.bool false):=by
 refine FnP.mk func175 Z ntmps175 Z fun B a w F V hfr O=>Ya ?_
 refine rZ O qB V [2,0] [0] fun O=>Ya ?_
 refine rZ O (qR rr (qR rr (qf (o_neq .t .t) r2 qz (qO rr qZ)))) V [2] [0] fun O=>Yh ?_
 refine ZB hfr O Z Z Z (.bool (by simp))
theorem ZrA (x y:Int):FnP prog 108 [.int .i64 x,.int .i64 y] (.int .i64 (Zdl x y)):=by
 refine FnP.mk func108 Z ntmps108 Z fun B a w F V hfr O=>Ya ?_
 refine rZ O (qI qZ) V [4,1,0] [0] fun O=>Ya ?_
 refine rZ O (qR rr (qf (oP (ZlY x) func175 (Args.one .t)) r1 qz (qO rr qZ))) V [5,4,1,0] [0] fun O=>Ya ?_
 refine rZ O (qR rr (qf (oP (ZlY y) func175 (Args.one .t)) r1 qz (qO rr qZ))) V [6,5,4,1,0] [0] fun O=>(Ya (Ya ?_))
 refine rZ O (qR rr qZ) V [11,6,4,1,0] [0] fun O=>?_
 refine Zc O Z (fun hc0=>?_) (fun hc0=>?_)
 ·simp at hc0
 refine Yd (Za (Ya (Ya (rZ O (qR rr qZ) V [13,4,1,0] [0] fun O=>?_))))
 refine Zc O Z (fun hc1=>?_) (fun hc1=>?_)
 ·simp at hc1
 refine Yd (Za (Ya (Ya (rZ O (qR rr (qR rr (qL r2))) V [16,4,1,0] [0] fun O=>?_))))
 refine Zc O Z (fun hc2=>?_) (fun hc2=>?_)
 ·have hg:(-1:Int)=Zdl x y:=by unfold Zdl;rw [Yf (by simpa using hc2)]
  refine Ya (rZ O (qI qZ) V [4,1,0] [0] fun O=>(Yh (Zf ?_)))
  refine ZB hfr O Z Z Z (.int hg)
 have h1:¬ x<y:=by simpa using hc2
 refine Yd (Za (Ya (Ya (rZ O (qR rr (qR rr (qf (Zal .t .t) r2 qz qZ))) V [19,4] [0] fun O=>?_))))
 refine Zc O Z (fun hc3=>?_) (fun hc3=>?_)
 ·have hg:(1:Int)=Zdl x y:=by unfold Zdl;rw [Yb h1,Yf (by simpa using hc3)]
  refine Ya (rZ O (qI qZ) V [4] [0] fun O=>(Yh (Zf ?_)))
  refine ZB hfr O Z Z Z (.int hg)
 have hg:(0:Int)=Zdl x y:=by unfold Zdl;rw [Yb h1,Yb (by simpa using hc3)]
 refine Yd (Za (Ya (rZ O (qI qZ) V [4] [0] fun O=>Yh ?_)))
 refine ZB hfr O Z Z Z (.int hg)
end Go.Proofs.YtfecljadegkmdaaGreat
