/- Laws and walks. No condition beyond what each says. -/
import Derived.Test.YtfecljadegkmdaaGreatJ0
import Derived.Shelf.Sort.Plain
import Derived.Shelf.Slices.In.SortNone
import Derived.Test.YtfecljadegkmdaaGreatLibE
namespace Go.Proofs.YtfecljadegkmdaaGreat
open Go Go.Gm Tryz
set_option linter.unusedVariables false
set_option linter.unusedSimpArgs false
set_option maxHeartbeats 4000000
set_option maxRecDepth 8000
theorem ZpH (o:Option Nat):FnP prog 124 [.is (arV o)] (.agg [.is (arV o),.int .i64 0]):=by
 refine FnP.mk func124 Z ntmps124 Z fun B a w F V hfr O=>Ya ?_
 refine rS O (qf (oH [.pointer none,.int .i64 0] 101) trivial qz qZ) V Ju QK fun τ O=>?_
 have O:=Xc
 generalize τ 2=v2 at O
 refine Za (Ya (rZ O (qR rr (qf (oB [(0,.tmp 3)] [.pointer none,.int .i64 0] [(0,1),(1,1)] (.one Z .t Ziw kr .nil)) r1 qz (qs 2 101 r2 r1 qZ))) V [2] QK fun O=>Yh ?_))
 refine ZU hfr O Z (.cl 101 true 2 Z Z .nil) (.one (.aggU Z Z))
def ZqR (th:Bool) (q:List Cell) (m:St):St:=if th=true then Zdh q.length m else (q,1,0)
def kp (x:Int):ZD:=⟨0,x⟩
def allQ (room:Int):Nat→List Cell→Int→List Int→St
 | 0,q,why,_=>(q,why,0)
 | n+1,q,why,l=>if l = [] then (q,why,0) else
  madeS room (allQ room n (allQ room n q why (l.take (l.length / 2))).1 (allQ room n q why (l.take (l.length / 2))).2.1 (l.drop (l.length / 2+1))).1 (allQ room n (allQ room n q why (l.take (l.length / 2))).1 (allQ room n q why (l.take (l.length / 2))).2.1 (l.drop (l.length / 2+1))).2.1 (allQ room n q why (l.take (l.length / 2))).2.2 (allQ room n (allQ room n q why (l.take (l.length / 2))).1 (allQ room n q why (l.take (l.length / 2))).2.1 (l.drop (l.length / 2+1))).2.2 ⟨0,Nn l (l.length / 2)⟩
theorem Zt7 {l:List Int} {i:Nat} (h:i<l.length):Nn (l.map kp) i = ⟨0,Nn l i⟩:=by rw [Zu (by simpa using h),Zu h,Yaq];rfl
theorem ZqG (room:Int):∀ (n:Nat) (q:List Cell) (why:Int) (l:List Int),allQ room n q why l=allS room n q why (l.map kp)
 | 0,q,why,l=>rfl
 | n+1,q,why,l=>by
  unfold allQ allS
  by_cases h:l = []
  ·rw [Yg h,Yg (by rw [h];rfl)]
  ·have hp:0<l.length:=Yaz.2 h
   rw [Yb h,Yb W4,YO,← List.map_take,← List.map_drop,Zt7 ow]
   simp only [ZqG room n]
theorem shr1 (l:List Int):Int.fdiv (l.length:Int) (2 ^ min (1:Int).toNat (IntKind.bits .i64))=((l.length / 2:Nat):Int):=by
 have:min (1:Int).toNat (IntKind.bits .i64)=1:=by decide
 rw [this,Int.fdiv_eq_ediv_of_nonneg _ We]
 omega
theorem sall_s (b:Nat) (o:Option Nat) (root why room:Int) (q:List Cell) (n:Nat) (ih:∀ (q:List Cell) (why:Int) (l:List Int),l.length<n→FnG prog 127 1 [.is (.pointer (some ⟨b,0,none⟩)),.sl Zo l] [ZaE 247 (.pointer (some ⟨b,0,none⟩)) o root why room q] (.int .i64 (allQ room n q why l).2.2) (fun _=>[ZaE 247 (.pointer (some ⟨b,0,none⟩)) o root (allQ room n q why l).2.1 room (allQ room n q why l).1])) (l:List Int) (hl:l.length<n+1):FnG prog 127 1 [.is (.pointer (some ⟨b,0,none⟩)),.sl Zo l] [ZaE 247 (.pointer (some ⟨b,0,none⟩)) o root why room q] (.int .i64 (allQ room (n+1) q why l).2.2) (fun _=>[ZaE 247 (.pointer (some ⟨b,0,none⟩)) o root (allQ room (n+1) q why l).2.1 room (allQ room (n+1) q why l).1]):=by
 refine FnG.mk func127 Z ntmps127 Z kr fun B F0 a w F V hG O=>?_
 have hll:=Sat.lenSl O (i:=1) rfl
 refine Ya (rZ O (qI qZ) V J0 QL fun O=>(Ya (Ya ?_)))
 refine rZ O (qR rr (qu YbT r1 (qf (o_eql .t qi) r1 qz qZ))) V [9,4,1,0] QL fun O=>?_
 refine Zb O Z (fun hc0=>?_) (fun hc0=>?_)
 ·have hz:l = []:=YX (by simp only [Yj] at hc0;omega)
  have hg:(allQ room (n+1) q why l)=(q,why,0):=Yg hz
  refine Ya (rZ O (qI qZ) V J0 QL fun O=>(Yh (Zd ?_)))
  have O:=O.turn 1 Z (r':=RS.hp (ZaE 247 (.pointer (some ⟨b,0,none⟩)) o root (allQ room (n+1) q why l).2.1 room (allQ room (n+1) q why l).1)) (fun _ _ _ _ h=>by rw [hg];exact h)
  refine Zz hG O Z (.tmp Z .nil) (.one (.int WA)) rfl
 have hz:¬ l = []:=by intro hz;rw [hz] at hc0;simp at hc0
 have hp:0<l.length:=Yaz.2 hz
 have hk1:IntKind.wrap .i64 (((l.length / 2:Nat):Int)+1)=((l.length / 2+1:Nat):Int):=K8
 have hg:(allQ room (n+1) q why l)=(madeS room (allQ room n (allQ room n q why (l.take (l.length / 2))).1 (allQ room n q why (l.take (l.length / 2))).2.1 (l.drop (IntKind.wrap .i64 (((l.length / 2:Nat):Int)+1)).toNat)).1 (allQ room n (allQ room n q why (l.take (l.length / 2))).1 (allQ room n q why (l.take (l.length / 2))).2.1 (l.drop (IntKind.wrap .i64 (((l.length / 2:Nat):Int)+1)).toNat)).2.1 (allQ room n q why (l.take (l.length / 2))).2.2 (allQ room n (allQ room n q why (l.take (l.length / 2))).1 (allQ room n q why (l.take (l.length / 2))).2.1 (l.drop (IntKind.wrap .i64 (((l.length / 2:Nat):Int)+1)).toNat)).2.2 ⟨0,Nn l (l.length / 2)⟩):=by rw [hk1,Yf];exact Yb hz
 refine Yd (Za (Ya (Zg O (qR rr (qu YbT r1 (qf (ZjN .t qi We) r1 qz (qO rr qZ)))) V J6 QL Z Z fun a w F O=>?_)))
 rw [shr1] at O
 refine Za (Ya (rZ O (qR rr (qR rr (qR rr (qf (Zc1 (sz:=1) (.mk YbT kr) Wt .t .t ow ow) r2 qz (qf (o_callG1 1 (ih q why (l.take (l.length / 2)) WF) func127 Z kr (Args.two .t .t)) r2 r1 (qO rr qZ)))))) V Xa4 QL fun O=>Ya ?_))
 refine Zr O (qR rr (qR rr (qR rr (qR rr (qR rr (qp r1 (qf (o_slice_lo (sz:=1) (.mk YbT kr) Wt .t .t WG WG) r2 qz (qf (o_callG1 1 (ih (allQ room n q why (l.take (l.length / 2))).1 (allQ room n q why (l.take (l.length / 2))).2.1 (l.drop (IntKind.wrap .i64 (((l.length / 2:Nat):Int)+1)).toNat) (by rw [YN,hk1];omega)) func127 Z kr (Args.two .t .t)) r2 r1 (qR rr (qR rr (qy 1 YbT r2 (qf (oR false 1 .t) r1 qz (qf (o_callG1 1 (ZsP b o root (allQ room n (allQ room n q why (l.take (l.length / 2))).1 (allQ room n q why (l.take (l.length / 2))).2.1 (l.drop (IntKind.wrap .i64 (((l.length / 2:Nat):Int)+1)).toNat)).2.1 room (allQ room n (allQ room n q why (l.take (l.length / 2))).1 (allQ room n q why (l.take (l.length / 2))).2.1 (l.drop (IntKind.wrap .i64 (((l.length / 2:Nat):Int)+1)).toNat)).1 (allQ room n q why (l.take (l.length / 2))).2.2 (allQ room n (allQ room n q why (l.take (l.length / 2))).1 (allQ room n q why (l.take (l.length / 2))).2.1 (l.drop (IntKind.wrap .i64 (((l.length / 2:Nat):Int)+1)).toNat)).2.2 (Nn l (l.length / 2))) func190 Z kr (Args.four .t .t .t .t)) r4 r1 (qO rr qZ)))))))))))))) V [4] QL Z Z fun a w F O=>?_
 try dsimp only [List.map,xD,xE,xT,xU,ldSF,Z3,Zt] at O
 try simp only [Yf] at O
 refine Za (Yh ?_)
 have O:=O.turn 1 Z (r':=RS.hp (ZaE 247 (.pointer (some ⟨b,0,none⟩)) o root (allQ room (n+1) q why l).2.1 room (allQ room (n+1) q why l).1)) (fun _ _ _ _ h=>by rw [hg];exact h)
 refine Zz hG O Z (.tmp Z .nil) (.one (.int WA)) rfl
theorem Zui (b:Nat) (o:Option Nat) (root room:Int):∀ (n:Nat) (q:List Cell) (why:Int) (l:List Int),l.length<n→FnG prog 127 1 [.is (.pointer (some ⟨b,0,none⟩)),.sl Zo l] [ZaE 247 (.pointer (some ⟨b,0,none⟩)) o root why room q] (.int .i64 (allQ room n q why l).2.2) (fun _=>[ZaE 247 (.pointer (some ⟨b,0,none⟩)) o root (allQ room n q why l).2.1 room (allQ room n q why l).1]):=fun n=>by
 induction n with
 | zero=>intro q why l h;omega
 | succ n ih=>intro q why l h;exact sall_s b o root why room q n ih l h
theorem Zt6 (b:Nat) (o:Option Nat) (root room:Int) (q:List Cell) (l:List Int):FnG prog 126 1 [.is (.pointer (some ⟨b,0,none⟩)),.ref [.sl Zo l]] [ZaE 247 (.pointer (some ⟨b,0,none⟩)) o root 0 room q] (.int .i64 (allQ room (l.length+1) q 0 l).2.2) (fun _=>[ZaE 247 (.pointer (some ⟨b,0,none⟩)) o root (allQ room (l.length+1) q 0 l).2.1 room (allQ room (l.length+1) q 0 l).1]):=by
 refine FnG.mk func126 Z ntmps126 Z kr fun B F0 a w F V hG O=>Ya ?_
 refine rZ O (qI qZ) V [3,1,0] QL fun O=>Ya ?_
 refine rZ O (qR rr (qf (oR false 1 .t) r1 qz (qf (o_callG1 1 (Zui b o root room (l.length+1) q 0 l (Nat.lt_succ_self _)) func127 Z kr (Args.two .t .t)) r2 r1 (qO rr qZ)))) V [3] QL fun O=>Yh ?_
 refine Zz hG O Z (.tmp Z .nil) (.one (.int Z)) rfl
theorem Zpt (o : Option Nat) (room : Int) (q : List Cell) (root : Int) (th : Bool) (f : FuncId) (fn : Func) (cps : List PV) (hf : prog.funcs[f]? = some fn) (hb : fn.body.isSome = true) (hnn : (fn.name == "runtime.NumGoroutine") = false) (M : St) (hw : th = true → ∀ b, FnG prog f 1 (.is (.pointer (some ⟨b, 0, none⟩)) :: cps) [ZaE 247 (.pointer (some ⟨b, 0, none⟩)) o root 0 room q] (.int .i64 M.2.2) (fun _ => [ZaE 247 (.pointer (some ⟨b, 0, none⟩)) o root M.2.1 room M.1])) : FnG prog 125 1 [.agg [.is (arV o), .int .i64 root], .bool th, .clos f cps] [arH o room q] (.tup [.agg [.is (arV o), .int .i64 (ZqR th q M).2.2], .int .i64 (ZqR th q M).2.1]) (fun _ => [arH o room (ZqR th q M).1]) := by
 refine FnG.mk func125 Z ntmps125 Z kr fun B F0 a w F V hG O=>Ya ?_
 refine rS O (qx 101 r1 (qf (oH [.pointer none,.int .i64 0] 102) trivial qz (qI qZ))) V [7,6,3,2,1] QP fun τ O=>?_
 have O:=Xc
 generalize τ 3=v3,τ 6=v6 at O
 refine Za (Ya (Ya (rZ O (qR rr (qf (ZW .t) r1 qz qZ)) V [12,7,6,3,2] QP fun O=>?_)))
 refine Zb O Z (fun hc0=>?_) (fun hc0=>?_)
 ·skip
  have hth:th=false:=Wz
  have hg:(ZqR th q M)=(q,1,0):=by rw [hth];rfl
  refine Ya (rZ O (qg 0 101 r1 r1 (qa 101 r1 r1 (qf (oP (ZpH o) func124 (Args.one .t)) r1 qz (qf (oA 2 102 .is (.conv .t .agg)) r2 r1 (qI qZ))))) V [7,6,3,2] QP fun O=>(Yh (Zd ?_)))
  have O:=O.turn 1 Z (r':=RS.hp (arH o room (ZqR th q M).1)) (fun _ _ _ _ h=>by rw [hg];exact h)
  refine Zz hG O Z (.cl 102 true 2 Z Z (.tmp Z .nil)) (.two (.aggU Z Wp) (.int Wr)) rfl
 have hth:th=true:=Wz
 refine Yd (Za (Ya (rS O (qe 2 101 r1 r1 (qf (oB [(0,.tmp 16)] [.pointer none,.int .i64 0,.int .i64 0] [(0,2),(2,1)] (.agg Z .t kr kr .nil)) r1 qz (qf (oX 103 .t) r1 qz (qO rr qZ)))) V [8,7,6,3,2] QZ fun τ O=>?_)))
 have O:=Xb
 generalize τ 18=v18 at O
 refine Za (Ya (rZ O (qg 0 101 r1 r1 (qa 101 r1 r1 (qf (o_callG1 1 (ZmA o room q) func182 Z kr (Args.one .t)) r1 r1 (qO rr qZ)))) V [9,8,7,6,3,2] QZ fun O=>Ya ?_))
 obtain ⟨b,rfl⟩:=O.shape 103 rfl
 have O:=O.fresh 4 rfl
 obtain ⟨F,O⟩:=O.push 4 1 Z Z Z kr
 obtain ⟨F,O⟩:=O.push 4 103 Z Z Z kr
 have O:=O.turn 4 Z (r':=RS.hp (ZaE 247 (.pointer (some ⟨b,0,none⟩)) o root 0 room q)) (fun _ _ _ _ h=>h)
 obtain ⟨F,O⟩:=O.nM [9,8,7,6,3,2] Xac
 refine Zg O (qR rr (qR rr (qf (Zoi 4 .t (hw hth b) hf hb hnn (Args.one .t)) r2 r1 (qO rr qZ)))) V [10,9,8,7,6,3] Xac Z Z fun a w F O=>?_
 obtain ⟨F,O⟩:=O.peel 4 7 Z rfl
 obtain ⟨F,O⟩:=O.peel 4 1 Z rfl
 obtain ⟨F,O⟩:=O.nM [10,9,8,7,6,3] DI
 refine Za (Ya (Ya (rZ O (qR rr (qf (o_nilCheck 7 .is Wd) r1 r1 (qf (oF 2 7 .adr) r1 r1 (qa 7 r1 r1 (qf (o_neq .t qi) r1 qz qZ))))) V [29,10,9,8,7,6,3] DI fun O=>?_)))
 refine Zb O Z (fun hc1=>?_) (fun hc1=>?_)
 ·skip
  have hM:M.2.1≠0:=WE
  have hg:(ZqR th q M)=(ZcT M.1 q.length,M.2.1,0):=by rw [hth];show Zdh q.length M=_;unfold Zdh;rw [Yg hM,Yg hM]
  refine Ya (rZ O (qg 0 101 r1 r1 (qa 101 r1 r1 (qR rr (qf (o_callG1 1 (Zsq o room M.1 q.length) func189 Z kr (Args.two .t .t)) r2 r1 qZ)))) V [10,8,7,6,3] DI fun O=>Ya ?_)
  refine Zr O (qg 0 101 r1 r1 (qa 101 r1 r1 (qf (oP (ZpH o) func124 (Args.one .t)) r1 qz (qR rr (qf (o_nilCheck 7 .is Wd) r1 r1 (qf (oF 2 7 .adr) r1 r1 (qa 7 r1 r1 (qf (oA 2 102 .is (.conv .t .agg)) r2 r1 (qO rr qZ))))))))) V [10,7,6,3] DI Z Z fun a w F O=>?_
  have O:=XU
  refine Za (Yh (Zd ?_))
  have O:=O.turn 1 Z (r':=RS.hp (arH o room (ZqR th q M).1)) (fun _ _ _ _ h=>by rw [hg];exact h)
  refine Zz hG O Z (.cl 102 true 2 Z Z (.tmp Z .nil)) (.two (.aggU Z Wp) (.int Wr)) rfl
 have hM:M.2.1=0:=WE
 have hg:(ZqR th q M)=(M.1,0,M.2.2):=by rw [hth];show Zdh q.length M=_;unfold Zdh;rw [Yb ow,Yb ow,hM]
 refine Yd (Za (Ya (rZ O (qg 0 101 r1 r1 (qa 101 r1 r1 (qR rr (qf (oB [(0,.tmp 42),(1,.tmp 43)] [.pointer none,.int .i64 0] [(0,1),(1,1)] (.one Z .t Ziw kr (.one Z .t one_int kr .nil))) r2 qz (qs 2 102 r2 r1 (qI qZ)))))) V XaK [102,7,1,0] fun O=>Yh ?_)))
 have O:=O.turn 1 Z (r':=RS.hp (arH o room (ZqR th q M).1)) (fun _ _ _ _ h=>by rw [hg];exact h)
 refine Zz hG O Z (.cl 102 true 2 Z Z (.tmp Z .nil)) (.two (.aggU Z Wp) (.int Wr)) rfl
def Zsl (room:Int) (q:List Cell) (l:List Int):St:=ZqR true q (allQ room (l.length+1) q 0 l)
theorem Zt9 (o:Option Nat) (room:Int) (q:List Cell) (l:List Int):FnG prog 65 1 [.is (arV o),.sl Zo l] [arH o room q] (.tup [.agg [.is (arV o),.int .i64 (Zsl room q l).2.2],.int .i64 (Zsl room q l).2.1]) (fun _=>[arH o room (Zsl room q l).1]):=by
 refine FnG.mk func65 Z ntmps65 Z kr fun B F0 a w F V hG O=>Ya ?_
 refine rS O (qf (Zm9 101 .t Zaf) r1 qz (qf (oH [.pointer none,.int .i64 0] 102) trivial qz (qI qZ))) V Gq QP fun τ O=>?_
 have O:=Xc
 generalize τ 3=v3,τ 4=v4 at O
 obtain ⟨F,O⟩:=O.giveRef 101 3 Z Z rfl
 obtain ⟨F,O⟩:=O.nM Gq XaY
 have O:=XW
 refine Za (Ya (rZ O (qR rr (qf (oP (ZpH o) func124 (Args.one .t)) r1 qz (qf (ZcX (Args.one .t)) r1 qz (qf (o_callG1 1 (Zpt o room q 0 true 126 f126 [.ref [.sl Zo l]] func126 Z kr (allQ room (l.length+1) q 0 l) (fun h b=>Zt6 b o 0 room q l)) func125 Z kr (Args.three .t .cb .t)) r2 r1 (qf (o_extract .t Z) r1 qz (qf (o_extract .t Z) r1 qz (qf (oA 2 102 .is (.conv .t .agg)) r2 r1 (qO rr qZ)))))))) V Jf XaY fun O=>Yh ?_))
 refine Zz hG O Z (.cl 102 true 2 Z Z (.tmp Z .nil)) (.two (.aggU Z Z) (.int Z)) rfl
def ZbT (t:Zae):List Int:=(tList t).map ZD.val
theorem Zqo (t:Zae):((ZbT t).length:Int)=ZB t:=by rw [ZT];simp [ZbT]
theorem tVals_node (l r:Zae) (p:ZD):ZbT (.node l p r)=ZbT l++p.val :: ZbT r:=by simp [ZbT,tList]
def stV (q:List Cell):List (Int×Zae)→List Int
 | []=>[]
 | e :: st=>stV q st++((getC q e.1).val :: ZbT e.2)
def ZjW:List (Int×Zae)→Int
 | []=>0
 | e :: st=>ZjW st+(2*ZB e.2+1)
theorem stV_snoc (q:List Cell) (e:Int×Zae):∀ st:List (Int×Zae),stV q (st ++ [e])=(getC q e.1).val :: (ZbT e.2++stV q st)
 | []=>by simp [stV]
 | x :: st=>by rw [Y1,stV,stV_snoc q e st,stV];simp
theorem ZhF (e:Int×Zae):∀ st:List (Int×Zae),ZjW (st ++ [e])=ZjW st+(2*ZB e.2+1)
 | []=>by simp [ZjW]
 | x :: st=>by rw [Y1,ZjW,ZhF e st,ZjW];omega
theorem Zlr:∀ st:List (Int×Zae),0≤ZjW st
 | []=>Yau 0
 | e :: st=>by have:=Zlr st;have:=ZQ e.2;rw [ZjW];omega
theorem Zo4 (q:List Cell):∀ st:List (Int×Zae),st.length≤(stV q st).length
 | []=>YE 0
 | e :: st=>by have:=Zo4 q st;rw [stV,Yc,Yl,Yl];omega
def ZeI (v:Int):List Int→Int
 | []=>-1
 | x :: l=>if x=v then 0 else if ZeI v l<0 then -1 else ZeI v l+1
theorem ZhU {v:Int} : ∀ {l:List Int},(∀ k,k<l.length→Nn l k≠v)→ZeI v l = -1
 | [],_=>rfl
 | x :: l,h=>by
  have h0:x≠v:=h 0 W5
  rw [ZeI,Yb h0,ZhU (l:=l) fun k hk=>by have:=h (k+1) (by simpa using hk);exact this,Yg We]
theorem Zo6 {v:Int} : ∀ {l:List Int} {i:Nat},i<l.length→Nn l i=v→(∀ k,k<i→Nn l k≠v)→ZeI v l=i
 | [],i,h,_,_=>by simp at h
 | x :: l,0,_,h,_=>by rw [ZeI,Yg (show x=v from h)];rfl
 | x :: l,i+1,h,h1,h2=>by
  have h0:x≠v:=h2 0 ow
  have:=Zo6 (l:=l) (i:=i) W4 h1 fun k hk=>h2 (k+1) ow
  rw [ZeI,Yb h0,this,Yb ow];omega
def ZpA (l:List Int) (j x:Int):List Int:=if 0≤j∧j≤l.length then l.take j.toNat++x :: l.drop j.toNat else l
theorem ZpR (o:Option Nat) (room:Int) (q:List Cell) (root:Int) (t0:Zae) (hr0:Rep kz q t0 root) (hs:ZB t0≤1000000):FnG prog 57 1 [.agg [.is (arV o),.int .i64 root]] [arH o room q] (.sl Zo (ZbT t0)) (fun _=>[arH o room q]):=by
 refine FnG.mk func57 Z ntmps57 Z kr fun B F0 a w F V hG O=>Ya ?_
 refine rS O (qx 101 r1 (qC qZ)) V J5 QW fun τ O=>?_
 try dsimp only [RS.sub,SF.sub,CF.sub,csub,Anc.sub,List.map,zCF,Z3,Zo] at O
 generalize τ 1=v1 at O
 refine Za (Ya (rZ O (qC qZ) V Gh QW fun O=>Ya ?_))
 refine rZ O (qC qZ) V XaL QW fun O=>(Ya (Ya ?_))
 refine rZ O (qg 1 101 r1 r1 (qa 101 r1 r1 (qO rr qZ))) V Jk QW fun O=>Ye ?_
 replace O:=O.fresh 50 rfl
 replace O:=O.turn 50 Z (Zas (T:=3) (sz:=1) (R:=Zo))
 replace O:=O.fresh 51 rfl
 replace O:=O.turn 51 Z (Zas (T:=3) (sz:=1) (R:=Zo))
 refine Zh (σ:=Int×Zae×List (Int×Zae)×Value×List Int×Value×List Int) [1,2] [0,1,101] (fun s=>[(5,.pv (.int .i64 s.1)),(3,.pv (.is s.2.2.2.1)),(4,.pv (.is s.2.2.2.2.2.1))]) (fun s=>[(50,.ob (.val s.2.2.2.1) (ZM 3 1 Zo s.2.2.2.2.1)),(51,.ob (.val s.2.2.2.2.2.1) (ZM 3 1 Zo s.2.2.2.2.2.2))]) (fun s=>Rep kz q s.2.1 s.1∧(∀ e ∈ s.2.2.1,Rep kz q e.2 (getC q e.1).right)∧s.2.2.2.2.2.2=s.2.2.1.map Prod.fst∧s.2.2.2.2.1++(ZbT s.2.1++stV q s.2.2.1)=ZbT t0) (fun s=>(2*ZB s.2.1+ZjW s.2.2.1).toNat) ((root),(t0),([]),(.slice none 0 0),([]),(.slice none 0 0),([])) O ⟨rfl,rfl,rfl,rfl,rfl,tv⟩ ⟨rfl,rfl,rfl,rfl,rfl,tv⟩ ⟨hr0,fun e he=>by simp at he,rfl,by simp [stV]⟩ ?_
 clear O;intro s a w F hC O
 obtain ⟨i,t,st,v,out,wv,wt⟩:=s
 have hC:=X3
 obtain ⟨F,O⟩:=O.nM Jk Jh
 have O:=X2
 obtain ⟨hr,hst,hwt,hk⟩:=hC
 have hkl:=Yai List.length hk
 simp only [Yc] at hkl
 have hsl:=Zo4 q st
 have hwl:=Yai List.length hwt
 rw [YO] at hwl
 have hnn:=Zlr st
 have hsz:=Zqo t0
 refine Ya (Ya (rZ O (qR rr (qf (o_gtr .t qi) r1 qz (qR rr (qm Z Z Z Z (qk Z (fun h=>Zam 51 YbT (.w h .is)) r2 r1 (qk Z (fun h=>o_gtr (.w h) qi) r2 qz (qf (ZaB .t .t) r2 qz qZ))))))) V [15,5,4,3,2,1] Jh fun O=>?_))
 refine Zb O Z (fun hc0=>?_) (fun hc0=>?_)
 ·have hgo:0<i∨0<wt.length:=by simp only [Yar,Yj] at hc0;omega
  refine Yd (Za (Ye (Ya (Ya (rZ O (qR rr (qf (o_gtr .t qi) r1 qz qZ)) V [17,5,4,3,2,1] Jh fun O=>?_)))))
  refine Zb O Z (fun hc1=>?_) (fun hc1=>?_)
  ·have hi:0<i:=WE
   obtain ⟨l,pp,r,ht⟩:=hr.node (show i≠0 by omega)
   rw [ht] at hr hk
   have hvx:(getC q i).val=pp.val:=hr.2.2.2.2.2.1
   obtain ⟨t2,ht2⟩:∃ t2,t2=l:=⟨_,rfl⟩
   obtain ⟨st2,hs2⟩:∃ st2,st2=st ++ [(i,r)]:=⟨_,rfl⟩
   have hmu:(2*ZB t2+ZjW st2).toNat<(2*ZB t+ZjW st).toNat:=by rw [ht,hs2,ht2,ZhF];have:=ZQ l;have:=ZQ r;show (2*ZB l+(ZjW st+(2*ZB r+1))).toNat<(2*(ZB l+ZB r+1)+ZjW st).toNat;omega
   have hC2:Rep kz q t2 (getC q i).left∧(∀ e ∈ st2,Rep kz q e.2 (getC q e.1).right)∧wt ++ [i] = st2.map Prod.fst∧out++(ZbT t2++stV q st2)=ZbT t0:=⟨by rw [ht2];exact hr.2.1,fun e he=>by rw [hs2] at he;rcases YH.1 he with he | he; (· exact hst e he); (· rw [Yr.1 he];exact hr.2.2.1),by rw [hs2,hwt];simp,by rw [← hk,ht2,hs2,stV_snoc,tVals_node,hvx];simp⟩
   refine Ya (rS O (qR rr (qR rr (qf (o_buildSliceE (sz:=1) (zs:=[.int .i64 0]) (r:=[(0,.tmp 19)]) (l:=[_]) YbT kr kr kr kr Z Z (.one Z .t one_int kr .nil) Z) r1 qz (qf (o_append (sz:=1) (bs:=8) 51 (.mk' YbT kr kr) Wt .is (.arr (l':=[i]) .t) Wx We) ⟨rfl,rfl,tv⟩ ⟨rfl,tv⟩ (qO rr qZ))))) V Jk Jh fun τ O=>?_)
   try dsimp only [RS.sub,SF.sub,CF.sub,csub,Anc.sub,List.map,Zc,xL,xM,Nat.reduceAdd,xD,xE,xT,xU,xC,xN,zCF,Z3,Zo] at O
   generalize τ 21=v21 at O
   refine Za (Ya (rZ O (qe 2 101 r1 r1 (qR rr (qf (o_callG1 1 (scell_c o room q root i) func109 Z kr (Args.two (.pagg .t) .t)) r2 r1 (qf (ZeL (ft:=3) (off:=0) kr kr .t Z) r1 qz (qO rr qZ))))) V Jk Jh fun O=>(Ym (Ze (Zk (Za ?_))))))
   obtain ⟨F,O⟩:=O.nM XaN DH
   exact ⟨(_,(t2),(st2),_,_,_,_),F,hC2,O,hmu⟩
  have hi:¬ 0<i:=WE
  have hx:=hr.range
  have h0:i=0:=ow
  rw [h0] at hr
  have hz:t = .nil:=hr.zero
  obtain ⟨st2,e,hse⟩:=ZoC (l:=st) ow
  have hwe:wt=st2.map Prod.fst ++ [e.1]:=by rw [hwt,hse];simp
  have hw2:wt.length=st2.length+1:=by rw [hwl,hse];simp
  have hnw:IntKind.wrap .i64 ((wt.length:Int) - 1)=(st2.length:Int):=K8
  have hne:Nn wt st2.length=e.1:=Qi
  have htk:wt.take st2.length=st2.map Prod.fst:=Q5
  have hne2:Nn wt (IntKind.wrap .i64 ((wt.length:Int) - 1)).toNat=e.1:=by rw [hnw,Yf];exact hne
  obtain ⟨t2,ht2⟩:∃ t2,t2=e.2:=⟨_,rfl⟩
  have hmu:(2*ZB t2+ZjW st2).toNat<(2*ZB t+ZjW st).toNat:=by rw [hz,hse,ht2,ZhF];have:=ZQ e.2;have:=Zlr st2;show (2*ZB e.2+ZjW st2).toNat<(2*0+(ZjW st2+(2*ZB e.2+1))).toNat;omega
  have hC2:Rep kz q t2 (getC q e.1).right∧(∀ e ∈ st2,Rep kz q e.2 (getC q e.1).right)∧st2.map Prod.fst=st2.map Prod.fst∧(out ++ [(getC q e.1).val])++(ZbT t2++stV q st2)=ZbT t0:=⟨by rw [ht2];exact hst e (by rw [hse];simp),fun x hx=>hst x (by rw [hse];simp [hx]),rfl,by rw [← hk,hz,hse,ht2,stV_snoc];simp [ZbT,tList]⟩
  have hcut0:0≤IntKind.wrap .i64 ((wt.length:Int) - 1):=ow
  have hcut1:IntKind.wrap .i64 ((wt.length:Int) - 1)≤wt.length:=ow
  have hol:out.length≤1000000:=ow
  refine Yd (Za (Ya (rT O (qe 2 101 r1 r1 (qR rr (qR rr (qf (Zam 51 YbT .is) r1 r1 (qf (o_sub .t qi) r1 qz (qf (o_indexAddr_row (sz:=1) 51 (.mk YbT kr) .is .t ow ow Wd) r2 r1 (qf (Zs (ag:=false) (sz':=1) (sz:=1) 51 .t Wt (by rw [hnw,Yf];omega) kr kr kr) r1 r1 (qf (o_callG1 1 (scell_c o room q root (Nn wt (IntKind.wrap .i64 ((wt.length:Int) - 1)).toNat)) func109 Z kr (Args.two (.pagg .t) .t)) r2 r1 (qf (oH [.int .i64 0,.int .i64 0,.int .i64 0,.int .i64 0,.int .i64 0,.int .i64 0] 102) trivial qz (qf (oA 6 102 .same (.conv .t .agg)) r2 r1 qZ)))))))))) V GK JU fun τ O=>?_)))
  have O:=XF
  generalize τ 6=v6 at O
  try simp only [Yf] at O
  rw [hne2] at O
  refine Za (Ya (rS O (qR rr (qR rr (qf (Zam 51 YbT .is) r1 r1 (qf (o_sub .t qi) r1 qz (qf (ZdV (sz:=1) 51 (.mk YbT kr) Wt .is .t Wu Wu) r2 r1 (qO rr qZ)))))) V GK JU fun τ O=>?_))
  try dsimp only [RS.sub,SF.sub,CF.sub,csub,Anc.sub,List.map,Z3,Zo] at O
  generalize τ 38=v38 at O
  rw [hnw,Yf,htk] at O
  refine Za (Ya (rS O (qR rr (qg 3 102 r1 r1 (qa 102 r1 r1 (qf (o_buildSliceE (sz:=1) (zs:=[.int .i64 0]) (r:=[(0,.tmp 41)]) (l:=[_]) YbT kr kr kr kr Z Z (.one Z .t one_int kr .nil) Z) r1 qz (qf (o_append (sz:=1) (bs:=8) 50 (.mk' YbT kr kr) Wt .is (.arr (l':=[(getC q e.1).val]) .t) Wx We) ⟨rfl,rfl,tv⟩ ⟨rfl,tv⟩ (qO rr qZ)))))) V GK JU fun τ O=>?_))
  have O:=XF
  generalize τ 43=v43 at O
  refine Za (Zg O (qg 1 102 r1 r1 (qa 102 r1 r1 (qO rr qZ))) V Jk Jh Z Z fun a w F O=>Zf (Za ?_))
  obtain ⟨F,O⟩:=O.nM XaN DH
  exact ⟨(_,(t2),(st2),_,_,_,_),F,hC2,O,hmu⟩
 have hstop:¬ 0<i∧wt.length=0:=by simp only [YaK,Yi] at hc0;omega
 have hx:=hr.range
 have h0:i=0:=ow
 rw [h0] at hr
 have hfin:out=ZbT t0:=by rw [← hk,hr.zero,YX (show st.length=0 by omega)];simp [ZbT,tList,stV]
 refine Ym (Ze (Ze (Zk (Za (Ya (rZ O (qR rr (qO rr qZ)) V [2] [51,50,1,0] fun O=>Yh ?_))))))
 obtain ⟨F,O⟩:=O.give 50 2 Z rfl
 refine Zz hG O Z (.tmp Z .nil) (.one (.sl (by rw [hfin]))) rfl
structure Zvi (q:List Cell) (t:Zae) (root:Int):Prop where
 rep:Rep kz q t root
 bal:Bal t
theorem Zrr (l:List Int):ZbT (Zoy (l.length+1) (l.map kp))=l:=by
 unfold ZbT
 rw [ZcF _ _ W5,YaS]
 exact List.map_id' l
theorem Zqk (l:List Int) (v:Int):FnP prog 205 [.sl Zo l,.int .i64 v] (.int .i64 (ZeI v l)):=by
 refine FnP.mk func205 Z ntmps205 Z fun B a w F V hfr O=>?_
 have hll:=Sat.lenSl O (i:=0) rfl
 refine Ya (rZ O (qI qZ) V J0 [0] fun O=>(Ya (Ya ?_)))
 refine rZ O (qR rr (qu YbT r1 (qJ qZ))) V Gs [0] fun O=>Ye ?_
 refine Zh (σ:=(Nat)) [1,4,7,8] [0] (fun s=>[(9,.pv (.int .i64 (s:Int)))]) (fun s=>[]) (fun s=>s≤l.length∧(∀ k,k<s→Nn l k≠v)) (fun s=>l.length - s) (0) O ⟨rfl,rfl,rfl,rfl,rfl,tv⟩ ⟨rfl,tv⟩ ⟨Yo _,fun k hk=>absurd hk (YI k)⟩ ?_
 clear O;intro i a w F hC O
 have hC:=X3
 obtain ⟨F,O⟩:=O.nM Gs [0]
 have O:=X2
 obtain ⟨hi,hq⟩:=hC
 refine Ya (rZ O (qL r2) V [10,9,8,7,4,1] [0] fun O=>Ya ?_)
 refine Zb O Z (fun hc0=>?_) (fun hc0=>?_)
 ·have hil:i<l.length:=WI
  refine Yd (Za (Ya (Ye (Ya (Zg O (qR rr (qy 1 YbT r2 (qf (oR false 1 .t) r1 qz (qO rr (qO rr qZ))))) V [9,8,7,6,5,4,1] [0] Z Z fun a w F O=>?_)))))
  try simp only [Yf] at O
  refine Za (Ya (rZ O (qR rr (qR rr (qf (o_eql .t .t) r2 qz qZ))) V [16,9,8,7,5,4,1] [0] fun O=>?_))
  refine Zb O Z (fun hc1=>?_) (fun hc1=>?_)
  ·have hg:(i:Int)=ZeI v l:=(Zo6 hil WH hq).symm
   refine Ya (rZ O (qR rr (qO rr qZ)) V Gs [0] fun O=>(Yh (Zl (Zd (Zd (Zl (Zd ?_)))))))
   refine Zx hfr O Z Z Z (.int hg)
  have hne:Nn l i≠v:=WH
  refine Yd (Zf (Za (rZ O (qp r1 (qR rr qZ)) V Gs [0] fun O=>?_)))
  replace O:=O.eI 9 i
  obtain ⟨F,O⟩:=O.nM [8,7,4,1,9] [0]
  exact ⟨(i+1),F,⟨ow,(fun k hk=>by rcases Yw (YC hk) with h | h;exact hq k h;rw [h];exact hne)⟩,O,ow⟩
 have hil:i=l.length:=WI
 have hg : -1=ZeI v l:=(ZhU fun k hk=>hq k WI).symm
 refine Ym (Ze (Ze (Zk (Za (Ya (rZ O (qI qZ) V [4] [0] fun O=>Yh ?_))))))
 refine Zx hfr O Z Z Z (.int hg)
theorem Ztf (o:Option Nat) (room:Int) (q:List Cell) (root:Int) (t0:Zae) (hr0:Rep kz q t0 root) (hs:ZB t0≤1000000) (o2:Option Nat) (room2:Int) (q2:List Cell):FnG prog 187 2 [.agg [.is (arV o),.int .i64 root],.is (arV o2)] [arH o room q,arH o2 room2 q2] (.tup [.agg [.is (arV o2),.int .i64 (Zsl room2 q2 (ZbT t0)).2.2],.int .i64 (Zsl room2 q2 (ZbT t0)).2.1]) (fun _=>[arH o room q,arH o2 room2 (Zsl room2 q2 (ZbT t0)).1]):=by
 refine FnG.mk func187 Z ntmps187 Z kr fun B F0 a w F V hG O=>Ya ?_
 refine rS O (qx 101 r1 (qf (oH [.pointer none,.int .i64 0] 102) trivial qz (qI qZ))) V Js DJ fun τ O=>?_
 have O:=Xc
 generalize τ 2=v2,τ 4=v4 at O
 refine Za (Ya (rZ O (qR rr (qe 2 101 r1 r1 (qf (o_callG1 1 (ZpR o room q root t0 hr0 hs) func57 Z kr (Args.one (.pagg .t))) r1 r1 (qf (o_callG1 2 (Zt9 o2 room2 q2 (ZbT t0)) func65 Z kr (Args.two .t .t)) r2 r1 (qf (o_extract .t Z) r1 qz (qf (o_extract .t Z) r1 qz (qf (oA 2 102 .is (.conv .t .agg)) r2 r1 (qO rr qZ)))))))) V Jf [102,2,1,0] fun O=>Yh ?_))
 refine Zll hG O Z (.cl 102 true 2 Z Z (.tmp Z .nil)) (.two (.aggU Z Z) (.int Z)) Z rfl
theorem ZpK (l:List Int) (j:Int):FnP prog 206 [.sl Zo l,.int .i64 j] (.bool (decide (0≤j∧j<l.length))):=by
 refine FnP.mk func206 Z ntmps206 Z fun B a w F V hfr O=>Ya ?_
 refine rZ O qB V J0 [0] fun O=>Ya ?_
 refine rZ O (qR rr (qf (Zcb .t qi) r1 qz (qR rr (qm Z Z Z Z (qm Z Z Z Z (qk Z (fun h=>Zbp YbT (.w h)) r2 qz (qk Z (fun h=>ZaR (.w h) (.w h)) r3 qz (qf (ZF .t .t) r2 qz (qO rr qZ))))))))) V [4] [0] fun O=>Yh ?_
 refine Zx hfr O Z Z Z (.bool W5)
theorem ZsI (l:List Int) (j x:Int) (hl:l.length≤1000000):FnP prog 207 [.sl Zo l,.int .i64 j,.int .i64 x] (.tup [.sl Zo (ZpA l j x),.bool (decide (0≤j∧j≤l.length))]):=by
 refine FnP.mk func207 Z ntmps207 Z fun B a w F V hfr O=>Ya ?_
 refine rZ O (qC qB) V Gg [0] fun O=>(Ya (Ya ?_))
 refine rZ O (qR rr (qf (ZaR .t qi) r1 qz (qR rr (qm Z Z Z Z (qm Z Z Z Z (qk Z (fun h=>Zbp YbT (.w h)) r2 qz (qk Z (fun h=>o_gtr (.w h) (.w h)) r3 qz (qf (ZaB .t .t) r2 qz qZ)))))))) V [16,7,6,2,1,0] [0] fun O=>?_
 refine Zb O Z (fun hc0=>?_) (fun hc0=>?_)
 ·have hj:¬ (0≤j∧j≤l.length):=WI
  have hfin:l=ZpA l j x:=(Yb hj).symm
  have hfin2:false=decide (0≤j∧j≤l.length):=(Yq hj).symm
  refine Ya (rZ O (qR rr (qO rr qB)) V Gg [0] fun O=>(Yh (Zd ?_)))
  refine ZU hfr O Z (.tmp Z (.tmp Z .nil)) (.two (.sl hfin) (.bool hfin2))
 have hj:0≤j∧j≤l.length:=WI
 have hfin:[] ++ l.take j.toNat ++ [x] ++ l.drop j.toNat=ZpA l j x:=by unfold ZpA;rw [Yg hj];simp
 have hfin2:true=decide (0≤j∧j≤l.length):=(YA hj).symm
 refine Yd (Za (Ya (rS O (qf (ZaI (R:=Zo) (sz:=1) 101 YbT kr) trivial qz (qR rr (qR rr (qf (Zc1 (sz:=1) (.mk YbT kr) Wt .t .t ow ow) r2 qz (qf (o_append (sz:=1) (bs:=8) 101 (.mk' YbT kr kr) Wt .same (.sl .t) WJ We) ⟨rfl,rfl,tv⟩ ⟨rfl,tv⟩ (qO rr qZ)))))) V QX QK fun τ O=>?_)))
 have O:=X8
 generalize τ 22=v22 at O
 refine Za (Ya (rS O (qR rr (qR rr (qf (o_buildSliceE (sz:=1) (zs:=[.int .i64 0]) (r:=[(0,.tmp 24)]) (l:=[_]) YbT kr kr kr kr Z Z (.one Z .t one_int kr .nil) Z) r1 qz (qf (o_append (sz:=1) (bs:=8) 101 (.mk' YbT kr kr) Wt .is (.arr (l':=[x]) .t) WJ We) ⟨rfl,rfl,tv⟩ ⟨rfl,tv⟩ (qO rr qZ))))) V [8,7,6,1,0] QK fun τ O=>?_))
 have O:=X8
 generalize τ 26=v26 at O
 refine Za (Ya (rS O (qR rr (qR rr (qR rr (qf (o_slice_lo (sz:=1) (.mk YbT kr) Wt .t .t ow ow) r2 qz (qf (o_append (sz:=1) (bs:=8) 101 (.mk' YbT kr kr) Wt .is (.sl .t) WJ We) ⟨rfl,rfl,tv⟩ ⟨rfl,tv⟩ (qO rr qZ)))))) V [8,7,6] QK fun τ O=>?_))
 try dsimp only [RS.sub,SF.sub,CF.sub,csub,Anc.sub,List.map,xC,xN,Zo] at O
 generalize τ 31=v31 at O
 refine Za (Ya (rZ O (qR rr (qO rr qB)) V XaK QK fun O=>Yh ?_))
 obtain ⟨F,O⟩:=O.give 101 6 Z rfl
 refine ZU hfr O Z (.tmp Z (.tmp Z .nil)) (.two (.sl hfin) (.bool hfin2))
theorem ZsY (l:List Int) (j:Int) (hl:l.length≤1000000) (hj:0≤j∧j<l.length):FnP prog 208 [.sl Zo l,.int .i64 j] (.sl Zo (l.eraseIdx j.toNat)):=by
 refine FnP.mk func208 Z ntmps208 Z fun B a w F V hfr O=>?_
 have hw:IntKind.wrap .i64 (j+1)=j+1:=Zj ow
 have hfin:[] ++ l.take j.toNat++l.drop (IntKind.wrap .i64 (j+1)).toNat=l.eraseIdx j.toNat:=by rw [hw,List.eraseIdx_eq_take_drop_succ,Yao,show (j+1).toNat=j.toNat+1 by omega]
 refine Ya (rZ O (qC qZ) V J0 [0] fun O=>Ya ?_)
 refine rS O (qf (ZaI (R:=Zo) (sz:=1) 101 YbT kr) trivial qz (qR rr (qR rr (qf (Zc1 (sz:=1) (.mk YbT kr) Wt .t .t ow ow) r2 qz (qf (o_append (sz:=1) (bs:=8) 101 (.mk' YbT kr kr) Wt .same (.sl .t) WJ We) ⟨rfl,rfl,tv⟩ ⟨rfl,tv⟩ (qO rr qZ)))))) V J6 QK fun τ O=>?_
 have O:=X8
 generalize τ 10=v10 at O
 refine Za (Ya (rS O (qR rr (qR rr (qR rr (qp r1 (qf (o_slice_lo (sz:=1) (.mk YbT kr) Wt .t .t (by rw [hw];omega) (by rw [hw];omega)) r2 qz (qf (o_append (sz:=1) (bs:=8) 101 (.mk' YbT kr kr) Wt .is (.sl .t) WJ We) ⟨rfl,rfl,tv⟩ ⟨rfl,tv⟩ (qO rr qZ))))))) V [4] QK fun τ O=>?_))
 try dsimp only [RS.sub,SF.sub,CF.sub,csub,Anc.sub,List.map,xC,xN,Zo] at O
 generalize τ 16=v16 at O
 refine Za (Yh ?_)
 obtain ⟨F,O⟩:=O.give 101 4 Z rfl
 refine Zx hfr O Z Z Z (.sl hfin)
theorem ZfF (x y:List Int):FnP prog 18 [.sl Zo x,.sl Zo y] (.bool (decide (x=y))):=by
 refine FnP.mk func18 Z ntmps18 Z fun B a w F V hfr O=>?_
 have hxl:=Sat.lenSl O (i:=0) rfl
 refine Ya (rZ O qB V J0 [0] fun O=>(Ya (Ya ?_)))
 refine rZ O (qR rr (qu YbT r1 (qR rr (qu YbT r1 (qf (o_neq .t .t) r2 qz qZ))))) V XaU [0] fun O=>?_
 refine Zb O Z (fun hc0=>?_) (fun hc0=>?_)
 ·have hg:false=decide (x=y):=by
    rw [Y8,Yi]
    intro h
    subst h
    simp at hc0
  refine Ya (rZ O qB V J0 [0] fun O=>(Yh (Zd ?_)))
  refine Zx hfr O Z Z Z (.bool hg)
 have hl:x.length=y.length:=WI
 refine Yd (Za (Ya (Ya (rZ O (qR rr (qu YbT r1 (qJ qZ))) V G5 [0] fun O=>Ye ?_))))
 obtain ⟨F,O⟩:=O.nM JH [0]
 refine ZbL (σ:=Nat) (fun s=>(⟨[(0,.pv (.sl Zo x)),(1,.pv (.sl Zo y)),(12,.pv (.int .i64 x.length)),(13,.pv (.int .i64 s))],[(0,frame B)]⟩:En)) (fun s=>s≤x.length ∧ ∀ j,j<s→Nn x j=Nn y j) (fun s=>x.length - s) 0 O ⟨Yo _,fun j hj=>absurd hj (YI j)⟩ ?_
 clear O;intro i a w F hC O
 have hC:=X3
 have O:=X2
 obtain ⟨hi,hq⟩:=hC
 refine Ya (rZ O (qL r2) V DV [0] fun O=>Ya ?_)
 refine Zb O Z (fun hc1=>?_) (fun hc1=>?_)
 ·have hil:i<x.length:=WH
  refine Yd (Za (Ya (Ye (Ya (rZ O (qR rr (qO rr qZ)) V Xad [0] fun O=>Ya ?_)))))
  refine Zr O (qR rr (qR rr (qy 1 YbT r2 (qf (oR false 1 .t) r1 qz (qR rr (qR rr (qy 1 YbT r2 (qf (oR false 1 .t) r1 qz (qf (o_neq .t .t) r2 qz qZ))))))))) V DW [0] Z Z fun a w F O=>?_
  have O:=XB
  refine Za (Zb O Z (fun hc2=>?_) (fun hc2=>?_))
  ·have hg:false=decide (x=y):=by
     rw [Y8,Yi]
     intro h
     subst h
     simp at hc2
   refine Ya (rZ O qB V G5 [0] fun O=>(Yh (Zl (Zd (Zd (Zl (Zd ?_)))))))
   refine Zx hfr O Z Z Z (.bool hg)
  rw [Yf] at hc2
  have hqi:Nn x i=Nn y i:=WD
  refine Yd (Zf (Za (rZ O (qp r1 (qR rr qZ)) V JH [0] fun O=>?_)))
  replace O:=O.eI 13 i
  obtain ⟨F,O⟩:=O.nM JH [0]
  exact ⟨i+1,F,⟨ow,fun j hj=>by rcases Yw (YC hj) with h | h;exact hq j h;rw [h];exact hqi⟩,O,ow⟩
 have hg:true=decide (x=y):=by
   rw [Y8,Yj]
   exact ZaX hl fun j hj=>hq j WH
 refine Ym (Ze (Ze (Zk (Za (Ya (rZ O qB V [4] [0] fun O=>Yh ?_))))))
 refine Zx hfr O Z Z Z (.bool hg)
theorem Zi0 {v:Int} {l:List Int} (h:v ∈ l):∃ i:Nat,ZeI v l=i∧i<l.length∧Nn l i=v ∧ ∀ k,k<i→Nn l k≠v:=by
 induction l with
 | nil=>cases h
 | cons x l ih=>
  by_cases hx:x=v
  ·exact ⟨0,by rw [ZeI,Yg hx];rfl,by simp,hx,fun k hk=>absurd hk (YI k)⟩
  ·obtain ⟨i,h1,h2,h3,h4⟩:=ih (by rcases Yp.1 h with h | h;exact absurd h.symm hx;exact h)
   refine ⟨i+1,by rw [ZeI,Yb hx,h1,Yb ow];omega,by simpa using h2,h3,fun k hk=>?_⟩
   cases k with
   | zero=>exact hx
   | succ k=>exact h4 k ow
theorem ZiY {v:Int} {l:List Int} (h:v ∉ l):ZeI v l = -1:=ZhU fun k hk e=>h (e ▸ ZP hk)
theorem Zin (v:Int) (l:List Int) : -1≤ZeI v l∧ZeI v l<l.length:=by
 by_cases h:v ∈ l
 ·obtain ⟨i,h1,h2,_⟩:=Zi0 h
  omega
 ·rw [ZiY h];omega
theorem Zrz {v:Int} {l:List Int} : 0≤ZeI v l ↔ v ∈ l:=by
 constructor
 ·intro h
  by_cases hm:v ∈ l
  ·exact hm
  ·rw [ZiY hm] at h;omega
 ·intro h
  obtain ⟨i,h1,_⟩:=Zi0 h
  omega
def Zhc (l:List Int):Prop:=(∀ x ∈ l,1≤x∧x≤1048575)∧l.Nodup
instance (l:List Int):Decidable (Zhc l):=by unfold Zhc;exact inferInstance
theorem Zhc.take {l:List Int} (h:Zhc l) (i:Nat):Zhc (l.take i):=⟨fun x hx=>h.1 x (Yax hx),h.2.sublist (List.take_sublist i l)⟩
def leI (x y:Int):Bool:=decide (x≤y)
theorem Zqu {a b:List Int} : a.mergeSort leI=b.mergeSort leI ↔ a.Perm b:=by
 constructor
 ·intro h
  exact (YaO a leI).symm.trans (h ▸ YaO b leI)
 ·intro h
  have hs:∀ l:List Int,List.Pairwise (fun x y=>x≤y) (l.mergeSort leI):=fun l=>by
   have:=Ybk (le:=leI) (fun a b c h1 h2=>by simp [leI] at *;omega) (fun a b=>by simp [leI];omega) l
   exact this.imp fun h=>by simpa [leI] using h
  exact List.Perm.eq_of_pairwise (fun x y _ _ h1 h2=>Int.le_antisymm h1 h2) (hs a) (hs b) (((YaO a leI).trans h).trans (YaO b leI).symm)
theorem Zlv {a b:List Int} : (a.length=b.length ∧ ∀ x ∈ a,a.count x=b.count x) ↔ a.Perm b:=by
 constructor
 ·rintro ⟨hl,hc⟩
  have key:∀ (a b:List Int),(∀ x ∈ a,a.count x≤b.count x) → ∃ c,b.Perm (a++c):=by
   intro a
   induction a with
   | nil=>intro b _;exact ⟨b,Ybf _⟩
   | cons x a ih=>
    intro b h
    have hx:x ∈ b:=by
     have:=h x W5
     rw [List.count_cons_self] at this
     exact List.count_pos_iff.1 ow
    obtain ⟨c,hc⟩:=ih (b.erase x) fun y hy=>by
     have:=h y (by simp [hy])
     rw [List.count_cons] at this
     rw [List.count_erase]
     split at this <;> rename_i e
     ·rw [Yg e];omega
     ·rw [Yb e];omega
    exact ⟨c,(List.perm_cons_erase hx).trans (hc.cons x)⟩
  obtain ⟨c,hp⟩:=key a b fun x hx=>by rw [hc x hx];exact YE _
  have:=hp.length_eq
  rw [Yc] at this
  have hc0:c = []:=YX ow
  rw [hc0,YF] at hp
  exact hp.symm
 ·intro h
  exact ⟨h.length_eq,fun x _=>h.count_eq x⟩
def ZgH (l:List Int) (tx:Int):List Int:=if tx ∈ l then l else l ++ [tx]
def ZbN (l:List Int) (tx:Int):List Int:=l.filter fun x=>decide (x≠tx)
def ZcB (l:List Int) (tx place:Int):List Int×Int:=if ZeI tx l<0 then ([],3) else if ¬ (0≤place∧place<l.length) then ([],1) else (ZpA (l.eraseIdx (ZeI tx l).toNat) place tx,0)
def Zpr (a b:List Int):Prop:=Zhc a∧Zhc b∧a.Perm b
instance (a b:List Int):Decidable (Zpr a b):=by unfold Zpr;exact inferInstance
theorem ZjY {v:Int} {l:List Int} (h:v ∈ l):l.eraseIdx (ZeI v l).toNat=l.erase v:=by
 induction l with
 | nil=>cases h
 | cons x l ih=>
  by_cases hx:x=v
  ·subst hx
   rw [ZeI,Yg rfl];simp
  ·have hm:v ∈ l:=by rcases Yp.1 h with h | h;exact absurd h.symm hx;exact h
   obtain ⟨i,h1,h2,_⟩:=Zi0 hm
   rw [ZeI,Yb hx,Yb ow,h1,List.erase_cons_tail Wl,← ih hm,h1]
   rw [show ((i:Int)+1).toNat=i+1 by omega,Yf,List.eraseIdx_cons_succ]
theorem ZoZ {l:List Int} {j x:Int} (h:0≤j∧j≤l.length):(ZpA l j x).Perm (x :: l):=by
 unfold ZpA
 rw [Yg h]
 have:=(List.perm_middle (a:=x) (l₁:=l.take j.toNat) (l₂:=l.drop j.toNat))
 rwa [YY] at this
theorem Zrk {l:List Int} {tx place:Int} (h:tx ∈ l) (hp:0≤place∧place<l.length):ZcB l tx place=(ZpA (l.erase tx) place tx,0):=by
 unfold ZcB
 rw [Yb (by have:=Zrz.2 h;omega),Yb (by simpa using hp),ZjY h]
theorem ZnY {l:List Int} {tx place:Int} (h:tx ∈ l) (hp:0≤place∧place<l.length):(ZcB l tx place).1.Perm l:=by
 rw [Zrk h hp]
 have hl:(l.erase tx).length=l.length - 1:=List.length_erase_of_mem h
 exact (ZoZ ow).trans (List.perm_cons_erase h).symm
def Zkm:Go.Shelf.Ren:=⟨fun | 189=>92 | 125=>152 | 257=>154 | 128=>226 | 129=>227 | 294=>228 | 295=>229 | 296=>230 | 297=>231 | 298=>232 | 299=>233 | 216=>213 | 300=>234 | 301=>235 | 328=>266 | 329=>262 | 330=>263 | 331=>267 | 332=>268 | 215=>175 | 343=>278 | n=>n,fun | 28=>37 | 3=>3 | 46=>219 | 0=>0 | 51=>274 | 53=>262 | 4=>4 | 183=>268 | 182=>267 | 131=>105 | 5=>5 | 9=>9 | 218=>301 | 222=>305 | 228=>314 | 229=>315 | n=>n,fun  | n=>n⟩
theorem Zmu:Lays.n189 prog Zkm where
 mixed:=by kernel_rfl
 f125:=func152.trans (Yai some kr)
 f128:=func226.trans (Yai some kr)
 f129:=func227.trans (Yai some kr)
 f189:=func92.trans (Yai some kr)
 f215:=func175.trans (Yai some kr)
 f216:=func213.trans (Yai some kr)
 f257:=func154.trans (Yai some kr)
 f294:=func228.trans (Yai some kr)
 f295:=func229.trans (Yai some kr)
 f296:=func230.trans (Yai some kr)
 f297:=func231.trans (Yai some kr)
 f298:=func232.trans (Yai some kr)
 f299:=func233.trans (Yai some kr)
 f300:=func234.trans (Yai some kr)
 f301:=func235.trans (Yai some kr)
 f328:=func266.trans (Yai some kr)
 f329:=func262.trans (Yai some kr)
 f330:=func263.trans (Yai some kr)
 f331:=func267.trans (Yai some kr)
 f332:=func268.trans (Yai some kr)
 f343:=func278.trans (Yai some kr)
 t0:=underlying0
 a0:=Tryz.isAgg0
 z0:=Tryz.sizeOf0
 v0:=Tryz.zeroValue0
 t3:=YbV
 a3:=Tryz.isAgg3
 z3:=Tryz.sizeOf3
 v3:=Tryz.zeroValue3
 t4:=underlying4
 a4:=Tryz.isAgg4
 z4:=Tryz.sizeOf4
 v4:=Tryz.zeroValue4
 t5:=underlying5
 a5:=Tryz.isAgg5
 z5:=Tryz.sizeOf5
 v5:=Tryz.zeroValue5
 t9:=underlying9
 a9:=Tryz.isAgg9
 z9:=Tryz.sizeOf9
 v9:=Tryz.zeroValue9
 t28:=YbT
 a28:=Tryz.isAgg37
 z28:=Tryz.sizeOf37
 v28:=Tryz.zeroValue37
 t46:=Yb2
 a46:=Tryz.isAgg219
 z46:=Tryz.sizeOf219
 v46:=Tryz.zeroValue219
 t51:=underlying274
 a51:=Tryz.isAgg274
 z51:=Tryz.sizeOf274
 v51:=Tryz.zeroValue274
 t53:=underlying262
 a53:=Tryz.isAgg262
 z53:=Tryz.sizeOf262
 v53:=Tryz.zeroValue262
 t131:=underlying105
 a131:=Tryz.isAgg105
 z131:=Tryz.sizeOf105
 v131:=Tryz.zeroValue105
 t182:=underlying267
 a182:=Tryz.isAgg267
 z182:=Tryz.sizeOf267
 v182:=Tryz.zeroValue267
 t183:=underlying268
 a183:=Tryz.isAgg268
 z183:=Tryz.sizeOf268
 v183:=Tryz.zeroValue268
 t218:=underlying301
 a218:=Tryz.isAgg301
 z218:=Tryz.sizeOf301
 v218:=Tryz.zeroValue301
 t222:=underlying305
 a222:=Tryz.isAgg305
 z222:=Tryz.sizeOf305
 v222:=Tryz.zeroValue305
 t228:=underlying314
 a228:=Tryz.isAgg314
 z228:=Tryz.sizeOf314
 v228:=Tryz.zeroValue314
 t229:=underlying315
 a229:=Tryz.isAgg315
 z229:=Tryz.sizeOf315
 v229:=Tryz.zeroValue315
theorem ZoG (w:World):Calls prog 92 #[.slice none 0 0] w (fun e w'=>e = .returned (.tuple #[])∧w' = w):=
 Go.calls_of_every_depth fun D=>Go.Proofs.AnyS.slices_Sort_int_none_in Zmu D none 0 w
theorem Zmg {w:World} {y:Ys} : ∀ {l:List Int} {xs:List Value},PVs (l.flatMap Zo) xs w y→xs=l.map (Value.int .i64) ∧ ∀ x ∈ l,inR .i64 x
 | [],[],_=>⟨rfl,fun x hx=>by cases hx⟩
 | [],_ :: _,h=>h.elim
 | x :: l,[],h=>h.elim
 | x :: l,v :: xs,h=>by
  have h1:v = .int .i64 x∧inR .i64 x:=h.1.2
  obtain ⟨h2,h3⟩:=Zmg (l:=l) (xs:=xs) h.2
  exact ⟨by rw [h1.1,h2];rfl,fun z hz=>by rcases Yp.1 hz with rfl | hz;exact h1.2;exact h3 z hz⟩
theorem ZhM {w:World} {y:Ys} : ∀ {l:List Int},(∀ x ∈ l,inR .i64 x)→PVs (l.flatMap Zo) (l.map (Value.int .i64)) w y
 | [],_=>trivial
 | x :: l,h=>⟨⟨rfl,rfl,h x W5⟩,ZhM fun z hz=>h z WK⟩
theorem Zq2 {l:List Int} {j:Nat} (hj:j<l.length):(l.toArray)[j]! = l[j]:=by simp [hj]
theorem ZlC {w:World} {g n:Nat} {d:List Int} {os:Array Obj} {cur:Array Value} {e:TypeId} (hg:w.heap[g]? = some (.cells cur e (0,0))) (b:Nat) (hb:b<w.heap.size) :
  (Go.Sort.grow (Go.Sort.putRow (Value.int .i64) (Go.Sort.ahead w n) g 0 d.toArray) os).heap[b]? = if b=g then some (.cells (Go.Sort.putCells (Value.int .i64) 0 d.toArray cur) e (0,0)) else w.heap[b]?:=by
 unfold Go.Sort.grow Go.Sort.putRow Go.Sort.mapBlock Go.Sort.ahead
 simp only
 rw [Array.getElem?_append_left (by simpa using hb),Array.getElem?_modify]
 by_cases h:g=b
 ·subst h
  rw [Yg rfl,Yg rfl,hg];rfl
 ·rw [Yb h,Yb (fun e=>h e.symm)]
theorem Zrs {cur:Array Value} {d:List Int} (h:d.length≤cur.size):(Go.Sort.putCells (Value.int .i64) 0 d.toArray cur).toList.take d.length=d.map (Value.int .i64):=by
 apply List.ext_getElem
 ·simp [Go.Sort.putCells];omega
 ·intro i h1 h2
  have hi:i<d.length:=Wk
  simp [Go.Sort.putCells,hi]
theorem Zmv (v:Value) (l:List Int) (hlm:l.length≤1000000):FnG prog 92 1 [.is v] [ZM 3 1 Zo l v] (.tup []) (fun _=>[ZM 3 1 Zo (l.mergeSort leI) v]):=fun w F vs hw hle hvs hpr=>by
 match vs,hvs with
 | [u],hvs=>
  have hu:u=v:=hvs.1.1
  subst hu
  obtain ⟨xs,⟨hxl,hx⟩,hp,hf⟩:=hpr 0 _ rfl
  rcases hx with ⟨rfl,h0⟩ | ⟨g,cap,cur,rfl,_,hg,hn,hcap,hcs,hct⟩
  ·have hl:l = []:=YX h0
   subst hl
   refine (ZoG w).mono ?_
   rintro e w' ⟨rfl,rfl⟩
   refine ⟨.tuple #[],F,rfl,hw,⟨rfl,rfl,rfl,YE _,fun _ _ _=>rfl,fun _ _=>rfl,fun n hn b hb=>.inl ⟨n,hn,hb⟩⟩,hle,⟨[],rfl,tv⟩,fun i h hi=>?_⟩
   match i,hi with
   | 0,hi=>simp at hi;subst hi;exact ⟨xs,⟨hxl,.inl ⟨rfl,rfl⟩⟩,by simpa using hp,hf⟩
  ·have hgs:g<w.heap.size:=(Y6.1 hg).1
   obtain ⟨hxe,hin⟩:=Zmg hp
   have hcl:l.length≤cur.size:=by rw [hcs];omega
   have hbig:l.length<4611686018427387904:=ow
   have hcur:∀ j (hj:j<l.length),cur[j]? = some (.int .i64 l[j]):=fun j hj=>by
    have h1:(cur.toList.take (l.length*1))[j]? = (l.map (Value.int .i64))[j]?:=by rw [hct,hxe]
    rw [List.getElem?_take_of_lt ow] at h1
    simpa [hj] using h1
   have hH:Go.Sort.Holds (Value.int .i64) w g 0 l.toArray:=fun j hj=>by
    have hj':j<l.length:=XY
    refine ⟨?_,?_⟩
    ·rw [Zq2 hj',Yaj,ZbK hg];exact hcur j hj'
    ·simp [World.frozen?,hg]
   have hcalls:Calls prog 92 #[.slice (some ⟨g,0,none⟩) l.length cap] w fun e w'=>e = .returned (.tuple #[]) ∧ ∃ n os,w' = Go.Sort.grow (Go.Sort.putRow (Value.int .i64) (Go.Sort.ahead w n) g 0 (l.mergeSort leI).toArray) os:=Go.Proofs.Any.slices_Sort_int Zmu g 0 cap l w hH hgs hbig
   refine hcalls.mono ?_
   rintro e w' ⟨rfl,n,os,rfl⟩
   have hsl:(l.mergeSort leI).length=l.length:=List.length_mergeSort l
   have hheap:=fun b hb=>ZlC (n:=n) (d:=l.mergeSort leI) (os:=os) hg b hb
   have hsz:(Go.Sort.grow (Go.Sort.putRow (Value.int .i64) (Go.Sort.ahead w n) g 0 (l.mergeSort leI).toArray) os).heap.size=w.heap.size+os.size:=by simp [Go.Sort.ahead]
   have hfg:F 1 g:=(hf g).2 rfl
   have hst:Stp (List.range' 1 1) w F (Go.Sort.grow (Go.Sort.putRow (Value.int .i64) (Go.Sort.ahead w n) g 0 (l.mergeSort leI).toArray) os) F:=
    ⟨rfl,rfl,rfl,by rw [hsz];omega,fun b hb hn=>by
     rw [hheap b hb,Yb (fun e=>by subst e;exact hn 1 W5 hfg)],fun _ _=>rfl,fun n hn b hb=>.inl ⟨n,hn,hb⟩⟩
   refine ⟨.tuple #[],F,rfl,⟨hw.dis,fun n b hb=>by rw [hsz];have:=hw.bd n b hb;omega⟩,hst,hle,⟨[],rfl,tv⟩,fun i h hi=>?_⟩
   match i,hi with
   | 0,hi=>
    simp only [Ybl,Yae] at hi
    subst hi
    refine ⟨(l.mergeSort leI).map (Value.int .i64),⟨by simp,.inr ⟨g,cap,_,by rw [hsl],Yo _,(hheap g hgs).trans (Yg Z),ow,hcap,by simp [Go.Sort.putCells,hcs],?_⟩⟩,ZhM fun x hx=>hin x ((YaO l leI).mem_iff.1 hx),hf⟩
    rw [Nat.mul_one];exact Zrs ow
theorem Z6 {α:Type} [Inhabited α] {p:α→Bool} {l:List α} {j:Nat} (h:j<l.length):(l.take (j+1)).filter p=(l.take j).filter p++if p (Nn l j)=true then [Nn l j] else []:=by
 rw [ZN h,Y5]
 congr 1
 by_cases e:p (Nn l j)=true
 ·rw [Yg e];simp [e]
 ·rw [Yb e];simp at e;simp [e]
def Zce {α:Type} [Inhabited α] (p:α→Bool) (l:List α):Int:=match l.findIdx? p with
 | some i=>i
 | none=>-1
theorem ZkN {α:Type} [Inhabited α] {p:α→Bool} {l:List α} (h:∀ k,k<l.length→p (Nn l k)=false):Zce p l = -1:=by
 unfold Zce
 have:l.findIdx? p=none:=List.findIdx?_eq_none_iff.2 fun x hx=>by
  obtain ⟨k,hk,rfl⟩:=List.mem_iff_getElem.1 hx
  rw [← Zu hk];exact h k hk
 rw [this]
theorem Zok {α:Type} [Inhabited α] {p:α→Bool} {l:List α} {i:Nat} (hi:i<l.length) (h:p (Nn l i)=true) (h2:∀ k,k<i→p (Nn l k)=false):Zce p l=i:=by
 unfold Zce
 have:l.findIdx? p=some i:=List.findIdx?_eq_some_iff_getElem.2 ⟨hi,by rw [← Zu hi];exact h,fun k hk=>by rw [← Zu ow,h2 k hk];decide⟩
 rw [this]
theorem ZkP {α:Type} [Inhabited α] (p:α→Bool) (l:List α):(Zce p l = -1 ∧ ∀ k,k<l.length→p (Nn l k)=false) ∨ ∃ i:Nat,Zce p l=i∧i<l.length∧p (Nn l i)=true ∧ ∀ k,k<i→p (Nn l k)=false:=by
 cases h:l.findIdx? p with
 | none=>
  left
  refine ⟨by unfold Zce;rw [h],fun k hk=>?_⟩
  have:=List.findIdx?_eq_none_iff.1 h l[k] (YbB hk)
  rw [Zu hk];exact this
 | some i=>
  right
  obtain ⟨h1,h2,h3⟩:=List.findIdx?_eq_some_iff_getElem.1 h
  refine ⟨i,by unfold Zce;rw [h],h1,by rw [Zu h1];exact h2,fun k hk=>?_⟩
  rw [Zu ow]
  simpa using h3 k hk
theorem ZhX:inR .i64 0:=by show IntKind.min .i64≤0∧0≤IntKind.max .i64;decide
theorem Zmf (l:List Int) (hl:l.length≤1000000):FnG prog 91 1 [.sl Zo l] [.star []] (PV.one) (fun v=>[ZM 3 1 Zo l v]):=by
 refine FnG.mk func91 Z ntmps91 Z kr fun B F0 a w F V hG O=>?_
 obtain ⟨F,O⟩:=O.nM [0] [0]
 refine Ya (rZ O (qC qZ) V Ju [0] fun O=>(Ya (Ya ?_)))
 refine Zg O (qR rr (qf (Zdg YbT .t) r1 qz qZ)) V DX [0] Z Z fun a w F O=>?_
 obtain ⟨β4,hβ4,O⟩:=O.pickBool 4 rfl
 obtain ⟨F,O⟩:=O.nM DX [0]
 refine Za (Zb O Z (fun hc0=>?_) (fun hc0=>?_))
 ·have hg:l = []:=hβ4 hc0
  refine Ya (rZ O (qC qZ) V Ju [0] fun O=>(Yh (Zd ?_)))
  have O:=O.fresh 1 rfl
  have O:=O.turn 1 Z (Zas (T:=3) (sz:=1) (R:=Zo))
  have O:=O.turn 1 Z (r':=RS.hp (ZM 3 1 Zo l (.slice none 0 0))) (fun _ _ _ _ h=>by rw [hg];exact h)
  refine Zen (h':=fun v=>ZM 3 1 Zo l v) hG O Z (.tmp Z .nil) (.one .one) rfl
 have hg:l = [] ++ l:=rfl
 refine Yd (Za (Ya (rS O (qf (ZaI (R:=Zo) (sz:=1) 101 YbT kr) trivial qz (qR rr (qf (o_append (sz:=1) (bs:=8) 101 (.mk' YbT kr kr) Wt .same (.sl .t) (by simp only [Yc,Yn];omega) We) ⟨rfl,rfl,tv⟩ ⟨rfl,tv⟩ (qO rr qZ)))) V [2] QK fun τ O=>?_)))
 have O:=X8
 generalize τ 7=v7 at O
 refine Za (Yh ?_)
 obtain ⟨F,O⟩:=O.rename 101 1 Z rfl
 have O:=O.turn 1 Z (r':=RS.hp (ZM 3 1 Zo l v7)) (fun _ _ _ _ h=>by rw [hg];exact h)
 refine Zen (h':=fun v=>ZM 3 1 Zo l v) hG O Z (.tmp Z .nil) (.one .one) rfl
def ZS {α:Type} [DecidableEq α]:List α→List α
 | []=>[]
 | [x]=>[x]
 | x :: y :: l=>if x=y then ZS (y :: l) else x :: ZS (y :: l)
theorem Zdn {α:Type} [DecidableEq α] (a b:α):∀ l:List α,ZS (l ++ [a,b])=if a=b then ZS (l ++ [a]) else ZS (l ++ [a]) ++ [b]
 | []=>by
  show (if a=b then [b] else a :: [b])=if a=b then [a] else [a] ++ [b]
  split
  ·rename_i h;rw [h]
  ·rfl
 | [x]=>by
  have ih:=Zdn a b []
  show (if x=a then ZS ([] ++ [a,b]) else x :: ZS ([] ++ [a,b]))=if a=b then (if x=a then ZS ([] ++ [a]) else x :: ZS ([] ++ [a])) else (if x=a then ZS ([] ++ [a]) else x :: ZS ([] ++ [a])) ++ [b]
  rw [ih]
  by_cases h1:x=a <;> by_cases h2:a=b <;> simp [h1,h2]
 | x :: y :: l=>by
  have ih:=Zdn a b (y :: l)
  show (if x=y then ZS (y :: l ++ [a,b]) else x :: ZS (y :: l ++ [a,b]))=if a=b then (if x=y then ZS (y :: l ++ [a]) else x :: ZS (y :: l ++ [a])) else (if x=y then ZS (y :: l ++ [a]) else x :: ZS (y :: l ++ [a])) ++ [b]
  rw [ih]
  by_cases h1:x=y <;> by_cases h2:a=b <;> simp [h1,h2]
theorem Zfw {α:Type} [DecidableEq α] [Inhabited α] {l:List α} {p:Nat} (h1:1≤p) (h2:p<l.length):ZS (l.take (p+1))=if Nn l (p - 1)=Nn l p then ZS (l.take p) else ZS (l.take p) ++ [Nn l p]:=by
 obtain ⟨q,rfl⟩:∃ q,p=q+1:=⟨p - 1,ow⟩
 rw [ZN h2,ZN (show q<l.length by omega),Yt]
 exact Zdn _ _ _
theorem Zgf {α:Type} [DecidableEq α]:∀ {l:List α},l.length≤1→ZS l=l
 | [],_=>rfl
 | [x],_=>rfl
 | x :: y :: l,h=>by simp at h
theorem ZsR (v:Value) (l:List Int) (hll:l.length≤1000000):FnG prog 212 1 [.is v] [ZM 3 1 Zo l v] (PV.one) (fun v=>[ZM 3 1 Zo (ZS l) v]):=by
 refine FnG.mk func212 Z ntmps212 Z kr fun B F0 a w F V hG O=>?_
 replace O:=O.turn 1 Z (r':=.ob (.val v) (ZM 3 1 Zo l)) (fun _ _ _ _ h=>h)
 refine Ya (rZ O (qC qZ) V Ju QL fun O=>(Ya (Ya ?_)))
 refine rZ O (qR rr (qf (Zam 1 YbT .is) r1 r1 (qf (ZaR .t qi) r1 qz qZ))) V [8,2,0] QL fun O=>?_
 refine Zb O Z (fun hc0=>?_) (fun hc0=>?_)
 ·have hg:(ZS l)=l:=Zgf WI
  refine Ya (rZ O (qR rr (qO rr qZ)) V Ju QL fun O=>(Yh (Zd ?_)))
  have O:=O.turn 1 Z (r':=RS.hp (ZM 3 1 Zo (ZS l) v)) (fun _ _ _ _ h=>by rw [hg];exact h)
  refine Zen (h':=fun v=>ZM 3 1 Zo (ZS l) v) hG O Z (.tmp Z .nil) (.one .one) rfl
 have hl2:2≤l.length:=WI
 refine Yd (Za (Ya (Ya (rZ O (qI qZ) V JR QL fun O=>Ye ?_))))
 refine Zh (σ:=Nat) [0,2] [0,1] (fun s=>[(3,.pv (.int .i64 (s:Int)))]) (fun s=>[]) (fun s=>1≤s∧s≤l.length∧ZS (l.take s)=l.take s) (fun s=>l.length - s) (1) O ⟨rfl,rfl,rfl,tv⟩ ⟨rfl,rfl,tv⟩ ⟨ow,ow,Zgf WF⟩ ?_
 clear O;intro k a w F hC O
 have hC:=X3
 obtain ⟨F,O⟩:=O.nM JR QL
 have O:=X2
 obtain ⟨hk1,hkl,hkc⟩:=hC
 have hkw:IntKind.wrap .i64 ((k:Int) - 1)=(k:Int) - 1:=Zj ow
 refine Ya (Ya (rZ O (qR rr (qR rr (qf (Zam 1 YbT .is) r1 r1 (qL r2)))) V [13,3,2,0] QL fun O=>?_))
 refine Zb O Z (fun hc1=>?_) (fun hc1=>?_)
 ·have hil:k<l.length:=WH
  have hst:=Zfw (l:=l) hk1 hil
  have hy0:(IntKind.wrap .i64 ((k:Int) - 1)).toNat=k - 1:=by rw [hkw];omega
  refine Yd (Za (Ya (Ye (Ya (Zr O (qR rr (qR rr (qf (o_indexAddr_row (sz:=1) 1 (.mk YbT kr) .is .t ow ow Wd) r2 r1 (qf (Zs (ag:=false) (sz':=1) (sz:=1) 1 .t Wt ow kr kr kr) r1 r1 (qR rr (qR rr (qf (o_sub .t qi) r1 qz (qf (o_indexAddr_row (sz:=1) 1 (.mk YbT kr) .is .t (by rw [hkw];omega) (by rw [hkw];omega) Wd) r2 r1 (qf (Zs (ag:=false) (sz':=1) (sz:=1) 1 .t Wt (by rw [hkw];omega) kr kr kr) r1 r1 (qf (o_eql .t .t) r2 qz qZ)))))))))) V [25,3,2,0] QL Z Z fun a w F O=>?_)))))
  try dsimp only [List.map,xD,xE,xT,xU,ldSF,Zo] at O
  try simp only [Yf] at O
  refine Za (Zb O Z (fun hc2=>?_) (fun hc2=>?_))
  ·have heq:Nn l (k - 1)=Nn l k:=by rw [hy0] at hc2;simp at hc2;exact hc2.symm
   rw [Yg heq,hkc] at hst
   have hst0:=hst.symm
   refine Ya (rZ O (qR rr (qR rr (qf (Zk9 (sz:=1) 1 (.mk YbT kr) .is .t ow ow) r2 r1 (qO rr qZ)))) V [4,3,2,0] QL fun O=>(Ya (Ya ?_)))
   refine rZ O (qI qZ) V Dh QL fun O=>Ye ?_
   have hC0:1≤1∧1≤l.length - k∧k≤k∧k≤k+1 - 1∧l.length=l.length∧l.take k=ZS (l.take (k+1)) ∧ ∀ q,k+1 - 1≤q→q<l.length→Nn l q=Nn l q:=⟨ow,ow,ow,ow,rfl,hst0,fun q _ _=>rfl⟩
   refine Zh (σ:=Nat×Nat×List Int) [0,2,4] [0] (fun s=>[(3,.pv (.int .i64 (s.1:Int))),(5,.pv (.int .i64 (s.2.1:Int)))]) (fun s=>[(1,.ob (.val v) (ZM 3 1 Zo s.2.2))]) (fun s=>1≤s.2.1∧s.2.1≤l.length - k∧k≤s.1∧s.1≤k+s.2.1 - 1∧s.2.2.length=l.length∧s.2.2.take s.1=ZS (l.take (k+s.2.1)) ∧ ∀ q,k+s.2.1 - 1≤q→q<l.length→Nn s.2.2 q=Nn l q) (fun s=>l.length - s.2.1) ((k),(1),(l)) O ⟨rfl,rfl,rfl,rfl,rfl,tv⟩ ⟨rfl,rfl,tv⟩ hC0 ?_
   clear O;intro s a w F hC O
   obtain ⟨k1,j,l1⟩:=s
   have hC:=X3
   obtain ⟨F,O⟩:=O.nM Dh QL
   have O:=X2
   obtain ⟨hj1,hjk,hkk,hkj,hl1,htk,hrest⟩:=hC
   have hjw:IntKind.wrap .i64 ((j:Int) - 1)=(j:Int) - 1:=Zj ow
   refine Ya (Ya (rZ O (qR rr (qR rr (qf (Zqz 1 YbT .t ow) r1 r1 (qL r2)))) V [32,5,4,3,2,0] QL fun O=>?_))
   refine Zb O Z (fun hc3=>?_) (fun hc3=>?_)
   ·have hjl:k+j<l.length:=WV
    have hx1:(Nn l1 (((k:Int)).toNat+((j:Int)).toNat))=Nn l (k+j):=by rw [Yf,Yf];exact hrest _ ow hjl
    have hx0:Nn l1 (((k:Int)).toNat+(IntKind.wrap .i64 ((j:Int) - 1)).toNat)=Nn l (k+j - 1):=by rw [hjw,show ((k:Int)).toNat+((j:Int) - 1).toNat=k+j - 1 by omega];exact hrest _ ow ow
    have hstp:=Zfw (l:=l) (p:=k+j) ow hjl
    refine Yd (Za (Ya (Ye (Ya (Zr O (qR rr (qR rr (qf (o_indexAddr_sub (sz:=1) 1 (.mk YbT kr) .t .t ow ow Wd) r2 r1 (qf (Zs (ag:=false) (sz':=1) (sz:=1) 1 .t Wt ow kr kr kr) r1 r1 (qR rr (qR rr (qf (o_sub .t qi) r1 qz (qf (o_indexAddr_sub (sz:=1) 1 (.mk YbT kr) .t .t (by rw [hjw];omega) (by rw [hjw];omega) Wd) r2 r1 (qf (Zs (ag:=false) (sz':=1) (sz:=1) 1 .t Wt (by rw [hjw];omega) kr kr kr) r1 r1 (qf (o_neq .t .t) r2 qz qZ)))))))))) V [44,5,4,3,2,0] QL Z Z fun a w F O=>?_)))))
    try dsimp only [List.map,xD,xE,xT,xU,ldSF,Zo] at O
    try simp only [Yf] at O
    refine Za (Zb O Z (fun hc4=>?_) (fun hc4=>?_))
    ·have hne:¬ Nn l (k+j - 1)=Nn l (k+j):=by rw [← hx1,← hx0];simp at hc4 ⊢;exact fun e=>hc4 e.symm
     rw [Yb hne] at hstp
     obtain ⟨i2,hi2e⟩:∃ i2,i2=k1+1:=⟨_,rfl⟩
     have hi2:IntKind.wrap .i64 ((k1:Int)+1)=(i2:Int):=Q3
     obtain ⟨l2,hl2e⟩:∃ l2,l2=l1.set k1 (Nn l1 (k+j)):=⟨_,rfl⟩
     have hx1b:Nn l1 (k+j)=Nn l (k+j):=hrest _ ow hjl
     have hC2:1≤j+1∧j+1≤l.length - k∧k≤i2∧i2≤k+(j+1) - 1∧l2.length=l.length∧l2.take i2=ZS (l.take (k+(j+1))) ∧ ∀ q,k+(j+1) - 1≤q→q<l.length→Nn l2 q=Nn l q:=⟨ow,ow,ow,ow,by rw [hl2e,YR];exact hl1,by rw [hl2e,hi2e,ZN WL,List.take_set_of_le (YE _),htk,Zu WL,List.getElem_set_self,hx1b];exact hstp.symm,fun q hq hq2=>by rw [hl2e,Zu WL,List.getElem_set_ne ow,← Zu ow];exact hrest q ow hq2⟩
     refine Ya (Zg O (qR rr (qR rr (qR rr (qR rr (qf (o_indexAddr_sub (sz:=1) 1 (.mk YbT kr) .t .t ow ow Wd) r2 r1 (qf (Zs (ag:=false) (sz':=1) (sz:=1) 1 .t Wt ow kr kr kr) r1 r1 (qf (o_indexAddr_row (sz:=1) 1 (.mk YbT kr) .is .t ow ow Wd) r2 r1 (qf (Zk1 (R:=Zo) (sz:=1) (v:=(Nn l1 (((k:Int)).toNat+((j:Int)).toNat))) 1 .t Wt ow .t Z one_int kr) r2 r1 qZ)))))))) V Dh QL Z Z fun a w F O=>?_)
     try simp only [Yf] at O
     rw [← hl2e] at O
     refine Za (Zg O (qR rr (qp r1 (qO rr qZ))) V Dh QL Z Z fun a w F O=>Zf (Za ?_))
     refine rZ O (qR rr (qp r1 (qO rr qZ))) V Dh QL fun O=>?_
     have hmu:l.length - (j+1)<l.length - j:=ow
     replace O:=O.ent (i:=3) (s':=.pv (.int .i64 (i2:Int))) Z (.int hi2)
     replace O:=O.eI 5 j
     obtain ⟨F,O⟩:=O.nM [4,2,0,5,3] Jn
     exact ⟨((i2),(j+1),(l2)),F,hC2,O,hmu⟩
    have heq2:Nn l (k+j - 1)=Nn l (k+j):=by rw [← hx1,← hx0];simp at hc4 ⊢;exact hc4.symm
    rw [Yg heq2] at hstp
    obtain ⟨i2,hi2e⟩:∃ i2,i2=k1:=⟨_,rfl⟩
    have hi2:(k1:Int)=(i2:Int):=QH
    obtain ⟨l2,hl2e⟩:∃ l2,l2=l1:=⟨_,rfl⟩
    rw [← hl2e] at O
    have hC2:1≤j+1∧j+1≤l.length - k∧k≤i2∧i2≤k+(j+1) - 1∧l2.length=l.length∧l2.take i2=ZS (l.take (k+(j+1))) ∧ ∀ q,k+(j+1) - 1≤q→q<l.length→Nn l2 q=Nn l q:=⟨ow,ow,ow,ow,by rw [hl2e];exact hl1,by rw [hl2e,hi2e,htk];exact hstp.symm,fun q hq hq2=>by rw [hl2e];exact hrest q ow hq2⟩
    refine Yd (Zf (Za (rZ O (qR rr (qp r1 (qO rr qZ))) V Dh QL fun O=>?_)))
    have hmu:l.length - (j+1)<l.length - j:=ow
    replace O:=O.ent (i:=3) (s':=.pv (.int .i64 (i2:Int))) Z (.int hi2)
    replace O:=O.eI 5 j
    obtain ⟨F,O⟩:=O.nM [4,2,0,5,3] Jn
    exact ⟨((i2),(j+1),(l2)),F,hC2,O,hmu⟩
   have hjl:k+j=l.length:=WV
   have hg:(ZS l)=(l1.take k1++List.replicate (l1.length - k1) (0:Int)).take k1:=by rw [List.take_append_of_le_length WF,Ya4,Nat.min_self,htk,hjl,Yy]
   refine Ym (Ze (Ze (Zk (Za (Ya (rZ O (qR rr (qR rr (qf (Zk9 (sz:=1) 1 (.mk YbT kr) .is .t ow ow) r2 r1 (qf (ZlO (R:=Zo) (z:=(0:Int)) (zs:=[.int .i64 0]) 1 YbT kr Z Z (fun _ _=>⟨⟨rfl,rfl,ZhX⟩,tv⟩) Wt .t Wb) r1 r1 qZ)))) V JR QL fun O=>Ya ?_))))))
   refine rS O (qR rr (qR rr (qf (ZdV (sz:=1) 1 (.mk YbT kr) Wt .is .t ow Wb) r2 r1 (qO rr qZ)))) V JR QL fun τ O=>?_
   have O:=XN
   generalize τ 59=v59 at O
   refine Za (Yh (Zl (Zd (Zd (Zl (Zd ?_))))))
   have O:=O.turn 1 Z (r':=RS.hp (ZM 3 1 Zo (ZS l) v59)) (fun _ _ _ _ h=>by rw [hg];exact h)
   refine Zen (h':=fun v=>ZM 3 1 Zo (ZS l) v) hG O Z (.tmp Z .nil) (.one .one) rfl
  have hne:¬ Nn l (k - 1)=Nn l k:=by rw [hy0] at hc2;simp at hc2;exact fun e=>hc2 e.symm
  rw [Yb hne] at hst
  refine Yd (Zf (Za (rZ O (qR rr (qp r1 (qO rr qZ))) V JR QL fun O=>?_)))
  replace O:=O.eI 3 k
  obtain ⟨F,O⟩:=O.nM [2,0,3] QL
  exact ⟨(k+1),F,⟨ow,ow,by rw [hst,hkc,← ZN hil]⟩,O,ow⟩
 have hg:(ZS l)=l:=by rw [show k=l.length by simp at hc1;omega,Yy] at hkc;exact hkc
 refine Ym (Ze (Ze (Zk (Za (Ya (rZ O (qR rr (qO rr qZ)) V [2] QL fun O=>Yh ?_))))))
 have O:=O.turn 1 Z (r':=RS.hp (ZM 3 1 Zo (ZS l) v)) (fun _ _ _ _ h=>by rw [hg];exact h)
 refine Zen (h':=fun v=>ZM 3 1 Zo (ZS l) v) hG O Z (.tmp Z .nil) (.one .one) rfl
def putIR (n:Int):List Int→Bool→List Int
 | [],d=>if d then [] else [n]
 | x :: l,d=>(if d=false∧n≤x then [n] else [])++(if x=n then [] else [x])++putIR n l (d || decide (n≤x))
def Zdv (l:List Int) (n:Int):List Int:=putIR n l false
abbrev ZjS (l:List Int):Prop:=l.Pairwise fun a b=>a<b
theorem ZfV {n:Int} : ∀ {l:List Int},(∀ x ∈ l,n<x)→putIR n l true=l
 | [],_=>rfl
 | x :: l,h=>by
  have:=h x W5
  rw [putIR,YbD,ZfV fun y hy=>h y (by simp [hy]),Yb W5,Yb ow]
  rfl
theorem ZiR {n:Int} : ∀ {l:List Int},ZjS l→ZjS (Zdv l n) ∧ ∀ x,x ∈ Zdv l n ↔ x ∈ l∨x=n
 | [],_=>by simp [Zdv,putIR]
 | y :: l,h=>by
  have h':=YB.1 h
  unfold Zdv
  by_cases h1:y<n
  ·have e:putIR n (y :: l) false=y :: putIR n l false:=by
    rw [putIR,Yb ow,Yb ow,show (false || decide (n≤y))=false by simp;omega];rfl
   have ih:=ZiR (n:=n) h'.2
   rw [e]
   refine ⟨YB.2 ⟨fun p hp=>?_,ih.1⟩,fun x=>?_⟩
   ·rcases (ih.2 p).1 hp with hp | rfl
    ·exact h'.1 p hp
    ·exact h1
   ·have:=ih.2 x
    unfold Zdv at this
    simp only [Yp,this]
    constructor
    ·rintro (h | h | h)
     ·exact .inl (.inl h)
     ·exact .inl (.inr h)
     ·exact .inr h
    ·rintro ((h | h) | h)
     ·exact .inl h
     ·exact .inr (.inl h)
     ·exact .inr (.inr h)
  ·by_cases h2:y=n
   ·subst h2
    rw [putIR,Yg ⟨rfl,Yau _⟩,Yg rfl,show (false || decide (y≤y))=true by simp,ZfV h'.1]
    exact ⟨h,fun x=>by simp;intro e;exact .inl e⟩
   ·rw [putIR,Yg ⟨rfl,ow⟩,Yb h2,show (false || decide (n≤y))=true by simp;omega,ZfV fun x hx=>by have:=h'.1 x hx;omega]
    refine ⟨YB.2 ⟨fun p hp=>?_,h⟩,fun x=>by simp;constructor <;> (rintro (h | h | h) <;> simp [h])⟩
    rcases Yp.1 hp with rfl | hp
    ·omega
    ·have:=h'.1 p hp;omega
def ZbE (l:List Int):List Int:=l.foldl Zdv []
theorem Zbl (l:List Int):ZjS (ZbE l) ∧ ∀ x,x ∈ ZbE l ↔ x ∈ l:=by
 have key:∀ (l acc:List Int),ZjS acc→ZjS (l.foldl Zdv acc) ∧ ∀ x,x ∈ l.foldl Zdv acc ↔ x ∈ acc∨x ∈ l:=by
  intro l
  induction l with
  | nil=>intro acc h;exact ⟨h,fun x=>by simp⟩
  | cons y l ih=>
   intro acc h
   have h1:=ZiR (n:=y) h
   have h2:=ih (Zdv acc y) h1.1
   refine ⟨h2.1,fun x=>?_⟩
   rw [Yas,h2.2 x,h1.2 x,Yp]
   constructor
   ·rintro ((h | h) | h)
    ·exact .inl h
    ·exact .inr (.inl h)
    ·exact .inr (.inr h)
   ·rintro (h | h | h)
    ·exact .inl (.inl h)
    ·exact .inl (.inr h)
    ·exact .inr h
 have:=key l [] List.Pairwise.nil
 exact ⟨this.1,fun x=>by rw [show ZbE l=l.foldl Zdv [] from rfl,this.2 x];simp⟩
theorem ZfE:∀ {a b:List Int},ZjS a→ZjS b→(∀ x,x ∈ a ↔ x ∈ b)→a=b
 | [],[],_,_,_=>rfl
 | [],y :: b,_,_,h=>by have:=(h y).2 W5;cases this
 | x :: a,[],_,_,h=>by have:=(h x).1 W5;cases this
 | x :: a,y :: b,ha,hb,h=>by
  have ha':=YB.1 ha
  have hb':=YB.1 hb
  have e:x=y:=by
   rcases Yp.1 ((h x).1 W5) with e | e
   ·exact e
   ·rcases Yp.1 ((h y).2 W5) with e2 | e2
    ·exact e2.symm
    ·have:=hb'.1 x e;have:=ha'.1 y e2;omega
  subst e
  congr 1
  refine ZfE ha'.2 hb'.2 fun z=>⟨fun hz=>?_,fun hz=>?_⟩
  ·rcases Yp.1 ((h z).1 WK) with e | e
   ·have:=ha'.1 z hz;omega
   ·exact e
  ·rcases Yp.1 ((h z).2 WK) with e | e
   ·have:=hb'.1 z hz;omega
   ·exact e
def Zbf:List Int→List Int
 | []=>[]
 | x :: l=>match Zbf l with
  | []=>[x]
  | y :: m=>if x=y then y :: m else x :: y :: m
theorem ZeZ:∀ (x:Int) (l:List Int),∃ m,Zbf (x :: l)=x :: m
 | x,[]=>⟨[],rfl⟩
 | x,y :: l=>by
  obtain ⟨m,hm⟩:=ZeZ y l
  unfold Zbf
  rw [hm]
  by_cases h:x=y
  ·subst h;exact ⟨m,Yg rfl⟩
  ·exact ⟨y :: m,Yb h⟩
theorem Zfx (x y:Int) (l:List Int):Zbf (x :: y :: l)=if x=y then Zbf (y :: l) else x :: Zbf (y :: l):=by
 obtain ⟨m,hm⟩:=ZeZ y l
 conv=>lhs;unfold Zbf
 rw [hm]
theorem ZdM:∀ {l:List Int},l.Pairwise (fun a b=>a≤b)→ZjS (Zbf l) ∧ ∀ x,x ∈ Zbf l ↔ x ∈ l
 | [],_=>by simp [Zbf]
 | [x],_=>by simp [Zbf]
 | x :: y :: l,h=>by
  have h':=YB.1 h
  have ih:=ZdM h'.2
  rw [Zfx]
  split
  ·rename_i e
   subst e
   exact ⟨ih.1,fun z=>by rw [ih.2 z];simp⟩
  ·rename_i e
   refine ⟨YB.2 ⟨fun z hz=>?_,ih.1⟩,fun z=>by rw [Yp,ih.2 z,← Yp]⟩
   have h1:=h'.1 y W5
   rcases Yp.1 ((ih.2 z).1 hz) with rfl | hz2
   ·omega
   ·have:=(YB.1 h'.2).1 z hz2
    omega
theorem ZoO (l:List Int):List.Pairwise (fun x y=>x≤y) (l.mergeSort leI):=by
 have:=Ybk (le:=leI) (fun a b c h1 h2=>by simp [leI] at *;omega) (fun a b=>by simp [leI];omega) l
 exact this.imp fun h=>by simpa [leI] using h
theorem Zlo (l:List Int):Zbf (l.mergeSort leI)=ZbE l:=
 ZfE (ZdM (ZoO l)).1 (Zbl l).1 fun x=>by rw [(ZdM (ZoO l)).2,(Zbl l).2];exact (YaO l leI).mem_iff
theorem Zio:∀ l:List Int,ZS l=Zbf l
 | []=>rfl
 | [x]=>rfl
 | x :: y :: l=>by
  rw [Zfx,← Zio (y :: l)];rfl
theorem Zgr {n x:Int} {l out r:List Int} {d:Bool} (hA:d=false∧n≤x) (V:¬ x=n) (h:out++putIR n (x :: l) d=r):out ++ [n] ++ [x] ++ putIR n l true=r:=by
 rw [← h,putIR,Yg hA,Yb V];simp [hA.2]
theorem Zgt {n x:Int} {l out r:List Int} {d:Bool} (hA:d=false∧n≤x) (V:x=n) (h:out++putIR n (x :: l) d=r):out ++ [n] ++ putIR n l true=r:=by
 rw [← h,putIR,Yg hA,Yg V];simp [hA.2]
theorem Zpo {n x:Int} {d:Bool} (hA:¬ (d=false∧n≤x)):(d || decide (n≤x))=d:=by
 cases d
 ·simp at hA ⊢;omega
 ·rfl
theorem Zgw {n x:Int} {l out r:List Int} {d:Bool} (hA:¬ (d=false∧n≤x)) (V:¬ x=n) (h:out++putIR n (x :: l) d=r):out ++ [x] ++ putIR n l d=r:=by
 rw [← h,putIR,Yb hA,Yb V,Zpo hA];simp
theorem Zgu {n x:Int} {l out r:List Int} {d:Bool} (hA:¬ (d=false∧n≤x)) (V:x=n) (h:out++putIR n (x :: l) d=r):out++putIR n l d=r:=by
 rw [← h,putIR,Yb hA,Yg V,Zpo hA];simp
theorem Ze9 {n:Int} : ∀ (l:List Int) (d:Bool),(putIR n l d).length≤l.length+1
 | [],d=>by cases d <;> simp [putIR]
 | x :: l,d=>by
  have h1:=Ze9 (n:=n) l (d || decide (n≤x))
  have h2:∀ l:List Int,(putIR n l true).length≤l.length:=fun l=>by
   induction l with
   | nil=>simp [putIR]
   | cons y l ih=>
    rw [putIR,Yb W5,Yc,Yc,YbD]
    split <;> simp <;> omega
  rw [putIR,Yc,Yc]
  have h3:=h2 l
  by_cases hA:d=false∧n≤x
  ·rw [show (d || decide (n≤x))=true by simp [hA.2],Yg hA]
   split <;> simp <;> omega
  ·rw [Yb hA]
   split <;> simp <;> omega
theorem Zpy (l:List Int) (n:Int) (hl:l.length≤1000000):FnP prog 255 [.sl Zo l,.int .i64 n] (.sl Zo (Zdv l n)):=by
 refine FnP.mk func255 Z ntmps255 Z fun B a w F V hfr O=>?_
 have hll:=Sat.lenSl O (i:=0) rfl
 refine Ya (rZ O (qC qZ) V J0 [0] fun O=>Ya ?_)
 refine rZ O (qC qZ) V J6 [0] fun O=>Ya ?_
 refine rZ O qB V Xa4 [0] fun O=>(Ya (Ya ?_))
 refine rZ O (qR rr (qu YbT r1 (qJ qZ))) V JB [0] fun O=>Ye ?_
 replace O:=O.fresh 50 rfl
 replace O:=O.turn 50 Z (Zas (T:=3) (sz:=1) (R:=Zo))
 refine Zh (σ:=(Nat)×(Bool)×(Value)×(List Int)) [1,4,9,10] [0] (fun s=>[(11,.pv (.int .i64 (s.1:Int))),(6,.pv (.bool s.2.1)),(5,.pv (.is s.2.2.1))]) (fun s=>[(50,.ob (.val s.2.2.1) (ZM 3 1 Zo s.2.2.2))]) (fun s=>s.1≤l.length∧(s.2.2.2++putIR n (l.drop s.1) s.2.1=Zdv l n)) (fun s=>l.length - s.1) ((0),_,(.slice none 0 0),([])) O ⟨rfl,rfl,rfl,rfl,rfl,rfl,rfl,tv⟩ ⟨rfl,rfl,tv⟩ ⟨Yo _,rfl⟩ ?_
 clear O;intro s a w F hC O
 obtain ⟨i,d,v,out⟩:=s
 have hC:=X3
 obtain ⟨F,O⟩:=O.nM JB QU
 have O:=X2
 obtain ⟨hi,hq⟩:=hC
 have hol:=Yai List.length hq
 rw [Yc] at hol
 have htl:(Zdv l n).length≤l.length+1:=Ze9 l false
 refine Ya (rZ O (qL r2) V [12,11,10,9,6,5,4,1] QU fun O=>Ya ?_)
 refine Zb O Z (fun hc0=>?_) (fun hc0=>?_)
 ·have hil:i<l.length:=WI
  refine Yd (Za (Ya (Ye (Ya (Zg O (qy 1 YbT r2 (qf (oR false 1 .t) r1 qz (qO rr qZ))) V DU QU Z Z fun a w F O=>?_)))))
  try simp only [Yf] at O
  refine Za (Ya (Ya (rZ O (qR rr (qf (ZW .t) r1 qz (qR rr (qm Z Z Z Z (qm Z Z Z Z (qk Z (fun h=>Zcb (.w h) (.w h)) r3 qz (qf (ZF .t .t) r2 qz qZ))))))) V [21,11,10,9,8,6,5,4,1] QU fun O=>?_)))
  refine Zb O Z (fun hc1=>?_) (fun hc1=>?_)
  ·have hA:d=false∧n≤Nn l i:=WE
   refine Ya (rS O (qR rr (qR rr (qf (o_buildSliceE (sz:=1) (zs:=[.int .i64 0]) (r:=[(0,.tmp 23)]) (l:=[_]) YbT kr kr kr kr Z Z (.one Z .t one_int kr .nil) Z) r1 qz (qf (o_append (sz:=1) (bs:=8) 50 (.mk' YbT kr kr) Wt .is (.arr (l':=[n]) .t) Wx We) ⟨rfl,rfl,tv⟩ ⟨rfl,tv⟩ (qO rr qZ))))) V DU QU fun τ O=>?_)
   have O:=X8
   generalize τ 25=v25 at O
   refine Za (rZ O qB V DU QU fun O=>Ya ?_)
   refine rZ O (qR rr (qR rr (qf (o_neq .t .t) r2 qz qZ))) V [28,11,10,9,8,6,5,4,1] QU fun O=>?_
   refine Zb O Z (fun hc2=>?_) (fun hc2=>?_)
   ·have hBq:¬ Nn l i=n:=WD
    refine rS O (qR rr (qR rr (qf (o_buildSliceE (sz:=1) (zs:=[.int .i64 0]) (r:=[(0,.tmp 30)]) (l:=[_]) YbT kr kr kr kr Z Z (.one Z .t one_int kr .nil) Z) r1 qz (qf (o_append (sz:=1) (bs:=8) 50 (.mk' YbT kr kr) Wt .is (.arr (l':=[Nn l i]) .t) Wx We) ⟨rfl,rfl,tv⟩ ⟨rfl,tv⟩ (qO rr qZ))))) V JB QU fun τ O=>?_
    have O:=X8
    generalize τ 32=v32 at O
    refine Zf (Za (rZ O (qp r1 (qR rr qZ)) V JB QU fun O=>?_))
    replace O:=O.eI 11 i
    obtain ⟨F,O⟩:=O.nM Db JI
    exact ⟨((i+1),_,_,_),F,⟨ow,WM⟩,O,ow⟩
   have hBq:Nn l i=n:=WD
   refine Yd (Zf (Za (rZ O (qp r1 (qR rr qZ)) V JB QU fun O=>?_)))
   replace O:=O.eI 11 i
   obtain ⟨F,O⟩:=O.nM Db JI
   exact ⟨((i+1),_,_,_),F,⟨ow,WM⟩,O,ow⟩
  have hA:¬ (d=false∧n≤Nn l i):=by rintro ⟨h1,h2⟩;subst h1;simp at hc1;omega
  refine Yd (Za (Ya (rZ O (qR rr (qR rr (qf (o_neq .t .t) r2 qz qZ))) V [28,11,10,9,8,6,5,4,1] QU fun O=>?_)))
  refine Zb O Z (fun hc3=>?_) (fun hc3=>?_)
  ·have hBq:¬ Nn l i=n:=WS
   refine rS O (qR rr (qR rr (qf (o_buildSliceE (sz:=1) (zs:=[.int .i64 0]) (r:=[(0,.tmp 30)]) (l:=[_]) YbT kr kr kr kr Z Z (.one Z .t one_int kr .nil) Z) r1 qz (qf (o_append (sz:=1) (bs:=8) 50 (.mk' YbT kr kr) Wt .is (.arr (l':=[Nn l i]) .t) Wx We) ⟨rfl,rfl,tv⟩ ⟨rfl,tv⟩ (qO rr qZ))))) V JB QU fun τ O=>?_
   have O:=X8
   generalize τ 32=v32 at O
   refine Zf (Za (rZ O (qp r1 (qR rr qZ)) V JB QU fun O=>?_))
   replace O:=O.eI 11 i
   obtain ⟨F,O⟩:=O.nM Db JI
   exact ⟨((i+1),_,_,_),F,⟨ow,WM⟩,O,ow⟩
  have hBq:Nn l i=n:=WS
  refine Yd (Zf (Za (rZ O (qp r1 (qR rr qZ)) V JB QU fun O=>?_)))
  replace O:=O.eI 11 i
  obtain ⟨F,O⟩:=O.nM Db JI
  exact ⟨((i+1),_,_,_),F,⟨ow,WM⟩,O,ow⟩
 have hil:i=l.length:=WI
 refine Ym (Ze (Ze (Zk (Za (Ya (Ya (rZ O (qR rr (qf (ZW .t) r1 qz qZ)) V [35,5,4,1] QU fun O=>?_)))))))
 refine Zb O Z (fun hc4=>?_) (fun hc4=>?_)
 ·have hfin:out ++ [n] = Zdv l n:=KN
  refine rS O (qR rr (qR rr (qf (o_buildSliceE (sz:=1) (zs:=[.int .i64 0]) (r:=[(0,.tmp 37)]) (l:=[_]) YbT kr kr kr kr Z Z (.one Z .t one_int kr .nil) Z) r1 qz (qf (o_append (sz:=1) (bs:=8) 50 (.mk' YbT kr kr) Wt .is (.arr (l':=[n]) .t) Wx We) ⟨rfl,rfl,tv⟩ ⟨rfl,tv⟩ (qO rr qZ))))) V Jf QU fun τ O=>?_
  have O:=X8
  generalize τ 39=v39 at O
  refine Za (Ya (rZ O (qR rr (qO rr qZ)) V [4] QU fun O=>Yh ?_))
  obtain ⟨F,O⟩:=O.give 50 4 Z rfl
  refine Zx hfr O Z Z Z (.sl hfin)
 have hfin:out=Zdv l n:=by rw [hil,YaG] at hq;cases d with | false=>simp at hc4 | true=>simpa [putIR] using hq
 refine Yd (Za (Ya (rZ O (qR rr (qO rr qZ)) V [4] QU fun O=>Yh ?_)))
 obtain ⟨F,O⟩:=O.give 50 4 Z rfl
 refine Zx hfr O Z Z Z (.sl hfin)
structure OpD where
 read:Bool
 key:Int
 tx:Int
 nth:Int
 deriving DecidableEq,Inhabited
structure TxD where
 id:Int
 done:Bool
 ops:List OpD
 deriving DecidableEq,Inhabited
structure OrdD where
 key:Int
 txs:List Int
 deriving DecidableEq,Inhabited
structure Zw where
 txs:List TxD
 orders:List OrdD
 deriving DecidableEq,Inhabited
structure ZK where
 was:List TxD
 now:List TxD
 old:List OrdD
 new:List OrdD
 deriving DecidableEq,Inhabited
def rOp (o:OpD):List PV:=[.bool o.read,.int .i64 o.key,.int .i64 o.tx,.int .i64 o.nth]
def rTx (t:TxD):List PV:=[.int .i64 t.id,.bool t.done,.sl rOp t.ops]
def Zp (o:OrdD):List PV:=[.int .i64 o.key,.sl Zo o.txs]
def Zi (h:Zw):List PV:=[.sl rTx h.txs,.sl Zp h.orders]
def ZC (d:ZK):List PV:=[.sl rTx d.was,.sl rTx d.now,.sl Zp d.old,.sl Zp d.new]
theorem Zsr {u v:OpD} (h:(!((u.read == v.read) && (decide (u.key=v.key) && (decide (u.tx=v.tx) && (decide (u.nth=v.nth) && true)))))=false):u=v:=by
 cases u;cases v
 simp at h
 simp [h]
theorem Zj8 (x y:List OpD):FnP prog 59 [.sl rOp x,.sl rOp y] (.bool (decide (x=y))):=by
 refine FnP.mk func59 Z ntmps59 Z fun B a w F V hfr O=>?_
 have hxl:=Sat.lenSl O (i:=0) rfl
 refine Ya (rZ O qB V J0 [0] fun O=>(Ya (Ya ?_)))
 refine rZ O (qR rr (qu YbU r1 (qR rr (qu YbU r1 (qf (o_neq .t .t) r2 qz qZ))))) V XaU [0] fun O=>?_
 refine Zb O Z (fun hc0=>?_) (fun hc0=>?_)
 ·have hg:false=decide (x=y):=by
    rw [Y8,Yi]
    intro h
    subst h
    simp at hc0
  refine Ya (rZ O qB V J0 [0] fun O=>(Yh (Zd ?_)))
  refine Zx hfr O Z Z Z (.bool hg)
 have hl:x.length=y.length:=WI
 refine Yd (Za (Ya (Ya (rZ O (qR rr (qu YbU r1 (qJ qZ))) V G5 [0] fun O=>Ye ?_))))
 obtain ⟨F,O⟩:=O.nM JH [0]
 refine ZbL (σ:=Nat) (fun s=>(⟨[(0,.pv (.sl rOp x)),(1,.pv (.sl rOp y)),(12,.pv (.int .i64 x.length)),(13,.pv (.int .i64 s))],[(0,frame B)]⟩:En)) (fun s=>s≤x.length ∧ ∀ j,j<s→Nn x j=Nn y j) (fun s=>x.length - s) 0 O ⟨Yo _,fun j hj=>absurd hj (YI j)⟩ ?_
 clear O;intro i a w F hC O
 have hC:=X3
 have O:=X2
 obtain ⟨hi,hq⟩:=hC
 refine Ya (rZ O (qL r2) V DV [0] fun O=>Ya ?_)
 refine Zb O Z (fun hc1=>?_) (fun hc1=>?_)
 ·have hil:i<x.length:=WH
  refine Yd (Za (Ya (Ye (Ya (rZ O (qR rr (qO rr qZ)) V Xad [0] fun O=>Ya ?_)))))
  refine Zr O (qR rr (qR rr (qy 4 YbU r2 (qf (oR true 4 .t) r1 qz (qR rr (qR rr (qy 4 YbU r2 (qf (oR true 4 .t) r1 qz (qf (Zqa (ks:=[false,true,true,true]) kr .t .t (.bool (.int (.int (.int .nil))))) r2 qz qZ))))))))) V DW [0] Z Z fun a w F O=>?_
  have O:=XB
  refine Za (Zb O Z (fun hc2=>?_) (fun hc2=>?_))
  ·have hg:false=decide (x=y):=by
     rw [Y8,Yi]
     intro h
     subst h
     simp at hc2
   refine Ya (rZ O qB V G5 [0] fun O=>(Yh (Zl (Zd (Zd (Zl (Zd ?_)))))))
   refine Zx hfr O Z Z Z (.bool hg)
  rw [Yf] at hc2
  have hqi:Nn x i=Nn y i:=Zsr hc2
  refine Yd (Zf (Za (rZ O (qp r1 (qR rr qZ)) V JH [0] fun O=>?_)))
  replace O:=O.eI 13 i
  obtain ⟨F,O⟩:=O.nM JH [0]
  exact ⟨i+1,F,⟨ow,fun j hj=>by rcases Yw (YC hj) with h | h;exact hq j h;rw [h];exact hqi⟩,O,ow⟩
 have hg:true=decide (x=y):=by
   rw [Y8,Yj]
   exact ZaX hl fun j hj=>hq j WH
 refine Ym (Ze (Ze (Zk (Za (Ya (rZ O qB V [4] [0] fun O=>Yh ?_))))))
 refine Zx hfr O Z Z Z (.bool hg)
theorem ZmH (l:List OpD) (hl:l.length≤1000000):FnG prog 86 1 [.sl rOp l] [.star []] (PV.one) (fun v=>[ZM 70 4 rOp l v]):=by
 refine FnG.mk func86 Z ntmps86 Z kr fun B F0 a w F V hG O=>?_
 obtain ⟨F,O⟩:=O.nM [0] [0]
 refine Ya (rZ O (qC qZ) V Ju [0] fun O=>(Ya (Ya ?_)))
 refine Zg O (qR rr (qf (Zdg YbU .t) r1 qz qZ)) V DX [0] Z Z fun a w F O=>?_
 obtain ⟨β4,hβ4,O⟩:=O.pickBool 4 rfl
 obtain ⟨F,O⟩:=O.nM DX [0]
 refine Za (Zb O Z (fun hc0=>?_) (fun hc0=>?_))
 ·have hg:l = []:=hβ4 hc0
  refine Ya (rZ O (qC qZ) V Ju [0] fun O=>(Yh (Zd ?_)))
  have O:=O.fresh 1 rfl
  have O:=O.turn 1 Z (Zas (T:=70) (sz:=4) (R:=rOp))
  have O:=O.turn 1 Z (r':=RS.hp (ZM 70 4 rOp l (.slice none 0 0))) (fun _ _ _ _ h=>by rw [hg];exact h)
  refine Zen (h':=fun v=>ZM 70 4 rOp l v) hG O Z (.tmp Z .nil) (.one .one) rfl
 have hg:l = [] ++ l:=rfl
 refine Yd (Za (Ya (rS O (qf (ZaI (R:=rOp) (sz:=4) 101 YbU kr) trivial qz (qR rr (qf (o_append (sz:=4) (bs:=32) 101 (.mk' YbU kr kr) Wt .same (.sl .t) (by simp only [Yc,Yn];omega) We) ⟨rfl,rfl,tv⟩ ⟨rfl,tv⟩ (qO rr qZ)))) V [2] QK fun τ O=>?_)))
 try dsimp only [RS.sub,SF.sub,CF.sub,csub,Anc.sub,List.map,Zc,xL,xM,Nat.reduceAdd,xD,xE,xT,xU,xC,xN,zCF,rOp] at O
 generalize τ 7=v7 at O
 refine Za (Yh ?_)
 obtain ⟨F,O⟩:=O.rename 101 1 Z rfl
 have O:=O.turn 1 Z (r':=RS.hp (ZM 70 4 rOp l v7)) (fun _ _ _ _ h=>by rw [hg];exact h)
 refine Zen (h':=fun v=>ZM 70 4 rOp l v) hG O Z (.tmp Z .nil) (.one .one) rfl
structure Zvg where
 src:Int
 dst:Int
 kind:Int
 key:Int
 deriving DecidableEq,Inhabited
structure ZcM where
 tx:Int
 key:Int
 nth:Int
 deriving DecidableEq,Inhabited
def ZR (v:ZcM):List PV:=[.int .i64 v.tx,.int .i64 v.key,.int .i64 v.nth]
def noV:ZcM:=⟨0,0,0⟩
def idB (n:Int):Bool:=decide (1≤n) && decide (n≤1048575)
def Zcj (v:ZcM):Bool:=if v.tx=0 then idB v.key && decide (v.nth=0) else ((idB v.tx && idB v.key) && decide (1≤v.nth)) && decide (v.nth≤4095)
def ZuA (v:ZcM):Int:=(v.tx*1048576+v.key)*4096+v.nth
def Zst (v:ZcM):Int×Int:=if Zcj v then (ZuA v,0) else (0,1)
theorem Zhn {n:Int} : idB n=true ↔ 1≤n∧n≤1048575:=by unfold idB;rw [Yx,Yj,Yj]
theorem ZnQ (k:Int):decide (k<1) = !decide (1≤k):=by rw [← decide_not];exact decide_eq_decide.2 ow
theorem ZpT (m k:Int):decide (m<k) = !decide (k≤m):=by rw [← decide_not];exact decide_eq_decide.2 ow
theorem or64 (x y:Nat) (hx:x<18446744073709551616) (hy:y<18446744073709551616):bits .or .u64 (x:Int) (y:Int)=((x ||| y:Nat):Int):=by
 have h1:(BitVec.ofInt 64 (x:Int)).toNat=x:=by rw [BitVec.toNat_ofInt];omega
 have h2:(BitVec.ofInt 64 (y:Int)).toNat=y:=by rw [BitVec.toNat_ofInt];omega
 show IntKind.wrap .u64 (((BitVec.ofInt 64 (x:Int) ||| BitVec.ofInt 64 (y:Int)).toNat:Nat):Int)=_
 rw [BitVec.toNat_or,h1,h2]
 exact Zfo (by have:=Nat.or_lt_two_pow (n:=64) hx hy;omega)
theorem ZuI {q:Nat} (h:q<18446744073709551616):IntKind.wrap .u64 (q:Int)=q:=Zfo ow
theorem ZsB {K:Int} (k:Nat) (hk:min K.toNat (IntKind.bits .u64)=k) (x y:Int) (hx:0≤x) (hy:0≤y) (hyk:y<2 ^ k) (hb:x*2 ^ k+y<18446744073709551616):bits .or .u64 (IntKind.wrap .u64 (x*2 ^ min K.toNat (IntKind.bits .u64))) y=x*2 ^ k+y:=by
 obtain ⟨X,rfl⟩:=Int.eq_ofNat_of_zero_le hx
 obtain ⟨Y,rfl⟩:=Int.eq_ofNat_of_zero_le hy
 rw [hk]
 have e2:(X:Int)*2 ^ k=((X*2 ^ k:Nat):Int):=by rw [Int.natCast_mul,Int.natCast_pow];rfl
 have hY:Y<2 ^ k:=by exact_mod_cast hyk
 have hor:X*2 ^ k ||| Y=X*2 ^ k+Y:=by rw [Nat.mul_comm];exact (Nat.two_pow_add_eq_or_of_lt hY X).symm
 rw [e2] at hb ⊢
 generalize X*2 ^ k=Q at hb hor ⊢
 rw [ZuI ow,or64 _ _ ow ow,hor]
 omega
theorem Zm2 {v:ZcM} (h:Zcj v=true):bits .or .u64 (IntKind.wrap .u64 (bits .or .u64 (IntKind.wrap .u64 (IntKind.wrap .u64 v.tx*2 ^ min (20:Int).toNat (IntKind.bits .u64))) (IntKind.wrap .u64 v.key)*2 ^ min (12:Int).toNat (IntKind.bits .u64))) (IntKind.wrap .u64 v.nth)=ZuA v:=by
 have hb:(0≤v.tx∧v.tx≤1048575)∧(1≤v.key∧v.key≤1048575)∧(0≤v.nth∧v.nth≤4095):=by
  unfold Zcj at h
  split at h <;> simp only [Yx,Yj,Zhn] at h <;> omega
 obtain ⟨h1,h2,h3⟩:=hb
 rw [Zfo (x:=v.tx) ow,Zfo (x:=v.key) ow,Zfo (x:=v.nth) ow]
 rw [ZsB 20 rfl v.tx v.key ow ow ow ow,ZsB 12 rfl (v.tx*2 ^ 20+v.key) v.nth ow ow ow ow]
 unfold ZuA
 omega
theorem Zu0 (n:Int):FnP prog 259 [.int .i64 n] (.bool (idB n)):=by
 refine FnP.mk func259 Z ntmps259 Z fun B a w F V hfr O=>Ya ?_
 refine rZ O qB V Ju [0] fun O=>Ya ?_
 refine rZ O (qR rr (qf (Zcb .t qi) r1 qz (qR rr (qm Z Z Z Z (qk Z (fun h=>Zh1 (.w h) qi) r2 qz (qf (ZF .t .t) r2 qz (qO rr qZ))))))) V [2] [0] fun O=>Yh ?_
 refine Zx hfr O Z Z Z .refl
theorem ZfQ (n:Int):FnP prog 195 [.int .i64 n] (.bool (idB n)):=by
 refine FnP.mk func195 Z ntmps195 Z fun B a w F V hfr O=>Ya ?_
 refine rZ O qB V Ju [0] fun O=>Ya ?_
 refine rZ O (qR rr (qf (Zcb .t qi) r1 qz (qR rr (qm Z Z Z Z (qk Z (fun h=>Zh1 (.w h) qi) r2 qz (qf (ZF .t .t) r2 qz (qO rr qZ))))))) V [2] [0] fun O=>Yh ?_
 refine Zx hfr O Z Z Z .refl
theorem Zim (v:ZcM):((!(decide (v.tx=0) && decide (v.nth=0)) && ((!idB v.tx || decide (v.nth<1)) || decide (4095<v.nth))) || !idB v.key) = !Zcj v:=by
 unfold Zcj
 by_cases h:v.tx=0
 ·rw [Yg h,YA h]
  have hi:idB v.tx=false:=by rw [h];rfl
  rw [hi]
  cases decide (v.nth=0) <;> cases idB v.key <;> simp
 ·rw [Yb h,Yq h,ZnQ,ZpT 4095]
  cases idB v.tx <;> cases idB v.key <;> cases decide (1≤v.nth) <;> cases decide (v.nth≤4095) <;> rfl
theorem ZqE (v:ZcM):FnP prog 215 [.agg (ZR v)] (.tup [.int .u64 (Zst v).1,.int .i64 (Zst v).2]):=by
 refine FnP.mk func215 Z ntmps215 Z fun B a w F V hfr O=>Ya ?_
 refine rS O (qx 101 r1 (qI (qI qZ))) V Gh QK fun τ O=>?_
 have O:=Xa
 generalize τ 1=v1 at O
 refine Za (Ya (rZ O (qg 0 101 r1 r1 (qa 101 r1 r1 (qf (o_eql .t qi) r1 qz (qR rr (qv 2 101 Z r2 r1 (qw 101 Z r2 r1 (qk Z (fun h=>o_eql (.w h) qi) r2 qz (qf (ZF .t .t) r2 qz (qO rr qZ))))))))) V XaL QK fun O=>(Ya (Ya ?_))))
 refine Zg O (qR rr (qf (ZW .t) r1 qz (qR rr (qv 0 101 Z r2 r1 (qw 101 Z r2 r1 (qk Z (fun h=>oP (Zu0 _) func259 (Args.one (.w h))) r2 qz (qk Z (fun h=>ZW (.w h)) r2 qz (qk Z (fun h=>oM (.w h)) r2 qz (Zm.cons (Z9.cond2 Z Z (fun h=>ZA (off:=2) 101 .is kr Wd)) r2 r1 (Zm.cons (Z9.cond2 Z Z (fun h=>Zaq (ag:=false) (sz:=1) 101 (.w h .adr) kr kr kr Wd)) r2 r1 (Zm.cons (Z9.cond2 Z Z (fun h=>ZaR (.w h) qi)) r2 qz (qk Z (fun h=>ZaB (.w h) (.wc h)) r3 qz (qk Z (fun h=>oM (.w h)) r2 qz (Zm.cons (Z9.cond2 Z Z (fun h=>ZA (off:=2) 101 .is kr Wd)) r2 r1 (Zm.cons (Z9.cond2 Z Z (fun h=>Zaq (ag:=false) (sz:=1) 101 (.w h .adr) kr kr kr Wd)) r2 r1 (Zm.cons (Z9.cond2 Z Z (fun h=>o_gtr (.w h) qi)) r2 qz (qk Z (fun h=>ZaB (.w h) (.wc h)) r3 qz (qf (ZF .t .t) r2 qz (qR rr (qv 1 101 Z r2 r1 (qw 101 Z r2 r1 (qk Z (fun h=>oP (Zu0 _) func259 (Args.one (.w h))) r2 qz (qk Z (fun h=>ZW (.w h)) r2 qz (qf (ZaB .t .t) r2 qz qZ)))))))))))))))))))))))) V [36,3,2,1] QK Z Z fun a w F O=>?_
 have O:=XB
 refine Za (Zb O Z (fun hc0=>?_) (fun hc0=>?_))
 ·rw [Zim] at hc0
  have hr:Zcj v=false:=Wz
  have hg:Zst v=(0,1):=by unfold Zst;rw [hr];rfl
  refine Ya (rZ O (qI (qI qZ)) V Gh QK fun O=>(Yh (Zd ?_)))
  refine ZU hfr O Z (.tmp Z (.tmp Z .nil)) (.two (.int (by rw [hg];try exact Zm2 hr)) (.int Wr))
 rw [Zim] at hc0
 have hr:Zcj v=true:=Wz
 have hg:Zst v=(ZuA v,0):=Yg hr
 refine Yd (Za (Ya (rZ O (qg 0 101 r1 r1 (qa 101 r1 r1 (qf (Za6 underlying262 kr .t) r1 qz (qf (Zue .t qi We) r1 qz (qg 1 101 r1 r1 (qa 101 r1 r1 (qf (Za6 underlying262 kr .t) r1 qz (qf (ZuY .t .t) r2 qz (qf (Zue .t qi We) r1 qz (qg 2 101 r1 r1 (qa 101 r1 r1 (qf (Za6 underlying262 kr .t) r1 qz (qf (ZuY .t .t) r2 qz (qO rr (qI qZ))))))))))))))) V Xap [0] fun O=>Yh ?_)))
 refine ZU hfr O Z (.tmp Z (.tmp Z .nil)) (.two (.int (by rw [hg];try exact Zm2 hr)) (.int Wr))
theorem Zr2 (v:ZcM):FnP prog 252 [.agg (ZR v)] (.bool (Zcj v)):=by
 refine FnP.mk func252 Z ntmps252 Z fun B a w F V hfr O=>Ya ?_
 refine rS O (qx 101 r1 qB) V J5 QK fun τ O=>?_
 have O:=Xa
 generalize τ 1=v1 at O
 refine Za (Ya (Ya (rZ O (qg 0 101 r1 r1 (qa 101 r1 r1 (qf (o_eql .t qi) r1 qz qZ))) V DY QK fun O=>?_)))
 refine Zb O Z (fun hc0=>?_) (fun hc0=>?_)
 ·have h0:v.tx=0:=Yv hc0
  refine Ya (rZ O (qg 1 101 r1 r1 (qa 101 r1 r1 (qf (oP (ZfQ _) func195 (Args.one .t)) r1 qz (qR rr (qv 2 101 Z r2 r1 (qw 101 Z r2 r1 (qk Z (fun h=>o_eql (.w h) qi) r2 qz (qf (ZF .t .t) r2 qz (qO rr qZ))))))))) V J5 QK fun O=>(Yh (Zd ?_)))
  refine Zx hfr O Z Z Z (.bool (by unfold Zcj;first | rw [Yg h0] | rw [Yb h0]))
 have h0:¬ v.tx=0:=YW hc0
 refine Yd (Za (Ya (rZ O (qg 0 101 r1 r1 (qa 101 r1 r1 (qf (oP (ZfQ _) func195 (Args.one .t)) r1 qz (qR rr (qv 1 101 Z r2 r1 (qw 101 Z r2 r1 (qk Z (fun h=>oP (ZfQ _) func195 (Args.one (.w h))) r2 qz (qf (ZF .t .t) r2 qz (qR rr (qv 2 101 Z r2 r1 (qw 101 Z r2 r1 (qk Z (fun h=>Zcb (.w h) qi) r2 qz (qf (ZF .t .t) r2 qz (qR rr (qv 2 101 Z r2 r1 (qw 101 Z r2 r1 (qk Z (fun h=>Zh1 (.w h) qi) r2 qz (qf (ZF .t .t) r2 qz (qO rr qZ))))))))))))))))))) V [2] [0] fun O=>Yh ?_)))
 refine Zx hfr O Z Z Z (.bool (by unfold Zcj;first | rw [Yg h0] | rw [Yb h0]))
def Zb8 (o:OpD):Bool:=if o.read=true then Zcj ⟨o.tx,o.key,o.nth⟩ else (idB o.key && decide (o.tx=0)) && decide (o.nth=0)
def ofO (o:OpD):ZcM:=if o.read=true then ⟨o.tx,o.key,o.nth⟩ else noV
def ZdH (o:OpD):Int:=if Zb8 o=true then 0 else 1
theorem ZoS {o:OpD} (h:Zb8 o=true):(1≤o.key∧o.key≤1048575)∧(0≤o.tx∧o.tx≤1048575)∧(0≤o.nth∧o.nth≤4095):=by
 unfold Zb8 at h
 split at h
 ·unfold Zcj at h
  dsimp only at h
  split at h <;> simp only [Yx,Yj,Zhn] at h <;> omega
 ·simp only [Yx,Yj,Zhn] at h
  omega
theorem ZfG {o:OpD} (h:o.read=true):Zb8 o=Zcj (ofO o):=by unfold Zb8 ofO;rw [Yg h,Yg h]
theorem Zev {o:OpD} (h:o.read=false):Zb8 o=((idB o.key && decide (o.tx=0)) && decide (o.nth=0)):=by unfold Zb8;rw [Yb (by rw [h];decide)]
theorem Zn6 (v:ZcM):(Zst v).2=if Zcj v=true then 0 else 1:=by unfold Zst;split <;> rfl
theorem ZsE (o:OpD):FnP prog 148 [.agg (rOp o)] (.agg (ZR (ofO o))):=by
 refine FnP.mk func148 Z ntmps148 Z fun B a w F V hfr O=>Ya ?_
 refine rS O (qx 101 r1 (qf (oH [.int .i64 0,.int .i64 0,.int .i64 0] 102) trivial qz qZ)) V J5 QI fun τ O=>?_
 have O:=Xa
 generalize τ 1=v1,τ 2=v2 at O
 refine Za (Ya (Ya (rZ O (qg 0 101 r1 r1 (qa 101 r1 r1 (qf (ZW .t) r1 qz qZ))) V DY QI fun O=>?_)))
 refine Zb O Z (fun hc0=>?_) (fun hc0=>?_)
 ·have hr:o.read=false:=Wz
  refine Ya (rZ O (qf (oB [] [.int .i64 0,.int .i64 0,.int .i64 0] [(0,1),(1,1),(2,1)] .nil) trivial qz (qs 3 102 r2 r1 qZ)) V J5 QI fun O=>(Yh (Zd ?_)))
  refine ZU hfr O Z (.cl 102 true 3 Z Z .nil) (.one (.aggU Z WN))
 have hr:o.read=true:=Wz
 refine Yd (Za (Ya (rZ O (qg 2 101 r1 r1 (qa 101 r1 r1 (qg 1 101 r1 r1 (qa 101 r1 r1 (qg 3 101 r1 r1 (qa 101 r1 r1 (qf (oB [(0,.tmp 8),(1,.tmp 10),(2,.tmp 12)] [.int .i64 0,.int .i64 0,.int .i64 0] [(0,1),(1,1),(2,1)] (.one Z .t one_int kr (.one Z .t one_int kr (.one Z .t one_int kr .nil)))) r3 qz (qs 3 102 r2 r1 qZ)))))))) V [2] QI fun O=>Yh ?_)))
 refine ZU hfr O Z (.cl 102 true 3 Z Z .nil) (.one (.aggU Z WN))
theorem Zpp (o:OpD):FnP prog 253 [.agg (rOp o)] (.agg (ZR (ofO o))):=by
 refine FnP.mk func253 Z ntmps253 Z fun B a w F V hfr O=>Ya ?_
 refine rS O (qx 101 r1 (qf (oH [.int .i64 0,.int .i64 0,.int .i64 0] 102) trivial qz qZ)) V J5 QI fun τ O=>?_
 have O:=Xa
 generalize τ 1=v1,τ 2=v2 at O
 refine Za (Ya (Ya (rZ O (qg 0 101 r1 r1 (qa 101 r1 r1 (qf (ZW .t) r1 qz qZ))) V DY QI fun O=>?_)))
 refine Zb O Z (fun hc0=>?_) (fun hc0=>?_)
 ·have hr:o.read=false:=Wz
  refine Ya (rZ O (qf (oB [] [.int .i64 0,.int .i64 0,.int .i64 0] [(0,1),(1,1),(2,1)] .nil) trivial qz (qs 3 102 r2 r1 qZ)) V J5 QI fun O=>(Yh (Zd ?_)))
  refine ZU hfr O Z (.cl 102 true 3 Z Z .nil) (.one (.aggU Z WN))
 have hr:o.read=true:=Wz
 refine Yd (Za (Ya (rZ O (qg 2 101 r1 r1 (qa 101 r1 r1 (qg 1 101 r1 r1 (qa 101 r1 r1 (qg 3 101 r1 r1 (qa 101 r1 r1 (qf (oB [(0,.tmp 8),(1,.tmp 10),(2,.tmp 12)] [.int .i64 0,.int .i64 0,.int .i64 0] [(0,1),(1,1),(2,1)] (.one Z .t one_int kr (.one Z .t one_int kr (.one Z .t one_int kr .nil)))) r3 qz (qs 3 102 r2 r1 qZ)))))))) V [2] QI fun O=>Yh ?_)))
 refine ZU hfr O Z (.cl 102 true 3 Z Z .nil) (.one (.aggU Z WN))
theorem ZqC (o:OpD):FnP prog 149 [.agg (rOp o)] (.int .i64 (ZdH o)):=by
 refine FnP.mk func149 Z ntmps149 Z fun B a w F V hfr O=>Ya ?_
 refine rS O (qx 101 r1 (qI qZ)) V J5 QK fun τ O=>?_
 have O:=Xa
 generalize τ 1=v1 at O
 refine Za (Ya (Ya (rZ O (qg 0 101 r1 r1 (qa 101 r1 r1 qZ)) V [6,2,1] QK fun O=>?_)))
 refine Zb O Z (fun hc0=>?_) (fun hc0=>?_)
 ·have hg:(Zst (ofO o)).2=ZdH o:=by rw [Zn6];unfold ZdH;rw [ZfG hc0]
  refine Ya (rZ O (qe 4 101 r1 r1 (qf (oP (ZsE o) func148 (Args.one (.pagg .t))) r1 qz (qf (oP (ZqE (ofO o)) func215 (Args.one .t)) r1 qz (qR rr (qf (o_extract .t Z) r1 qz (qf (o_extract .t Z) r1 qz (qO rr (qO rr qZ)))))))) V Dz QK fun O=>Ya ?_)
  refine rZ O (qR rr (qO rr qZ)) V J5 QK fun O=>(Yh (Zd ?_))
  refine Zx hfr O Z Z Z (.int hg)
 have hr:o.read=false:=hc0
 refine Yd (Za (Ya (Ya (rZ O (qe 4 101 r1 r1 (qg 1 101 r1 r1 (qa 101 r1 r1 (qf (oB [(1,.tmp 16)] [.bool false,.int .i64 0,.int .i64 0,.int .i64 0] [(0,1),(1,1),(2,1),(3,1)] (.one Z .t one_int kr .nil)) r1 qz (qf (Zqa (ks:=[false,true,true,true]) kr .t .t (.bool (.int (.int (.int .nil))))) r2 qz (qR rr (qv 1 101 Z r2 r1 (qw 101 Z r2 r1 (qk Z (fun h=>ZaR (.w h) qi) r2 qz (qf (ZaB .t .t) r2 qz (qR rr (qv 1 101 Z r2 r1 (qw 101 Z r2 r1 (qk Z (fun h=>o_gtr (.w h) qi) r2 qz (qf (ZaB .t .t) r2 qz qZ))))))))))))))) V [28,2] QK fun O=>?_))))
 refine Zb O Z (fun hc1=>?_) (fun hc1=>?_)
 ·have hg:(1:Int)=ZdH o:=by
    unfold ZdH
    rw [Yb]
    rw [Zev hr]
    simp [hr,idB] at hc1 ⊢
    omega
  refine Ya (rZ O (qI qZ) V [2] QK fun O=>(Yh (Zd ?_)))
  refine Zx hfr O Z Z Z (.int hg)
 have hg:(0:Int)=ZdH o:=by
   unfold ZdH
   rw [Yg]
   rw [Zev hr]
   simp [hr,idB] at hc1 ⊢
   omega
 refine Yd (Za (Ya (rZ O (qI qZ) V [2] QK fun O=>Yh ?_)))
 refine Zx hfr O Z Z Z (.int hg)
theorem Zle (o:OpD):FnP prog 196 [.agg (rOp o)] (.bool (Zb8 o)):=by
 refine FnP.mk func196 Z ntmps196 Z fun B a w F V hfr O=>Ya ?_
 refine rS O (qx 101 r1 qB) V J5 QK fun τ O=>?_
 have O:=Xa
 generalize τ 1=v1 at O
 refine Za (Ya (Ya (rZ O (qg 0 101 r1 r1 (qa 101 r1 r1 qZ)) V Dz QK fun O=>?_)))
 refine Zb O Z (fun hc0=>?_) (fun hc0=>?_)
 ·have hg:Zcj (ofO o)=Zb8 o:=(ZfG hc0).symm
  refine Ya (rZ O (qe 4 101 r1 r1 (qf (oP (Zpp o) func253 (Args.one (.pagg .t))) r1 qz (qf (oP (Zr2 (ofO o)) func252 (Args.one .t)) r1 qz (qO rr qZ)))) V J5 QK fun O=>(Yh (Zd ?_)))
  refine Zx hfr O Z Z Z (.bool hg)
 have hg:((idB o.key && decide (o.tx=0)) && decide (o.nth=0))=Zb8 o:=(Zev hc0).symm
 refine Yd (Za (Ya (rZ O (qg 1 101 r1 r1 (qa 101 r1 r1 (qf (oP (ZfQ o.key) func195 (Args.one .t)) r1 qz (qR rr (qv 2 101 Z r2 r1 (qw 101 Z r2 r1 (qk Z (fun h=>o_eql (.w h) qi) r2 qz (qf (ZF .t .t) r2 qz (qR rr (qv 3 101 Z r2 r1 (qw 101 Z r2 r1 (qk Z (fun h=>o_eql (.w h) qi) r2 qz (qf (ZF .t .t) r2 qz (qO rr qZ)))))))))))))) V [2] QK fun O=>Yh ?_)))
 refine Zx hfr O Z Z Z (.bool hg)
theorem ZsX (t : TxD) (hl : t.ops.length ≤ 1000000) (p : OpD → Bool) (f : FuncId) (fn : Func) (cps : List PV) (hf : prog.funcs[f]? = some fn) (hb : fn.body.isSome = true) (hnn : (fn.name == "runtime.NumGoroutine") = false) (hw : ∀ x, FnP prog f (.agg (rOp x) :: cps) (.bool (p x))) : FnP prog 144 [.agg (rTx t), .clos f cps] (.sl Zo (ZbE ((t.ops.filter p).map OpD.key))) := by
 refine FnP.mk func144 Z ntmps144 Z fun B a w F V hfr O=>Ya ?_
 refine rS O (qx 101 r1 (qC qZ)) V Dz QK fun τ O=>?_
 have O:=Xu
 generalize τ 2=v2 at O
 refine Za (Ya (rZ O (qC qZ) V Js QK fun O=>(Ya (Ya ?_))))
 refine rZ O (qg 2 101 r1 r1 (qa 101 r1 r1 (qu YbU r1 (qJ qZ)))) V QS QK fun O=>Ye ?_
 replace O:=O.fresh 50 rfl
 replace O:=O.turn 50 Z (Zas (T:=3) (sz:=1) (R:=Zo))
 refine Zh (σ:=(Nat)×(Value)×(List Int)) [1,4,9,10] [0,101] (fun s=>[(11,.pv (.int .i64 (s.1:Int))),(5,.pv (.is s.2.1))]) (fun s=>[(50,.ob (.val s.2.1) (ZM 3 1 Zo s.2.2))]) (fun s=>s.1≤t.ops.length∧(s.2.2=(((t.ops.take s.1).filter p).map OpD.key))) (fun s=>t.ops.length - s.1) ((0),(.slice none 0 0),([])) O ⟨rfl,rfl,rfl,rfl,rfl,rfl,tv⟩ ⟨rfl,rfl,rfl,tv⟩ ⟨Yo _,rfl⟩ ?_
 clear O;intro s a w F hC O
 obtain ⟨i,v,out⟩:=s
 have hC:=X3
 obtain ⟨F,O⟩:=O.nM QS QQ
 have O:=X2
 obtain ⟨hi,hq⟩:=hC
 have hol:out.length≤i:=by rw [hq,YO];exact YT (YJ _ _) WF
 refine Ya (rZ O (qL r2) V G2 QQ fun O=>Ya ?_)
 refine Zb O Z (fun hc0=>?_) (fun hc0=>?_)
 ·skip
  have hil:i<t.ops.length:=WI
  refine Yd (Za (Ya (Ye (Ya (rS O (qy 4 YbU r2 (qf (oR true 4 .t) r1 qz (qf (oH [.bool false,.int .i64 0,.int .i64 0,.int .i64 0] 102) trivial qz (qS 4 102 r2 r1 qZ)))) V G9 QM fun τ O=>?_)))))
  have O:=Xg
  generalize τ 7=v7 at O
  try simp only [Yf] at O
  refine Za (Ya (rZ O (qR rr (qe 4 102 r1 r1 (qf (o_callClosP (avs:=[.agg (rOp (Nn t.ops i))]) .t (hw (Nn t.ops i)) hf hb hnn (Args.one (.pagg .t))) r2 qz qZ))) V [17,11,10,9,7,5,4,1] QM fun O=>?_))
  refine Zb O Z (fun hc1=>?_) (fun hc1=>?_)
  ·skip
   have hBq:p (Nn t.ops i)=true:=WE
   refine rS O (qR rr (qg 1 102 r1 r1 (qa 102 r1 r1 (qf (o_buildSliceE (sz:=1) (zs:=[.int .i64 0]) (r:=[(0,.tmp 20)]) (l:=[_]) YbT kr kr kr kr Z Z (.one Z .t one_int kr .nil) Z) r1 qz (qf (o_append (sz:=1) (bs:=8) 50 (.mk' YbT kr kr) Wt .is (.arr (l':=[(Nn t.ops i).key]) .t) WJ We) ⟨rfl,rfl,tv⟩ ⟨rfl,tv⟩ (qO rr qZ)))))) V QS QM fun τ O=>?_
   have O:=Xg
   generalize τ 22=v22 at O
   refine Zf (Za (rZ O (qp r1 (qR rr qZ)) V QS QM fun O=>?_))
   replace O:=O.eI 11 i
   obtain ⟨F,O⟩:=O.nM JP J9
   exact ⟨((i+1),_,_),F,⟨ow,(by rw [ZN hil,Y5,YZ,← hq];simp [hBq])⟩,O,ow⟩
  have hBq:p (Nn t.ops i)=false:=WE
  refine Yd (Zf (Za (rZ O (qp r1 (qR rr qZ)) V QS QM fun O=>?_)))
  replace O:=O.eI 11 i
  obtain ⟨F,O⟩:=O.nM JP J9
  exact ⟨((i+1),_,_),F,⟨ow,(by rw [ZN hil,Y5,YZ,← hq];simp [hBq])⟩,O,ow⟩
 have hil:i=t.ops.length:=WI
 refine Ym (Ze (Ze (Zk (Za (Ya (rZ O (qR rr (qf (ZY 50 (Zmv _ out ow) func92 Z kr (Args.one .t)) r1 r1 qZ)) V Jf QQ fun O=>Ya ?_))))))
 refine rS O (qR rr (qf (ZnS 50 (ZsR _ _ (by rw [List.length_mergeSort];omega)) func212 Z kr (Args.one .t) Zf1) r1 r1 (qO rr qZ))) V [4] QQ fun τ O=>?_
 try dsimp only [RS.sub,SF.sub,CF.sub,csub,Anc.sub,List.map,Zo,rOp,rTx] at O
 generalize τ 27=v27 at O
 refine Za (Yh ?_)
 obtain ⟨F,O⟩:=O.give 50 4 Z rfl
 refine Zx hfr O Z Z Z (.sl (by rw [Zio,Zlo,hq,hil,Yy]))
theorem Zfr (l:List Int):(ZbE l).length≤l.length:=by
 have key:∀ (l acc:List Int),(l.foldl Zdv acc).length≤acc.length+l.length:=fun l=>by
  induction l with
  | nil=>intro acc;simp
  | cons x l ih=>
   intro acc
   have h1:=ih (Zdv acc x)
   have h2:(Zdv acc x).length≤acc.length+1:=Ze9 acc false
   rw [Yas,Yl];omega
 have:=key l []
 simpa [ZbE] using this
theorem ZpZ (t:TxD) (all:Bool) (hl:t.ops.length≤1000000):FnP prog 201 [.agg (rTx t),.bool all] (.sl Zo (ZbE ((t.ops.filter fun o=>all || !o.read).map OpD.key))):=by
 refine FnP.mk func201 Z ntmps201 Z fun B a w F V hfr O=>Ya ?_
 refine rS O (qx 101 r1 (qC qZ)) V Dz QK fun τ O=>?_
 have O:=Xu
 generalize τ 2=v2 at O
 refine Za (Ya (rZ O (qC qZ) V Js QK fun O=>(Ya (Ya ?_))))
 refine rZ O (qg 2 101 r1 r1 (qa 101 r1 r1 (qu YbU r1 (qJ qZ)))) V QS [0] fun O=>Ye ?_
 replace O:=O.ent (i:=5) (s':=.pv (.sl Zo [])) Z (.nilSl)
 refine Zh (σ:=(Nat)) [1,4,9,10] [0] (fun s=>[(11,.pv (.int .i64 (s:Int))),(5,.pv (.sl Zo (ZbE (((t.ops.take s).filter fun o=>all || !o.read).map OpD.key))))]) (fun s=>[]) (fun s=>s≤t.ops.length∧(True)) (fun s=>t.ops.length - s) (0) O ⟨rfl,rfl,rfl,rfl,rfl,rfl,tv⟩ ⟨rfl,tv⟩ ⟨Yo _,tv⟩ ?_
 clear O;intro i a w F hC O
 have hC:=X3
 obtain ⟨F,O⟩:=O.nM QS [0]
 have O:=X2
 obtain ⟨hi,hq⟩:=hC
 have hol:(ZbE (((t.ops.take i).filter fun o=>all || !o.read).map OpD.key)).length≤i:=by
   refine YT (Zfr _) ?_
   rw [YO];exact YT (YJ _ _) WF
 refine Ya (rZ O (qL r2) V G2 [0] fun O=>Ya ?_)
 refine Zb O Z (fun hc0=>?_) (fun hc0=>?_)
 ·have hil:i<t.ops.length:=WI
  refine Yd (Za (Ya (Ye (Ya (rS O (qy 4 YbU r2 (qf (oR true 4 .t) r1 qz (qf (oH [.bool false,.int .i64 0,.int .i64 0,.int .i64 0] 102) trivial qz (qS 4 102 r2 r1 qZ)))) V G9 XaS fun τ O=>?_)))))
  have O:=Xg
  generalize τ 7=v7 at O
  try simp only [Yf] at O
  refine Za (Ya (rZ O (qR rr (qR rr (qv 0 102 Z r2 r1 (qw 102 Z r2 r1 (qk Z (fun h=>ZW (.w h)) r2 qz (qf (ZaB .t .t) r2 qz qZ)))))) V [20,11,10,9,7,5,4,1] XaS fun O=>?_))
  refine Zb O Z (fun hc1=>?_) (fun hc1=>?_)
  ·have hBq:(all || !(Nn t.ops i).read)=true:=WE
   refine Zg O (qR rr (qg 1 102 r1 r1 (qa 102 r1 r1 (qf (oP (Zpy _ (Nn t.ops i).key ow) func255 (Args.two .t .t)) r2 qz (qO rr qZ))))) V QS [0] Z Z fun a w F O=>Zf (Za ?_)
   refine rZ O (qp r1 (qR rr qZ)) V QS [0] fun O=>?_
   replace O:=O.eI 11 i
   replace O:=O.ent (i:=5) (s':=.pv (.sl Zo (ZbE (((t.ops.take (i+1)).filter fun o=>all || !o.read).map OpD.key)))) Z ((.sl (by rw [ZN hil,Y5,YZ];simp [hBq,ZbE])))
   obtain ⟨F,O⟩:=O.nM JP [0]
   exact ⟨(i+1),F,⟨ow,tv⟩,O,ow⟩
  have hBq:(all || !(Nn t.ops i).read)=false:=WE
  refine Yd (Zf (Za (rZ O (qp r1 (qR rr qZ)) V QS [0] fun O=>?_)))
  replace O:=O.eI 11 i
  replace O:=O.ent (i:=5) (s':=.pv (.sl Zo (ZbE (((t.ops.take (i+1)).filter fun o=>all || !o.read).map OpD.key)))) Z ((.sl (by rw [ZN hil,Y5,YZ];simp [hBq,ZbE])))
  obtain ⟨F,O⟩:=O.nM JP [0]
  exact ⟨(i+1),F,⟨ow,tv⟩,O,ow⟩
 have hil:i=t.ops.length:=WI
 refine Ym (Ze (Ze (Zk (Za (Ya (rZ O (qR rr (qO rr qZ)) V [4] [0] fun O=>Yh ?_))))))
 refine Zx hfr O Z Z Z (.sl WO)
theorem Ent.fnClos {f:FuncId} : Ent (.pv (.is (.func (.func f) #[] #[]))) (.pv (.clos f [])):=fun τ w y v h=>⟨[],h.1,tv⟩
theorem ZsG (o:OpD):FnP prog 145 [.agg (rOp o)] (.bool (!o.read)):=by
 refine FnP.mk func145 Z ntmps145 Z fun B a w F V hfr O=>Ya ?_
 refine rS O (qx 101 r1 qB) V J5 QK fun τ O=>?_
 try dsimp only [RS.sub,SF.sub,CF.sub,csub,Anc.sub,List.map,zCF,rOp] at O
 generalize τ 1=v1 at O
 refine Za (Ya (rZ O (qg 0 101 r1 r1 (qa 101 r1 r1 (qf (ZW .t) r1 qz (qO rr qZ)))) V [2] [0] fun O=>Yh ?_))
 refine Zx hfr O Z Z Z (.bool Z)
theorem Zti (t:TxD) (hl:t.ops.length≤1000000):FnP prog 82 [.agg (rTx t)] (.sl Zo (ZbE ((t.ops.filter fun o=>!o.read).map OpD.key))):=by
 refine FnP.mk func82 Z ntmps82 Z fun B a w F V hfr O=>Ya ?_
 refine rS O (qx 101 r1 (qC qZ)) V J5 QK fun τ O=>?_
 try dsimp only [RS.sub,SF.sub,CF.sub,csub,Anc.sub,List.map,zCF,rTx,Zo] at O
 generalize τ 1=v1 at O
 refine Za (Ya (rZ O (qe 3 101 r1 r1 (qf (oP (ZsX t hl (fun o=>!o.read) 145 f145 [] func145 Z kr (fun o=>ZsG o)) func144 (Args.two (.pagg .t) (.conv .f (Ent.fnClos)))) r1 qz (qO rr qZ))) V [2] [0] fun O=>Yh ?_))
 refine Zx hfr O Z Z Z (.sl Z)
theorem ZoI (t:TxD) (n:Int) (hl:t.ops.length≤1000000):FnP prog 87 [.agg (rTx t),.int .i64 n] (.int .i64 (((t.ops.filter fun o=>!o.read && decide (o.key=n)).length:Nat):Int)):=by
 refine FnP.mk func87 Z ntmps87 Z fun B a w F V hfr O=>?_
 have hll:t.ops.length≤1000000:=hl
 refine Ya (rS O (qx 101 r1 (qI qZ)) V Dz QK fun τ O=>?_)
 have O:=Xu
 generalize τ 2=v2 at O
 refine Za (Ya (rZ O (qI qZ) V Js QK fun O=>(Ya (Ya ?_))))
 refine rZ O (qg 2 101 r1 r1 (qa 101 r1 r1 (qu YbU r1 (qJ qZ)))) V QS [0] fun O=>Ye ?_
 refine Zh (σ:=(Nat)) [1,4,9,10] [0] (fun s=>[(11,.pv (.int .i64 (s:Int))),(5,.pv (.int .i64 ((((t.ops.take s).filter fun o=>!o.read && decide (o.key=n)).length:Nat):Int)))]) (fun s=>[]) (fun s=>s≤t.ops.length∧(True)) (fun s=>t.ops.length - s) (0) O ⟨rfl,rfl,rfl,rfl,rfl,rfl,tv⟩ ⟨rfl,tv⟩ ⟨Yo _,tv⟩ ?_
 clear O;intro i a w F hC O
 have hC:=X3
 obtain ⟨F,O⟩:=O.nM QS [0]
 have O:=X2
 obtain ⟨hi,hq⟩:=hC
 refine Ya (rZ O (qL r2) V G2 [0] fun O=>Ya ?_)
 refine Zb O Z (fun hc0=>?_) (fun hc0=>?_)
 ·have hil:i<t.ops.length:=WI
  refine Yd (Za (Ya (Ye (Ya (rS O (qy 4 YbU r2 (qf (oR true 4 .t) r1 qz (qf (oH [.bool false,.int .i64 0,.int .i64 0,.int .i64 0] 102) trivial qz (qS 4 102 r2 r1 qZ)))) V G9 XaS fun τ O=>?_)))))
  have O:=Xg
  generalize τ 7=v7 at O
  try simp only [Yf] at O
  refine Za (Ya (rZ O (qg 0 102 r1 r1 (qa 102 r1 r1 (qf (ZW .t) r1 qz (qR rr (qv 1 102 Z r2 r1 (qw 102 Z r2 r1 (qm Z Z Z Z (qk Z (fun h=>o_eql (.w h) (.w h)) r3 qz (qf (ZF .t .t) r2 qz qZ))))))))) V [23,11,10,9,5,4,1] [0] fun O=>?_))
  refine Zb O Z (fun hc1=>?_) (fun hc1=>?_)
  ·have hstp:((t.ops.take (i+1)).filter fun o=>!o.read && decide (o.key=n))=((t.ops.take i).filter fun o=>!o.read && decide (o.key=n))++(if (!(Nn t.ops i).read && decide ((Nn t.ops i).key=n))=true then [(Nn t.ops i)] else []):=Q9
   have hle:((t.ops.take i).filter fun o=>!o.read && decide (o.key=n)).length≤i:=YT (YJ _ _) WF
   have hBq:(!(Nn t.ops i).read && decide ((Nn t.ops i).key=n))=true:=hc1
   have hcc:IntKind.wrap .i64 (((((t.ops.take i).filter fun o=>!o.read && decide (o.key=n)).length:Nat):Int)+1)=((((t.ops.take (i+1)).filter fun o=>!o.read && decide (o.key=n)).length:Nat):Int):=by rw [hstp,Yg hBq,Yc,Zj ow];simp
   refine Zg O (qR rr (qp r1 (qO rr qZ))) V QS [0] Z Z fun a w F O=>Zf (Za ?_)
   refine rZ O (qp r1 (qR rr qZ)) V QS [0] fun O=>?_
   replace O:=O.eI 11 i
   replace O:=O.ent (i:=5) (s':=.pv (.int .i64 ((((t.ops.take (i+1)).filter fun o=>!o.read && decide (o.key=n)).length:Nat):Int))) Z (.int hcc)
   obtain ⟨F,O⟩:=O.nM JP [0]
   exact ⟨(i+1),F,⟨ow,tv⟩,O,ow⟩
  have hstp:((t.ops.take (i+1)).filter fun o=>!o.read && decide (o.key=n))=((t.ops.take i).filter fun o=>!o.read && decide (o.key=n))++(if (!(Nn t.ops i).read && decide ((Nn t.ops i).key=n))=true then [(Nn t.ops i)] else []):=Q9
  have hle:((t.ops.take i).filter fun o=>!o.read && decide (o.key=n)).length≤i:=YT (YJ _ _) WF
  have hBq:(!(Nn t.ops i).read && decide ((Nn t.ops i).key=n))=false:=hc1
  have hcc:((((t.ops.take i).filter fun o=>!o.read && decide (o.key=n)).length:Nat):Int)=((((t.ops.take (i+1)).filter fun o=>!o.read && decide (o.key=n)).length:Nat):Int):=by rw [hstp,Yb (by rw [hBq];simp),YF]
  refine Yd (Zf (Za (rZ O (qp r1 (qR rr qZ)) V QS [0] fun O=>?_)))
  replace O:=O.eI 11 i
  replace O:=O.ent (i:=5) (s':=.pv (.int .i64 ((((t.ops.take (i+1)).filter fun o=>!o.read && decide (o.key=n)).length:Nat):Int))) Z (.int hcc)
  obtain ⟨F,O⟩:=O.nM JP [0]
  exact ⟨(i+1),F,⟨ow,tv⟩,O,ow⟩
 have hil:i=t.ops.length:=WI
 refine Ym (Ze (Ze (Zk (Za (Ya (rZ O (qR rr (qO rr qZ)) V [4] [0] fun O=>Yh ?_))))))
 refine Zx hfr O Z Z Z (.int WO)
theorem ZdO (l:List OpD) (n:Int) (hl:l.length≤1000000):FnP prog 197 [.sl rOp l,.int .i64 n] (.int .i64 (((l.filter fun o=>!o.read && decide (o.key=n)).length:Nat):Int)):=by
 refine FnP.mk func197 Z ntmps197 Z fun B a w F V hfr O=>?_
 have hll:l.length≤1000000:=hl
 refine Ya (rZ O (qI qZ) V J0 [0] fun O=>Ya ?_)
 refine rZ O (qI qZ) V J6 [0] fun O=>(Ya (Ya ?_))
 refine rZ O (qR rr (qu YbU r1 (qJ qZ))) V QY [0] fun O=>Ye ?_
 refine Zh (σ:=(Nat)) [1,4,8,9] [0] (fun s=>[(10,.pv (.int .i64 (s:Int))),(5,.pv (.int .i64 ((((l.take s).filter fun o=>!o.read && decide (o.key=n)).length:Nat):Int)))]) (fun s=>[]) (fun s=>s≤l.length∧(True)) (fun s=>l.length - s) (0) O ⟨rfl,rfl,rfl,rfl,rfl,rfl,tv⟩ ⟨rfl,tv⟩ ⟨Yo _,tv⟩ ?_
 clear O;intro i a w F hC O
 have hC:=X3
 obtain ⟨F,O⟩:=O.nM QY [0]
 have O:=X2
 obtain ⟨hi,hq⟩:=hC
 refine Ya (rZ O (qL r2) V Gu [0] fun O=>Ya ?_)
 refine Zb O Z (fun hc0=>?_) (fun hc0=>?_)
 ·have hil:i<l.length:=WI
  refine Yd (Za (Ya (Ye (Ya (rS O (qy 4 YbU r2 (qf (oR true 4 .t) r1 qz (qf (oH [.bool false,.int .i64 0,.int .i64 0,.int .i64 0] 101) trivial qz (qS 4 101 r2 r1 qZ)))) V Gz QK fun τ O=>?_)))))
  have O:=Xg
  generalize τ 7=v7 at O
  try simp only [Yf] at O
  refine Za (Ya (rZ O (qg 0 101 r1 r1 (qa 101 r1 r1 (qf (ZW .t) r1 qz (qR rr (qv 1 101 Z r2 r1 (qw 101 Z r2 r1 (qm Z Z Z Z (qk Z (fun h=>o_eql (.w h) (.w h)) r3 qz (qf (ZF .t .t) r2 qz qZ))))))))) V [22,10,9,8,5,4,1] [0] fun O=>?_))
  refine Zb O Z (fun hc1=>?_) (fun hc1=>?_)
  ·have hstp:((l.take (i+1)).filter fun o=>!o.read && decide (o.key=n))=((l.take i).filter fun o=>!o.read && decide (o.key=n))++(if (!(Nn l i).read && decide ((Nn l i).key=n))=true then [(Nn l i)] else []):=Q9
   have hle:((l.take i).filter fun o=>!o.read && decide (o.key=n)).length≤i:=YT (YJ _ _) WF
   have hBq:(!(Nn l i).read && decide ((Nn l i).key=n))=true:=hc1
   have hcc:IntKind.wrap .i64 (((((l.take i).filter fun o=>!o.read && decide (o.key=n)).length:Nat):Int)+1)=((((l.take (i+1)).filter fun o=>!o.read && decide (o.key=n)).length:Nat):Int):=by rw [hstp,Yg hBq,Yc,Zj ow];simp
   refine Zg O (qR rr (qp r1 (qO rr qZ))) V QY [0] Z Z fun a w F O=>Zf (Za ?_)
   refine rZ O (qp r1 (qR rr qZ)) V QY [0] fun O=>?_
   replace O:=O.eI 10 i
   replace O:=O.ent (i:=5) (s':=.pv (.int .i64 ((((l.take (i+1)).filter fun o=>!o.read && decide (o.key=n)).length:Nat):Int))) Z (.int hcc)
   obtain ⟨F,O⟩:=O.nM JX [0]
   exact ⟨(i+1),F,⟨ow,tv⟩,O,ow⟩
  have hstp:((l.take (i+1)).filter fun o=>!o.read && decide (o.key=n))=((l.take i).filter fun o=>!o.read && decide (o.key=n))++(if (!(Nn l i).read && decide ((Nn l i).key=n))=true then [(Nn l i)] else []):=Q9
  have hle:((l.take i).filter fun o=>!o.read && decide (o.key=n)).length≤i:=YT (YJ _ _) WF
  have hBq:(!(Nn l i).read && decide ((Nn l i).key=n))=false:=hc1
  have hcc:((((l.take i).filter fun o=>!o.read && decide (o.key=n)).length:Nat):Int)=((((l.take (i+1)).filter fun o=>!o.read && decide (o.key=n)).length:Nat):Int):=by rw [hstp,Yb (by rw [hBq];simp),YF]
  refine Yd (Zf (Za (rZ O (qp r1 (qR rr qZ)) V QY [0] fun O=>?_)))
  replace O:=O.eI 10 i
  replace O:=O.ent (i:=5) (s':=.pv (.int .i64 ((((l.take (i+1)).filter fun o=>!o.read && decide (o.key=n)).length:Nat):Int))) Z (.int hcc)
  obtain ⟨F,O⟩:=O.nM JX [0]
  exact ⟨(i+1),F,⟨ow,tv⟩,O,ow⟩
 have hil:i=l.length:=WI
 refine Ym (Ze (Ze (Zk (Za (Ya (rZ O (qR rr (qO rr qZ)) V [4] [0] fun O=>Yh ?_))))))
 refine Zx hfr O Z Z Z (.int WO)
def wcnt (l:List OpD) (k:Int):Nat:=(l.filter fun o=>!o.read && decide (o.key=k)).length
theorem Zkp {l:List OpD} {i:Nat} (h:i<l.length) (k:Int):wcnt (l.take (i+1)) k=wcnt (l.take i) k+if (Nn l i).read=false∧(Nn l i).key=k then 1 else 0:=by
 unfold wcnt
 rw [ZN h,Y5,Yc]
 congr 1
 by_cases h1:(Nn l i).read=false∧(Nn l i).key=k
 ·rw [Yg h1];simp [h1.1,h1.2]
 ·rw [Yb h1]
  have:(!(Nn l i).read && decide ((Nn l i).key=k))=false:=by
   cases hr:(Nn l i).read with
   | true=>rfl
   | false=>simp;exact fun e=>h1 ⟨hr,e⟩
  simp [this]
theorem ZsO (l:List OpD) (i:Nat) (k:Int):wcnt (l.take i) k≤i:=YT (YJ _ _) (by rw [Yk];omega)
def Zbh (id:Int):List OpD→List OpD→Int
 | _,[]=>0
 | s,o :: r=>if Zb8 o=false then 1 else if o.read=true∧o.tx=id∧(wcnt s o.key:Int)<o.nth then 6 else Zbh id (s ++ [o]) r
def Zag (t:TxD):Int:=if ¬ (1≤t.id∧t.id≤1048575) then 1 else if 4095<t.ops.length then 9 else Zbh t.id [] t.ops
theorem ZbU {id:Int} {l:List OpD} {i:Nat} (h:i<l.length):Zbh id (l.take i) (l.drop i)=if Zb8 (Nn l i)=false then 1 else if (Nn l i).read=true∧(Nn l i).tx=id∧(wcnt (l.take i) (Nn l i).key:Int)<(Nn l i).nth then 6 else Zbh id (l.take (i+1)) (l.drop (i+1)):=by
 rw [Zal h,Zbh,ZN h]
theorem ZhH {id:Int} {l:List OpD} {i:Nat} (h:i=l.length):Zbh id (l.take i) (l.drop i)=0:=by rw [h,YaG];rfl
def Zh2 (id:Int) (o:OpD):Bool:=(o.read && !decide (o.tx=0)) && !decide (o.tx=id)
def Zbe (id:Int) (out:List ZcM) (o:OpD):List ZcM:=if Zh2 id o=true∧ofO o ∉ out then out ++ [ofO o] else out
def ZcY (id:Int) (l:List OpD):List ZcM:=l.foldl (Zbe id) []
def ZaC (t:TxD):List ZcM:=ZcY t.id t.ops
theorem ZgT {id:Int} {l:List OpD} {i:Nat} (h:i<l.length):ZcY id (l.take (i+1))=Zbe id (ZcY id (l.take i)) (Nn l i):=by
 unfold ZcY
 rw [ZN h,YaC]
 rfl
theorem Zk7 (id:Int) (out:List ZcM) (o:OpD):(Zbe id out o).length≤out.length+1:=by
 unfold Zbe
 split <;> simp
theorem Zd1 (id:Int) (l:List OpD) (i:Nat):(ZcY id (l.take i)).length≤i:=by
 have key:∀ (l:List OpD) (out:List ZcM),(l.foldl (Zbe id) out).length≤out.length+l.length:=by
  intro l
  induction l with
  | nil=>intro out;simp
  | cons x l ih=>
   intro out
   have h1:=ih (Zbe id out x)
   have h2:=Zk7 id out x
   rw [Yas,Yl];omega
 have:=key (l.take i) []
 rw [Yk] at this
 unfold ZcY
 simp at this ⊢
 omega
structure Zb9 where
 key:Int
 nth:Int
 deriving DecidableEq,Inhabited
def Zci (p:Zb9):List Int:=[p.key,p.nth]
def Zeo (v:ZcM):List Int:=[v.tx,v.key,v.nth]
def Zdm (es:List (GE Zb9 Int)) (s:List OpD):Prop:=∀ k n,0≤n→(gGet (⟨k,n⟩:Zb9) es).getD 0=if n=0 then (wcnt s k:Int) else if n≤wcnt s k then 1 else 0
theorem ZqD:Zdm [] []:=fun k n h=>by
 show (0:Int)=_
 have:wcnt [] k=0:=rfl
 rw [this]
 split
 ·rfl
 ·rw [Yb Wb]
theorem Zqb {es:List (GE Zb9 Int)} {l:List OpD} {i:Nat} (h:Zdm es (l.take i)) (hi:i<l.length) (hr:(Nn l i).read=true):Zdm es (l.take (i+1)):=fun k n hn=>by
 rw [h k n hn,Zkp hi,Yb (c:=(Nn l i).read=false∧(Nn l i).key=k) WP,Ybr]
theorem Zo1 {es es2:List (GE Zb9 Int)} {l:List OpD} {i:Nat} {c:Int} (h:Zdm es (l.take i)) (hi:i<l.length) (hr:(Nn l i).read=false) (hc:c=(wcnt (l.take i) (Nn l i).key:Int)+1)
  (he:∀ p,(gGet p es2).getD 0=if p = ⟨(Nn l i).key,c⟩ then 1 else if p = ⟨(Nn l i).key,0⟩ then c else (gGet p es).getD 0):Zdm es2 (l.take (i+1)):=fun k n hn=>by
 have hk:=h k n hn
 rw [he,hk,Zkp hi]
 by_cases e:(Nn l i).key=k
 ·rw [Yg (c:=(Nn l i).read=false∧_) ⟨hr,e⟩]
  rw [e] at hc
  rw [e]
  by_cases e2:n=c
  ·subst e2
   rw [Yg rfl,Yb ow,Yg ow]
  ·rw [Yb (by simp [e2])]
   by_cases e3:n=0
   ·subst e3
    rw [Yg rfl,Yg rfl,hc];simp
   ·rw [Yb (by simp [e3]),Yb e3,Yb e3]
    by_cases e4:n≤(wcnt (l.take i) k:Int)
    ·rw [Yg e4,Yg ow]
    ·rw [Yb e4,Yb ow]
 ·rw [Yb (c:=(Nn l i).read=false∧_) (by simp [e]),Ybr,Yb (by simp;exact fun h=>absurd h.symm e),Yb (by simp;exact fun h=>absurd h.symm e)]
def Ze2 (es:List (GE ZcM Int)) (i:Nat) (out:List ZcM):Prop:=∀ v,0≤(gGet v es).getD 0∧(gGet v es).getD 0≤i∧(0<(gGet v es).getD 0 ↔ v ∈ out)
theorem ZrM:Ze2 [] 0 []:=fun v=>⟨Yau _,Yau _,by show (0:Int)<0 ↔ _;simp⟩
theorem Zrl {es:List (GE ZcM Int)} {i:Nat} {out:List ZcM} (h:Ze2 es i out):Ze2 es (i+1) out:=fun v=>⟨(h v).1,by have:=(h v).2.1;omega,(h v).2.2⟩
theorem Zro {es es2:List (GE ZcM Int)} {i:Nat} {out:List ZcM} {v:ZcM} (h:Ze2 es i out) (he:∀ u,(gGet u es2).getD 0=if u=v then (gGet v es).getD 0+1 else (gGet u es).getD 0):Ze2 es2 (i+1) (if v ∈ out then out else out ++ [v]):=fun u=>by
 have h1:=h u
 have h2:=h v
 rw [he u]
 by_cases e:u=v
 ·subst e
  rw [Yg rfl]
  refine ⟨ow,ow,?_⟩
  constructor
  ·intro _;split <;> simp_all
  ·intro _;omega
 ·rw [Yb e]
  refine ⟨ow,ow,?_⟩
  rw [h1.2.2]
  split
  ·rfl
  ·simp [e]
theorem Zig {κ:Type} [DecidableEq κ] {k p:κ} {x:Int} (s:List (GE κ Int)×Nat):(gGet p (gSet k x (gEns 0 k s).1)).getD 0=if p=k then x else (gGet p s.1).getD 0:=by
 rw [Zoa];split <;> rfl
theorem ZrP {κ:Type} [DecidableEq κ] {k p:κ} {x:Int} (s:List (GE κ Int)×Nat):(gGet p (gPut k x s).1).getD 0=if p=k then x else (gGet p s.1).getD 0:=by
 rw [Zfh];split <;> rfl
theorem ZgK:Zoz prog 215 (fun k=>∀ x ∈ Zci k,inR .i64 x) (kvS Zci):=Zg9 (n:=2) (fun _=>rfl) (fun a b h=>by cases a;cases b;simpa [Zci] using h) kr
theorem Zpe:Zoz prog 146 (fun k=>∀ x ∈ Zeo k,inR .i64 x) (kvS Zeo):=Zg9 (n:=3) (fun _=>rfl) (fun a b h=>by cases a;cases b;simpa [Zeo] using h) kr
theorem Zkj {es:List (GE Zb9 Int)} {s:List OpD} {o:OpD} {id:Int} (h:Zdm es s) (hk:Zb8 o=true) (hr:o.read=true) (hid:1≤id):(o.tx=id∧(gGet (⟨o.key,o.nth⟩:Zb9) es).getD 0=0) ↔ (o.read=true∧o.tx=id∧(wcnt s o.key:Int)<o.nth):=by
 have hb:=ZoS hk
 have h1:=h o.key o.nth ow
 constructor
 ·rintro ⟨e1,e2⟩
  refine ⟨hr,e1,?_⟩
  have hn:1≤o.nth:=by
   rw [ZfG hr] at hk
   unfold ofO at hk
   rw [Yg hr] at hk
   unfold Zcj at hk
   rw [Yb (show ¬ o.tx=0 by omega)] at hk
   simp at hk
   omega
  rw [e2,Yb ow] at h1
  split at h1
  ·cases h1
  ·omega
 ·rintro ⟨_,e1,e2⟩
  refine ⟨e1,?_⟩
  rw [h1,Yb ow,Yb ow]
theorem Zpc (t:TxD):FnP prog 85 [.agg (rTx t)] (.int .i64 (Zag t)):=by
 refine FnP.mk func85 Z ntmps85 Z fun B a w F V hfr O=>Ya ?_
 refine rS O (qx 101 r1 (qI qZ)) V J5 QK fun τ O=>?_
 have O:=Xu
 generalize τ 1=v1 at O
 refine Za (Ya (Ye (Ya (rZ O (qg 0 101 r1 r1 (qa 101 r1 r1 (qf (ZaR .t qi) r1 qz (qR rr (qv 0 101 Z r2 r1 (qw 101 Z r2 r1 (qk Z (fun h=>o_gtr (.w h) qi) r2 qz (qf (ZaB .t .t) r2 qz (qO rr qZ))))))))) V [7,2,1] QK fun O=>?_))))
 refine Zb O Z (fun hc0=>?_) (fun hc0=>?_)
 ·have hg:1=Zag t:=by unfold Zag;rw [Yg WI]
  refine Ya (rZ O (qI qZ) V J5 QK fun O=>(Yh (Zl (Zd ?_))))
  refine Zx hfr O Z Z Z (.int hg)
 have hid:1≤t.id∧t.id≤1048575:=WI
 refine Ya (rZ O (qg 2 101 r1 r1 (qa 101 r1 r1 (qu YbU r1 (qf (o_gtr .t qi) r1 qz (qO rr qZ))))) V [16,2,1] QK fun O=>?_)
 refine Zb O Z (fun hc1=>?_) (fun hc1=>?_)
 ·have hg:9=Zag t:=by unfold Zag;rw [Yb ow,Yg WH]
  refine Ya (rZ O (qI qZ) V J5 QK fun O=>(Yh (Zl (Zd ?_))))
  refine Zx hfr O Z Z Z (.int hg)
 have hlen:t.ops.length≤4095:=WH
 have hT:Zag t=Zbh t.id [] t.ops:=by unfold Zag;rw [Yb ow,Yb ow]
 refine Yd (Zf (Za (Ya (rS O (qf (Zc6 (ek:=(fun n:Int=>PV.int .i64 n)) (ok:=(fun k=>∀ x ∈ Zci k,inR .i64 x)) (kv:=(kvS Zci)) 102) trivial qz (qO rr qZ)) V Gh QI fun τ O=>?_))))
 try dsimp only [RS.sub,SF.sub,CF.sub,csub,Anc.sub,List.map,Zc,xL,xM,Nat.reduceAdd,xD,xE,xT,xU,xC,xN,zCF,Zo,rOp,rTx] at O
 generalize τ 21=v21 at O
 refine Za (Ya (Ya (rZ O (qg 2 101 r1 r1 (qa 101 r1 r1 (qu YbU r1 (qJ qZ)))) V GA QI fun O=>Ye ?_)))
 refine Zh (σ:=(Nat)×(List (GE Zb9 Int))×(Nat)) [1,2,3,23,24] [0,101] (fun s=>[(25,.pv (.int .i64 (s.1:Int)))]) (fun s=>[(102,.ob (.val v21) (mapG (fun n:Int=>PV.int .i64 n) (fun k=>∀ x ∈ Zci k,inR .i64 x) (kvS Zci) s.2.1 s.2.2))]) (fun s=>s.1≤t.ops.length∧(Zbh t.id [] t.ops=Zbh t.id (t.ops.take s.1) (t.ops.drop s.1)∧Zdm s.2.1 (t.ops.take s.1))) (fun s=>t.ops.length - s.1) ((0),([]),(0)) O ⟨rfl,rfl,rfl,rfl,rfl,rfl,tv⟩ ⟨rfl,rfl,rfl,tv⟩ ⟨Yo _,⟨rfl,ZqD⟩⟩ ?_
 clear O;intro s a w F hC O
 obtain ⟨i,es,ck⟩:=s
 have hC:=X3
 obtain ⟨F,O⟩:=O.nM GA QI
 have O:=X2
 obtain ⟨hi,hq⟩:=hC
 obtain ⟨hrt,hsp⟩:=hq
 have hwl:=fun k=>ZsO t.ops i k
 refine Ya (rZ O (qL r2) V [26,25,24,23,3,2,1] QI fun O=>Ya ?_)
 refine Zb O Z (fun hc2=>?_) (fun hc2=>?_)
 ·have hil:i<t.ops.length:=KM
  refine Yd (Za (Ya (Ye (Ya (rS O (qy 4 YbU r2 (qf (oR true 4 .t) r1 qz (qf (oH [.bool false,.int .i64 0,.int .i64 0,.int .i64 0] 103) trivial qz (qS 4 103 r2 r1 qZ)))) V GU QJ fun τ O=>?_)))))
  have O:=Xg
  generalize τ 5=v5 at O
  try simp only [Yf] at O
  refine Za (Ya (Ya (rZ O (qe 4 103 r1 r1 (qf (oP (ZqC (Nn t.ops i)) func149 (Args.one (.pagg .t))) r1 qz (qO rr qZ))) V [25,24,23,6,5,3,2,1] QJ fun O=>Ya ?_)))
  refine rZ O (qR rr (qf (o_neq .t qi) r1 qz qZ)) V [32,25,24,23,6,5,3,2,1] QJ fun O=>?_
  refine Zb O Z (fun hc3=>?_) (fun hc3=>?_)
  ·have hk:Zb8 (Nn t.ops i)=false:=by unfold ZdH at hc3;simpa using hc3
   have hg:ZdH (Nn t.ops i)=Zag t:=by rw [hT,hrt,ZbU hil,Yg hk];unfold ZdH;rw [hk];rfl
   refine Ya (rZ O (qR rr (qO rr qZ)) V GU QJ fun O=>(Yh (Zd (Zl (Zd (Zd (Zl (Zd ?_))))))))
   refine Zx hfr O Z Z Z (.int hg)
  have hk:Zb8 (Nn t.ops i)=true:=by unfold ZdH at hc3;simpa using hc3
  refine Yd (Za (Ya (Ya (rZ O (qg 0 103 r1 r1 (qa 103 r1 r1 (qf (ZW .t) r1 qz qZ))) V [36,25,24,23,5,3,2,1] QJ fun O=>?_))))
  refine Zb O Z (fun hc4=>?_) (fun hc4=>?_)
  ·have hr:(Nn t.ops i).read=false:=KE
   have hm0:=hsp (Nn t.ops i).key 0 (Yau _)
   rw [Yg rfl] at hm0
   have hwc:IntKind.wrap .i64 (((gGet (⟨(Nn t.ops i).key,0⟩:Zb9) es).getD 0)+1)=(wcnt (t.ops.take i) (Nn t.ops i).key:Int)+1:=by rw [hm0];exact Zj (by have:=hwl (Nn t.ops i).key;omega)
   refine Ya ?_
   replace O:=O.turnZ 102 (0) (⟨(Nn t.ops i).key,0⟩:Zb9) rfl
   refine Zhy 102 8 (m1:=1) (m2:=2) kr O kr (qR rr (qg 1 103 r1 r1 (qa 103 r1 r1 (qf (oB [(0,.tmp 39),(1,_)] [.int .i64 0,.int .i64 0] [(0,1),(1,1)] (.one Z .t one_int kr (.one Z qi one_int kr .nil))) r1 qz (qf (ZkG (ek:=(fun n:Int=>PV.int .i64 n)) (z0:=(0)) 102 underlying212 ZgK kr (fun _ _=>⟨rfl,ZhX⟩) .is (Z5.agg (enc:=Zci) (k:=(⟨(Nn t.ops i).key,0⟩:Zb9)) (.pagg .t) Z)) r2 r1 (qp r1 (qf (ZhS (ek:=(fun n:Int=>PV.int .i64 n)) (z0:=(0)) 102 underlying212 ZgK kr (fun _ _=>⟨rfl,ZhX⟩) .is (Z5.agg (enc:=Zci) (k:=(⟨(Nn t.ops i).key,0⟩:Zb9)) (.pagg .t) Z) (by intros;first | rfl | simp [Anc.v,upd])) r2 r1 (qf (o_extract .t Z) r1 qz (qf (Zfn 102 (Zhw _ _ _) .is .t .t) r3 r1 qZ))))))))) kr kr kr Z Z Z (fun _ _ _ _ h=>.inr h) Wq fun a w F O=>?_
   obtain ⟨F,O⟩:=O.nM GU QJ
   have O:=XR
   obtain ⟨es1,he1⟩:∃ z,z=gSet (⟨(Nn t.ops i).key,0⟩:Zb9) (IntKind.wrap .i64 (((gGet (⟨(Nn t.ops i).key,0⟩:Zb9) es).getD 0)+1)) (gEns 0 (⟨(Nn t.ops i).key,0⟩:Zb9) (es,ck)).1:=⟨_,rfl⟩
   obtain ⟨ck1,hc1⟩:∃ z,z=(gEns 0 (⟨(Nn t.ops i).key,0⟩:Zb9) (es,ck)).2:=⟨_,rfl⟩
   rw [← he1,← hc1] at O
   refine Za (Ya (Zr O (qR rr (qg 1 103 r1 r1 (qa 103 r1 r1 (qR rr (qg 1 103 r1 r1 (qa 103 r1 r1 (qf (oB [(0,.tmp 50),(1,_)] [.int .i64 0,.int .i64 0] [(0,1),(1,1)] (.one Z .t one_int kr (.one Z qi one_int kr .nil))) r1 qz (qf (ZaP (ek:=(fun n:Int=>PV.int .i64 n)) (z0:=(0)) 102 underlying212 ZgK kr (fun _ _=>⟨rfl,ZhX⟩) .is (Z5.agg (enc:=Zci) (k:=(⟨(Nn t.ops i).key,0⟩:Zb9)) (.pagg .t) Z)) r2 r1 (qf (oB [(0,.tmp 47),(1,.tmp 52)] [.int .i64 0,.int .i64 0] [(0,1),(1,1)] (.one Z .t one_int kr (.one Z .t one_int kr .nil))) r2 qz (qf (Zbx (ek:=(fun n:Int=>PV.int .i64 n)) 102 underlying212 ZgK .is (Z5.agg (enc:=Zci) (k:=(⟨(Nn t.ops i).key,(gGet (⟨(Nn t.ops i).key,0⟩:Zb9) es1).getD 0⟩:Zb9)) (.pagg .t) Z) qi) r2 r1 qZ)))))))))) V GU QJ Z Z fun a w F O=>?_))
   have O:=XR
   have hv1:∀ p,(gGet p es1).getD 0=if p=(⟨(Nn t.ops i).key,0⟩:Zb9) then (wcnt (t.ops.take i) (Nn t.ops i).key:Int)+1 else (gGet p es).getD 0:=fun p=>by rw [he1,Zig,hwc]
   obtain ⟨es2,he2⟩:∃ z,z=(gPut (⟨(Nn t.ops i).key,(gGet (⟨(Nn t.ops i).key,0⟩:Zb9) es1).getD 0⟩:Zb9) 1 (es1,ck1)).1:=⟨_,rfl⟩
   obtain ⟨ck2,hc2⟩:∃ z,z=(gPut (⟨(Nn t.ops i).key,(gGet (⟨(Nn t.ops i).key,0⟩:Zb9) es1).getD 0⟩:Zb9) 1 (es1,ck1)).2:=⟨_,rfl⟩
   rw [← he2,← hc2] at O
   have hR2:Zbh t.id [] t.ops=Zbh t.id (t.ops.take (i+1)) (t.ops.drop (i+1))∧Zdm es2 (t.ops.take (i+1)):=⟨by rw [hrt,ZbU hil,Yb WQ,Yb (by rw [hr];simp)],Zo1 hsp hil hr rfl (fun p=>by rw [he2,ZrP];dsimp only;rw [hv1,hv1,Yg rfl])⟩
   refine Za (Ym (Ze (Zk (Za (rZ O (qp r1 (qR rr qZ)) V GA QJ fun O=>?_)))))
   replace O:=O.eI 25 i
   obtain ⟨F,O⟩:=O.nM [24,23,3,2,1,25] [101,0,102]
   exact ⟨((i+1),(es2),(ck2)),F,⟨ow,hR2⟩,O,ow⟩
  have hr:(Nn t.ops i).read=true:=KE
  refine Yd (Za (Ya (rZ O (qg 2 103 r1 r1 (qa 103 r1 r1 (qg 0 101 r1 r1 (qa 101 r1 r1 (qf (o_eql .t .t) r2 qz (qR rr (qm Z Z Z Z (qv 1 103 Z r2 r1 (qw 103 Z r2 r1 (qv 3 103 Z r2 r1 (qw 103 Z r2 r1 (qk Z (fun h=>Zdi (r:=[(0,.tmp 62),(1,.tmp 64)]) (zs:=[.int .i64 0,.int .i64 0]) (pl:=[(0,1),(1,1)]) kr kr (.one Z (.w h) one_int kr (.one Z (.w h) one_int kr .nil)) Wd) r3 qz (qk Z (fun h=>ZaP (ek:=(fun n:Int=>PV.int .i64 n)) (z0:=(0)) 102 underlying212 ZgK kr (fun _ _=>⟨rfl,ZhX⟩) (.w h .is) (Z5.agg (enc:=Zci) (k:=(⟨(Nn t.ops i).key,(Nn t.ops i).nth⟩:Zb9)) (.pagg (.w h)) Z)) r3 r1 (qk Z (fun h=>o_eql (.w h) qi) r2 qz (qf (ZF .t .t) r2 qz qZ))))))))))))))) V [68,25,24,23,3,2,1] QJ fun O=>?_)))
  refine Zb O Z (fun hc5=>?_) (fun hc5=>?_)
  ·have hg:6=Zag t:=by rw [hT,hrt,ZbU hil,Yb WQ,Yg ((Zkj hsp hk hr hid.1).1 (by simpa using hc5))]
   refine Ya (rZ O (qI qZ) V GA QJ fun O=>(Yh (Zl (Zd (Zd (Zl (Zd ?_)))))))
   refine Zx hfr O Z Z Z (.int hg)
  have hno:=fun h9=>(by simpa using hc5:¬ ((Nn t.ops i).tx=t.id∧(gGet (⟨(Nn t.ops i).key,(Nn t.ops i).nth⟩:Zb9) es).getD 0=0)) ((Zkj hsp hk hr hid.1).2 h9)
  obtain ⟨es2,he2⟩:∃ z,z=es:=⟨_,rfl⟩
  obtain ⟨ck2,hc2⟩:∃ z,z=ck:=⟨_,rfl⟩
  have hR2:Zbh t.id [] t.ops=Zbh t.id (t.ops.take (i+1)) (t.ops.drop (i+1))∧Zdm es2 (t.ops.take (i+1)):=⟨by rw [hrt,ZbU hil,Yb WQ,Yb hno],by rw [he2];exact Zqb hsp hil hr⟩
  rw [← he2,← hc2] at O
  refine Yd (Zf (Za (rZ O (qp r1 (qR rr qZ)) V GA QJ fun O=>?_)))
  replace O:=O.eI 25 i
  obtain ⟨F,O⟩:=O.nM [24,23,3,2,1,25] [101,0,102]
  exact ⟨((i+1),(es2),(ck2)),F,⟨ow,hR2⟩,O,ow⟩
 have hil:i=t.ops.length:=KM
 have hg:0=Zag t:=by rw [hT,hrt,ZhH hil]
 refine Ym (Ze (Ze (Zk (Za (Ya (rZ O (qI qZ) V [2] QI fun O=>Yh ?_))))))
 refine Zx hfr O Z Z Z (.int hg)
theorem ZdI (t:TxD):FnP prog 131 [.agg (rTx t)] (.int .i64 (Zag t)):=by
 refine FnP.mk func131 Z ntmps131 Z fun B a w F V hfr O=>Ya ?_
 refine rS O (qx 101 r1 (qI qZ)) V J5 QK fun τ O=>?_
 have O:=Xu
 generalize τ 1=v1 at O
 refine Za (Ya (Ya (rZ O (qg 0 101 r1 r1 (qa 101 r1 r1 (qf (oP (ZfQ t.id) func195 (Args.one .t)) r1 qz (qf (ZW .t) r1 qz qZ)))) V [8,2,1] QK fun O=>?_)))
 refine Zb O Z (fun hc0=>?_) (fun hc0=>?_)
 ·have hg:1=Zag t:=by unfold Zag;rw [Yg (by rw [← Zhn];simpa using hc0)]
  refine Ya (rZ O (qI qZ) V J5 QK fun O=>(Yh (Zd ?_)))
  refine Zx hfr O Z Z Z (.int hg)
 have hid:1≤t.id∧t.id≤1048575:=by rw [← Zhn];simpa using hc0
 refine Yd (Za (Ya (Ya (rZ O (qg 2 101 r1 r1 (qa 101 r1 r1 (qu YbU r1 (qf (o_gtr .t qi) r1 qz qZ)))) V [12,2,1] QK fun O=>?_))))
 refine Zb O Z (fun hc1=>?_) (fun hc1=>?_)
 ·have hg:9=Zag t:=by unfold Zag;rw [Yb ow,Yg WH]
  refine Ya (rZ O (qI qZ) V J5 QK fun O=>(Yh (Zd ?_)))
  refine Zx hfr O Z Z Z (.int hg)
 have hlen:t.ops.length≤4095:=WH
 have hT:Zag t=Zbh t.id [] t.ops:=by unfold Zag;rw [Yb ow,Yb ow]
 refine Yd (Za (Ya (Ya (rZ O (qg 2 101 r1 r1 (qa 101 r1 r1 (qu YbU r1 (qJ qZ)))) V DZ QK fun O=>Ye ?_))))
 refine Zh (σ:=(Nat)) [1,2,14,15] [0,101] (fun s=>[(16,.pv (.int .i64 (s:Int)))]) (fun s=>[]) (fun s=>s≤t.ops.length∧(Zbh t.id [] t.ops=Zbh t.id (t.ops.take s) (t.ops.drop s))) (fun s=>t.ops.length - s) (0) O ⟨rfl,rfl,rfl,rfl,rfl,tv⟩ ⟨rfl,rfl,tv⟩ ⟨Yo _,rfl⟩ ?_
 clear O;intro i a w F hC O
 have hC:=X3
 obtain ⟨F,O⟩:=O.nM DZ QK
 have O:=X2
 obtain ⟨hi,hq⟩:=hC
 have hrt:=hq
 refine Ya (rZ O (qL r2) V [17,16,15,14,2,1] QK fun O=>Ya ?_)
 refine Zb O Z (fun hc2=>?_) (fun hc2=>?_)
 ·have hil:i<t.ops.length:=KM
  refine Yd (Za (Ya (Ye (Ya (rS O (qR rr (qy 4 YbU r2 (qf (oR true 4 .t) r1 qz (qf (oH [.bool false,.int .i64 0,.int .i64 0,.int .i64 0] 102) trivial qz (qO rr (qS 4 102 r2 r1 qZ)))))) V [16,15,14,4,3,2,1] QI fun τ O=>?_)))))
  have O:=Xg
  generalize τ 4=v4 at O
  try simp only [Yf] at O
  refine Za (Ya (Ya (rZ O (qe 4 102 r1 r1 (qf (oP (Zle (Nn t.ops i)) func196 (Args.one (.pagg .t))) r1 qz (qf (ZW .t) r1 qz qZ))) V [23,16,15,14,4,3,2,1] QI fun O=>?_)))
  refine Zb O Z (fun hc3=>?_) (fun hc3=>?_)
  ·have hk:Zb8 (Nn t.ops i)=false:=WS
   have hg:1=Zag t:=by rw [hT,hrt,ZbU hil,Yg hk]
   refine Ya (rZ O (qI qZ) V [16,15,14,4,3,2,1] QI fun O=>(Yh (Zd (Zl (Zd (Zd (Zl (Zd ?_))))))))
   refine Zx hfr O Z Z Z (.int hg)
  have hk:Zb8 (Nn t.ops i)=true:=WS
  refine Yd (Za (Ya (Zr O (qg 0 102 r1 r1 (qa 102 r1 r1 (qR rr (qv 2 102 Z r2 r1 (qw 102 Z r2 r1 (qv 0 101 Z r2 r1 (qw 101 Z r2 r1 (qk Z (fun h=>o_eql (.w h) (.w h)) r3 qz (qf (ZF .t .t) r2 qz (qR rr (qv 3 102 Z r2 r1 (qw 102 Z r2 r1 (qv 2 101 Z r2 r1 (qw 101 Z r2 r1 (qm Z Z Z Z (qk Z (fun h=>Zc1 (sz:=4) (.mk YbU kr) Wt (.w h) (.w h) ow ow) r3 qz (qv 1 102 Z r2 r1 (qw 102 Z r2 r1 (qk Z (fun h=>oP (ZdO (t.ops.take i) (Nn t.ops i).key WF) func197 (Args.two (.w h) (.w h))) r3 qz (qk Z (fun h=>o_gtr (.w h) (.w h)) r3 qz (qf (ZF .t .t) r2 qz qZ))))))))))))))))))))) V [44,16,15,14,2,1] QI Z Z fun a w F O=>?_)))
  try dsimp only [List.map,xD,xE,xT,xU,ldSF,Zo,rOp,rTx] at O
  refine Za (Zb O Z (fun hc4=>?_) (fun hc4=>?_))
  ·have hyes:(Nn t.ops i).read=true∧(Nn t.ops i).tx=t.id∧(wcnt (t.ops.take i) (Nn t.ops i).key:Int)<(Nn t.ops i).nth:=by unfold wcnt;simpa [YbO] using hc4
   have hg:6=Zag t:=by rw [hT,hrt,ZbU hil,Yb WQ,Yg hyes]
   refine Ya (rZ O (qI qZ) V DZ QI fun O=>(Yh (Zl (Zd (Zd (Zl (Zd ?_)))))))
   refine Zx hfr O Z Z Z (.int hg)
  have hno:¬ ((Nn t.ops i).read=true∧(Nn t.ops i).tx=t.id∧(wcnt (t.ops.take i) (Nn t.ops i).key:Int)<(Nn t.ops i).nth):=by unfold wcnt;intro h9;have h8:=hc4;simp [h9.1,h9.2.1] at h8;omega
  refine Yd (Zf (Za (rZ O (qp r1 (qR rr qZ)) V DZ QI fun O=>?_)))
  replace O:=O.eI 16 i
  obtain ⟨F,O⟩:=O.nM [15,14,2,1,16] QK
  exact ⟨(i+1),F,⟨ow,(by rw [hrt,ZbU hil,Yb WQ,Yb hno])⟩,O,ow⟩
 have hil:i=t.ops.length:=KM
 have hg:0=Zag t:=by rw [hT,hrt,ZhH hil]
 refine Ym (Ze (Ze (Zk (Za (Ya (rZ O (qI qZ) V [2] QK fun O=>Yh ?_))))))
 refine Zx hfr O Z Z Z (.int hg)
theorem Zqi {u v:ZcM} {r:Bool} (h:(decide (u.tx=v.tx) && (decide (u.key=v.key) && (decide (u.nth=v.nth) && true)))=r):r=decide (u=v):=by
 cases u;cases v
 rw [← h,Yaa]
 simp
theorem Zr7 (l:List ZcM) (v:ZcM):FnP prog 254 [.sl ZR l,.agg (ZR v)] (.bool (decide (v ∈ l))):=by
 refine FnP.mk func254 Z ntmps254 Z fun B a w F V hfr O=>?_
 have hll:=Sat.lenSl O (i:=0) rfl
 refine Ya (rS O (qx 101 r1 qB) V DC QK fun τ O=>?_)
 try dsimp only [RS.sub,SF.sub,CF.sub,csub,Anc.sub,List.map,zCF,ZR] at O
 generalize τ 3=v3 at O
 refine Za (Ya (Ya (rZ O (qR rr (qu Yb0 r1 (qJ qZ))) V XaO QK fun O=>Ye ?_)))
 refine Zh (σ:=(Nat)) [3,4,7,8] [0,101] (fun s=>[(9,.pv (.int .i64 (s:Int)))]) (fun s=>[]) (fun s=>s≤l.length∧(∀ k,k<s→Nn l k≠v)) (fun s=>l.length - s) (0) O ⟨rfl,rfl,rfl,rfl,rfl,tv⟩ ⟨rfl,rfl,tv⟩ ⟨Yo _,fun k hk=>absurd hk (YI k)⟩ ?_
 clear O;intro i a w F hC O
 have hC:=X3
 obtain ⟨F,O⟩:=O.nM XaO QK
 have O:=X2
 obtain ⟨hi,hq⟩:=hC
 refine Ya (rZ O (qL r2) V [10,9,8,7,4,3] QK fun O=>Ya ?_)
 refine Zb O Z (fun hc0=>?_) (fun hc0=>?_)
 ·have hil:i<l.length:=WI
  refine Yd (Za (Ya (Ye (Ya (rS O (qy 3 Yb0 r2 (qf (oR true 3 .t) r1 qz (qf (oH [.int .i64 0,.int .i64 0,.int .i64 0] 102) trivial qz (qS 3 102 r2 r1 qZ)))) V [9,8,7,6,4,3] QI fun τ O=>?_)))))
  try dsimp only [RS.sub,SF.sub,CF.sub,csub,Anc.sub,List.map,Zc,xL,xM,Nat.reduceAdd,xD,xE,xT,xU,xC,xN,zCF,ldSF,ZR] at O
  generalize τ 6=v6 at O
  try simp only [Yf] at O
  refine Za (Ya (rZ O (qe 3 102 r1 r1 (qe 3 101 r1 r1 (qf (Zud (ks:=[true,true,true]) kr .t .t (.int (.int (.int .nil)))) r2 qz qZ))) V [15,9,8,7,4,3] QK fun O=>?_))
  refine Zb O Z (fun hc1=>?_) (fun hc1=>?_)
  ·have hg:true=decide (v ∈ l):=(YA (by have h9:=(Zqi hc1).symm;rw [Yj] at h9;rw [← h9];exact ZP hil)).symm
   refine Ya (rZ O qB V XaO QK fun O=>(Yh (Zl (Zd (Zd (Zl (Zd ?_)))))))
   refine Zx hfr O Z Z Z (.bool hg)
  have hne:Nn l i≠v:=by have h9:=(Zqi hc1).symm;rwa [Yi] at h9
  refine Yd (Zf (Za (rZ O (qp r1 (qR rr qZ)) V XaO QK fun O=>?_)))
  replace O:=O.eI 9 i
  obtain ⟨F,O⟩:=O.nM [8,7,4,3,9] QK
  exact ⟨(i+1),F,⟨ow,(fun k hk=>by rcases Yw (YC hk) with h | h;exact hq k h;rw [h];exact hne)⟩,O,ow⟩
 have hil:i=l.length:=WI
 have hg:false=decide (v ∈ l):=by
   rw [Y8,Yi]
   intro hv
   obtain ⟨k,hk,e⟩:=YL hv
   exact hq k WI (by rw [Zu hk];exact e)
 refine Ym (Ze (Ze (Zk (Za (Ya (rZ O qB V [4] QK fun O=>Yh ?_))))))
 refine Zx hfr O Z Z Z (.bool hg)
theorem ZqJ (t:TxD) (hl:t.ops.length≤1000000):FnP prog 84 [.agg (rTx t)] (.sl ZR (ZaC t)):=by
 refine FnP.mk func84 Z ntmps84 Z fun B a w F V hfr O=>Ya ?_
 refine rS O (qx 101 r1 (qC qZ)) V J5 QK fun τ O=>?_
 have O:=XV
 generalize τ 1=v1 at O
 refine Za (Ya (rZ O (qC qZ) V Gh QK fun O=>Ya ?_))
 refine rS O (qf (Zc6 (ek:=(fun n:Int=>PV.int .i64 n)) (ok:=(fun k=>∀ x ∈ Zeo k,inR .i64 x)) (kv:=(kvS Zeo)) 102) trivial qz (qO rr qZ)) V XaL QI fun τ O=>?_
 try dsimp only [RS.sub,SF.sub,CF.sub,csub,Anc.sub,List.map,Zc,xL,xM,Nat.reduceAdd,xD,xE,xT,xU,xC,xN,zCF,Zo,rOp,rTx,ZR] at O
 generalize τ 8=v8 at O
 refine Za (Ya (Ya (rZ O (qg 2 101 r1 r1 (qa 101 r1 r1 (qu YbU r1 (qJ qZ)))) V G3 QI fun O=>Ye ?_)))
 replace O:=O.fresh 50 rfl
 replace O:=O.turn 50 Z (Zas (T:=146) (sz:=3) (R:=ZR))
 refine Zh (σ:=(Nat)×(List (GE ZcM Int))×(Nat)×(Value)×(List ZcM)) [1,2,4,10,11] [0,101] (fun s=>[(12,.pv (.int .i64 (s.1:Int))),(3,.pv (.is s.2.2.2.1))]) (fun s=>[(102,.ob (.val v8) (mapG (fun n:Int=>PV.int .i64 n) (fun k=>∀ x ∈ Zeo k,inR .i64 x) (kvS Zeo) s.2.1 s.2.2.1)),(50,.ob (.val s.2.2.2.1) (ZM 146 3 ZR s.2.2.2.2))]) (fun s=>s.1≤t.ops.length∧(s.2.2.2.2=ZcY t.id (t.ops.take s.1)∧Ze2 s.2.1 s.1 s.2.2.2.2)) (fun s=>t.ops.length - s.1) ((0),([]),(0),(.slice none 0 0),([])) O ⟨rfl,rfl,rfl,rfl,rfl,rfl,rfl,tv⟩ ⟨rfl,rfl,rfl,rfl,tv⟩ ⟨Yo _,⟨rfl,ZrM⟩⟩ ?_
 clear O;intro s a w F hC O
 obtain ⟨i,es,ck,v,out⟩:=s
 have hC:=X3
 obtain ⟨F,O⟩:=O.nM G3 QM
 have O:=X2
 obtain ⟨hi,hq⟩:=hC
 obtain ⟨hou,hvi⟩:=hq
 have hol:out.length≤i:=by rw [hou];exact Zd1 _ _ _
 have hst:=fun hil:i<t.ops.length=>ZgT (id:=t.id) hil
 refine Ya (rZ O (qL r2) V [13,12,11,10,4,3,2,1] QM fun O=>Ya ?_)
 refine Zb O Z (fun hc0=>?_) (fun hc0=>?_)
 ·have hil:i<t.ops.length:=WI
  refine Yd (Za (Ya (Ye (Ya (rS O (qy 4 YbU r2 (qf (oR true 4 .t) r1 qz (qf (oH [.bool false,.int .i64 0,.int .i64 0,.int .i64 0] 103) trivial qz (qS 4 103 r2 r1 qZ)))) V [12,11,10,6,4,3,2,1] J1 fun τ O=>?_)))))
  have O:=Xi
  generalize τ 6=v6 at O
  try simp only [Yf] at O
  refine Za (Ya (rS O (qe 4 103 r1 r1 (qf (oP (ZsE (Nn t.ops i)) func148 (Args.one (.pagg .t))) r1 qz (qf (oH [.int .i64 0,.int .i64 0,.int .i64 0] 104) trivial qz (qf (oA 3 104 .same (.conv .t .agg)) r2 r1 qZ)))) V [12,11,10,7,6,4,3,2,1] Je fun τ O=>?_))
  have O:=Xi
  generalize τ 7=v7 at O
  refine Za (Ya (Ya (rZ O (qg 0 103 r1 r1 (qa 103 r1 r1 (qf (ZW .t) r1 qz (qR rr (qv 0 104 Z r2 r1 (qw 104 Z r2 r1 (qk Z (fun h=>o_eql (.w h) qi) r2 qz (qf (ZaB .t .t) r2 qz (qR rr (qv 0 104 Z r2 r1 (qw 104 Z r2 r1 (qv 0 101 Z r2 r1 (qw 101 Z r2 r1 (qk Z (fun h=>o_eql (.w h) (.w h)) r3 qz (qf (ZaB .t .t) r2 qz qZ))))))))))))))) V [32,12,11,10,7,4,3,2,1] Je fun O=>?_)))
  refine Zb O Z (fun hc1=>?_) (fun hc1=>?_)
  ·have hno:Zh2 t.id (Nn t.ops i)=false:=by unfold Zh2;unfold ofO at hc1;cases hr:(Nn t.ops i).read <;> simp [hr] at hc1 ⊢;omega
   obtain ⟨es2,he2⟩:∃ z,z=es:=⟨_,rfl⟩
   obtain ⟨ck2,hc2⟩:∃ z,z=ck:=⟨_,rfl⟩
   obtain ⟨out2,ho2⟩:∃ z,z=out:=⟨_,rfl⟩
   have hR2:out2=ZcY t.id (t.ops.take (i+1))∧Ze2 es2 (i+1) out2:=⟨by rw [ho2,hou,hst hil];unfold Zbe;rw [Yb (by rw [hno];simp)],by rw [he2,ho2];exact Zrl hvi⟩
   rw [← he2,← hc2,← ho2] at O
   refine Ym (Ze (Zk (Za (rZ O (qp r1 (qR rr qZ)) V G3 J1 fun O=>?_))))
   replace O:=O.eI 12 i
   obtain ⟨F,O⟩:=O.nM Xa8 XaT
   exact ⟨((i+1),(es2),(ck2),_,(out2)),F,⟨ow,hR2⟩,O,ow⟩
  have hyes:Zh2 t.id (Nn t.ops i)=true:=by unfold Zh2;unfold ofO at hc1;cases hr:(Nn t.ops i).read <;> simp [hr] at hc1 ⊢;exact hc1
  have hvr:=hvi (ofO (Nn t.ops i))
  have hw1:IntKind.wrap .i64 (((gGet (ofO (Nn t.ops i)) es).getD 0)+1)=((gGet (ofO (Nn t.ops i)) es).getD 0)+1:=Zj (by have:=Sat.lenSl O (i:=10) rfl;omega)
  refine Yd (Za (Ya ?_))
  replace O:=O.turnZ 102 (0) (ofO (Nn t.ops i)) rfl
  refine Zhy 102 6 (m1:=1) (m2:=2) kr O kr (qR rr (qe 3 104 r1 r1 (qf (ZkG (ek:=(fun n:Int=>PV.int .i64 n)) (z0:=(0)) 102 underlying210 Zpe kr (fun _ _=>⟨rfl,ZhX⟩) .is (Z5.agg (enc:=Zeo) (k:=(ofO (Nn t.ops i))) (.pagg .t) Z)) r2 r1 (qp r1 (qf (ZhS (ek:=(fun n:Int=>PV.int .i64 n)) (z0:=(0)) 102 underlying210 Zpe kr (fun _ _=>⟨rfl,ZhX⟩) .is (Z5.agg (enc:=Zeo) (k:=(ofO (Nn t.ops i))) (.pagg .t) Z) (by intros;first | rfl | simp [Anc.v,upd])) r2 r1 (qf (o_extract .t Z) r1 qz (qf (Zfn 102 (Zhw _ _ _) .is .t .t) r3 r1 qZ))))))) kr kr kr Z Z Z (fun _ _ _ _ h=>.inr h) Wq fun a w F O=>?_
  obtain ⟨F,O⟩:=O.nM [12,11,10,7,4,3,2,1] Je
  try dsimp only [List.map,xD,xE,xT,xU,ldSF,Zo,rOp,rTx,ZR] at O
  obtain ⟨es2,he2⟩:∃ z,z=gSet (ofO (Nn t.ops i)) (IntKind.wrap .i64 (((gGet (ofO (Nn t.ops i)) es).getD 0)+1)) (gEns 0 (ofO (Nn t.ops i)) (es,ck)).1:=⟨_,rfl⟩
  obtain ⟨ck2,hc2⟩:∃ z,z=(gEns 0 (ofO (Nn t.ops i)) (es,ck)).2:=⟨_,rfl⟩
  rw [← he2,← hc2] at O
  have hvv:∀ u,(gGet u es2).getD 0=if u=(ofO (Nn t.ops i)) then ((gGet (ofO (Nn t.ops i)) es).getD 0)+1 else (gGet u es).getD 0:=fun u=>by rw [he2,Zig,hw1]
  have hmv:(gGet (ofO (Nn t.ops i)) es2).getD 0=((gGet (ofO (Nn t.ops i)) es).getD 0)+1:=by rw [hvv,Yg rfl]
  have hvs:=Zro hvi hvv
  refine Za (Ya (rZ O (qR rr (qe 3 104 r1 r1 (qf (ZaP (ek:=(fun n:Int=>PV.int .i64 n)) (z0:=(0)) 102 underlying210 Zpe kr (fun _ _=>⟨rfl,ZhX⟩) .is (Z5.agg (enc:=Zeo) (k:=(ofO (Nn t.ops i))) (.pagg .t) Z)) r2 r1 (qf (o_eql .t qi) r1 qz qZ)))) V [42,12,11,10,7,4,3,2,1] Je fun O=>?_))
  refine Zb O Z (fun hc2=>?_) (fun hc2=>?_)
  ·have hnm:(ofO (Nn t.ops i)) ∉ out:=Qr
   obtain ⟨out2,ho2⟩:∃ z,z=out ++ [(ofO (Nn t.ops i))]:=⟨_,rfl⟩
   have hR2:out2=ZcY t.id (t.ops.take (i+1))∧Ze2 es2 (i+1) out2:=⟨by rw [ho2,hst hil];unfold Zbe;rw [Yg ⟨hyes,by rw [← hou];exact hnm⟩,← hou],by have:=hvs;rw [Yb hnm] at this;rw [ho2];exact this⟩
   refine rS O (qR rr (qe 3 104 r1 r1 (qf (o_buildSliceE (sz:=3) (zs:=[.int .i64 0,.int .i64 0,.int .i64 0]) (r:=[(0,.tmp 44)]) (l:=[_,_,_]) Yb0 kr kr kr kr Z Z (.agg Z .t kr kr .nil) Z) r1 qz (qf (o_append (sz:=3) (bs:=24) 50 (.mk' Yb0 kr kr) Wt .is (.arr (l':=[_]) .t) WJ We) ⟨rfl,rfl,tv⟩ ⟨rfl,tv⟩ (qO rr qZ))))) V G3 J1 fun τ O=>?_
   have O:=Xi
   generalize τ 46=v46 at O
   rw [← ho2] at O
   refine Zf (Za (rZ O (qp r1 (qR rr qZ)) V G3 J1 fun O=>?_))
   replace O:=O.eI 12 i
   obtain ⟨F,O⟩:=O.nM Xa8 XaT
   exact ⟨((i+1),(es2),(ck2),_,(out2)),F,⟨ow,hR2⟩,O,ow⟩
  have hnm:(ofO (Nn t.ops i)) ∈ out:=Qr
  obtain ⟨out2,ho2⟩:∃ z,z=out:=⟨_,rfl⟩
  have hR2:out2=ZcY t.id (t.ops.take (i+1))∧Ze2 es2 (i+1) out2:=⟨by rw [ho2,hst hil];unfold Zbe;rw [Yb (by rw [← hou];simp [hnm])];exact hou,by have:=hvs;rw [Yg hnm] at this;rw [ho2];exact this⟩
  rw [← ho2] at O
  refine Yd (Zf (Za (rZ O (qp r1 (qR rr qZ)) V G3 J1 fun O=>?_)))
  replace O:=O.eI 12 i
  obtain ⟨F,O⟩:=O.nM Xa8 XaT
  exact ⟨((i+1),(es2),(ck2),_,(out2)),F,⟨ow,hR2⟩,O,ow⟩
 have hil:i=t.ops.length:=WI
 refine Ym (Ze (Ze (Zk (Za (Ya (rZ O (qR rr (qO rr qZ)) V [2] QM fun O=>Yh ?_))))))
 obtain ⟨F,O⟩:=O.give 50 2 Z rfl
 refine Zx hfr O Z Z Z (.sl (by rw [hou,hil,Yy];rfl))
theorem Ziz (t:TxD) (hl:t.ops.length≤1000000):FnP prog 198 [.agg (rTx t)] (.sl ZR (ZaC t)):=by
 refine FnP.mk func198 Z ntmps198 Z fun B a w F V hfr O=>Ya ?_
 refine rS O (qx 101 r1 (qC qZ)) V J5 QK fun τ O=>?_
 have O:=XV
 generalize τ 1=v1 at O
 refine Za (Ya (rZ O (qC qZ) V Gh QK fun O=>(Ya (Ya ?_))))
 refine rZ O (qg 2 101 r1 r1 (qa 101 r1 r1 (qu YbU r1 (qJ qZ)))) V D5 QK fun O=>Ye ?_
 replace O:=O.fresh 50 rfl
 replace O:=O.turn 50 Z (Zas (T:=146) (sz:=3) (R:=ZR))
 refine Zh (σ:=(Nat)×(Value)×(List ZcM)) [1,2,8,9] [0,101] (fun s=>[(10,.pv (.int .i64 (s.1:Int))),(3,.pv (.is s.2.1))]) (fun s=>[(50,.ob (.val s.2.1) (ZM 146 3 ZR s.2.2))]) (fun s=>s.1≤t.ops.length∧(s.2.2=ZcY t.id (t.ops.take s.1))) (fun s=>t.ops.length - s.1) ((0),(.slice none 0 0),([])) O ⟨rfl,rfl,rfl,rfl,rfl,rfl,tv⟩ ⟨rfl,rfl,rfl,tv⟩ ⟨Yo _,rfl⟩ ?_
 clear O;intro s a w F hC O
 obtain ⟨i,v,out⟩:=s
 have hC:=X3
 obtain ⟨F,O⟩:=O.nM D5 QQ
 have O:=X2
 obtain ⟨hi,hq⟩:=hC
 have hol:out.length≤i:=by rw [hq];exact Zd1 _ _ _
 have hst:=fun hil:i<t.ops.length=>ZgT (id:=t.id) hil
 refine Ya (rZ O (qL r2) V [11,10,9,8,3,2,1] QQ fun O=>Ya ?_)
 refine Zb O Z (fun hc0=>?_) (fun hc0=>?_)
 ·have hil:i<t.ops.length:=WI
  refine Yd (Za (Ya (Ye (Ya (rS O (qy 4 YbU r2 (qf (oR true 4 .t) r1 qz (qf (oH [.bool false,.int .i64 0,.int .i64 0,.int .i64 0] 102) trivial qz (qS 4 102 r2 r1 qZ)))) V [10,9,8,5,3,2,1] QM fun τ O=>?_)))))
  have O:=Xi
  generalize τ 5=v5 at O
  try simp only [Yf] at O
  refine Za (Ya (rS O (qe 4 102 r1 r1 (qf (oP (Zpp (Nn t.ops i)) func253 (Args.one (.pagg .t))) r1 qz (qf (oH [.int .i64 0,.int .i64 0,.int .i64 0] 103) trivial qz (qf (oA 3 103 .same (.conv .t .agg)) r2 r1 qZ)))) V [10,9,8,6,5,3,2,1] J1 fun τ O=>?_))
  have O:=Xi
  generalize τ 6=v6 at O
  refine Za (Ya (rZ O (qg 0 102 r1 r1 (qa 102 r1 r1 (qR rr (qv 2 102 Z r2 r1 (qw 102 Z r2 r1 (qk Z (fun h=>o_neq (.w h) qi) r2 qz (qf (ZF .t .t) r2 qz (qR rr (qv 2 102 Z r2 r1 (qw 102 Z r2 r1 (qv 0 101 Z r2 r1 (qw 101 Z r2 r1 (qk Z (fun h=>o_neq (.w h) (.w h)) r3 qz (qf (ZF .t .t) r2 qz (qR rr (qm Z Z Z Z (qk Z (fun h=>oL true 3 103 .is) r2 r1 (qk Z (fun h=>OpC.lendRow 50 [31] (oP (Zr7 out (ofO (Nn t.ops i))) func254 (Args.two (.w h) (.pagg (.w h)))) ⟨rfl,tv,tv⟩ (.pv (fun _ _ _ _ h=>h)) trivial Wd) r3 r1 (qk Z (fun h=>ZW (.w h)) r2 qz (qf (ZF .t .t) r2 qz qZ)))))))))))))))))))) V [35,10,9,8,6,3,2,1] J1 fun O=>?_))
  refine Zb O Z (fun hc1=>?_) (fun hc1=>?_)
  ·have hBq:(Zh2 t.id (Nn t.ops i)=true∧(ofO (Nn t.ops i)) ∉ ZcY t.id (t.ops.take i)):=by rw [← hq];unfold Zh2;simpa [YbO] using hc1
   refine rS O (qR rr (qe 3 103 r1 r1 (qf (o_buildSliceE (sz:=3) (zs:=[.int .i64 0,.int .i64 0,.int .i64 0]) (r:=[(0,.tmp 37)]) (l:=[_,_,_]) Yb0 kr kr kr kr Z Z (.agg Z .t kr kr .nil) Z) r1 qz (qf (o_append (sz:=3) (bs:=24) 50 (.mk' Yb0 kr kr) Wt .is (.arr (l':=[_]) .t) WJ We) ⟨rfl,rfl,tv⟩ ⟨rfl,tv⟩ (qO rr qZ))))) V D5 J1 fun τ O=>?_
   have O:=Xi
   generalize τ 39=v39 at O
   refine Zf (Za (rZ O (qp r1 (qR rr qZ)) V D5 J1 fun O=>?_))
   replace O:=O.eI 10 i
   obtain ⟨F,O⟩:=O.nM [9,8,2,1,3,10] J9
   exact ⟨((i+1),_,_),F,⟨ow,WR⟩,O,ow⟩
  have hBq:¬ (Zh2 t.id (Nn t.ops i)=true∧(ofO (Nn t.ops i)) ∉ ZcY t.id (t.ops.take i)):=by rw [← hq];unfold Zh2;intro h9;have h8:=hc1;simp at h8 h9;simp [h9] at h8
  refine Yd (Zf (Za (rZ O (qp r1 (qR rr qZ)) V D5 J1 fun O=>?_)))
  replace O:=O.eI 10 i
  obtain ⟨F,O⟩:=O.nM [9,8,2,1,3,10] J9
  exact ⟨((i+1),_,_),F,⟨ow,WR⟩,O,ow⟩
 have hil:i=t.ops.length:=WI
 refine Ym (Ze (Ze (Zk (Za (Ya (rZ O (qR rr (qO rr qZ)) V [2] QQ fun O=>Yh ?_))))))
 obtain ⟨F,O⟩:=O.give 50 2 Z rfl
 refine Zx hfr O Z Z Z (.sl (by rw [hq,hil,Yy];rfl))
theorem ZpX (x y:List Int):FnP prog 93 [.sl Zo x,.sl Zo y] (.bool (decide (x=y))):=by
 refine FnP.mk func93 Z ntmps93 Z fun B a w F V hfr O=>?_
 have hxl:=Sat.lenSl O (i:=0) rfl
 refine Ya (rZ O qB V J0 [0] fun O=>(Ya (Ya ?_)))
 refine rZ O (qR rr (qu YbT r1 (qR rr (qu YbT r1 (qf (o_neq .t .t) r2 qz qZ))))) V XaU [0] fun O=>?_
 refine Zb O Z (fun hc0=>?_) (fun hc0=>?_)
 ·have hg:false=decide (x=y):=by
    rw [Y8,Yi]
    intro h
    subst h
    simp at hc0
  refine Ya (rZ O qB V J0 [0] fun O=>(Yh (Zd ?_)))
  refine Zx hfr O Z Z Z (.bool hg)
 have hl:x.length=y.length:=WI
 refine Yd (Za (Ya (Ya (rZ O (qR rr (qu YbT r1 (qJ qZ))) V G5 [0] fun O=>Ye ?_))))
 obtain ⟨F,O⟩:=O.nM JH [0]
 refine ZbL (σ:=Nat) (fun s=>(⟨[(0,.pv (.sl Zo x)),(1,.pv (.sl Zo y)),(12,.pv (.int .i64 x.length)),(13,.pv (.int .i64 s))],[(0,frame B)]⟩:En)) (fun s=>s≤x.length ∧ ∀ j,j<s→Nn x j=Nn y j) (fun s=>x.length - s) 0 O ⟨Yo _,fun j hj=>absurd hj (YI j)⟩ ?_
 clear O;intro i a w F hC O
 have hC:=X3
 have O:=X2
 obtain ⟨hi,hq⟩:=hC
 refine Ya (rZ O (qL r2) V DV [0] fun O=>Ya ?_)
 refine Zb O Z (fun hc1=>?_) (fun hc1=>?_)
 ·have hil:i<x.length:=WH
  refine Yd (Za (Ya (Ye (Ya (rZ O (qR rr (qO rr qZ)) V Xad [0] fun O=>Ya ?_)))))
  refine Zr O (qR rr (qR rr (qy 1 YbT r2 (qf (oR false 1 .t) r1 qz (qR rr (qR rr (qy 1 YbT r2 (qf (oR false 1 .t) r1 qz (qf (o_neq .t .t) r2 qz qZ))))))))) V DW [0] Z Z fun a w F O=>?_
  have O:=XB
  refine Za (Zb O Z (fun hc2=>?_) (fun hc2=>?_))
  ·have hg:false=decide (x=y):=by
     rw [Y8,Yi]
     intro h
     subst h
     simp at hc2
   refine Ya (rZ O qB V G5 [0] fun O=>(Yh (Zl (Zd (Zd (Zl (Zd ?_)))))))
   refine Zx hfr O Z Z Z (.bool hg)
  rw [Yf] at hc2
  have hqi:Nn x i=Nn y i:=WD
  refine Yd (Zf (Za (rZ O (qp r1 (qR rr qZ)) V JH [0] fun O=>?_)))
  replace O:=O.eI 13 i
  obtain ⟨F,O⟩:=O.nM JH [0]
  exact ⟨i+1,F,⟨ow,fun j hj=>by rcases Yw (YC hj) with h | h;exact hq j h;rw [h];exact hqi⟩,O,ow⟩
 have hg:true=decide (x=y):=by
   rw [Y8,Yj]
   exact ZaX hl fun j hj=>hq j WH
 refine Ym (Ze (Ze (Zk (Za (Ya (rZ O qB V [4] [0] fun O=>Yh ?_))))))
 refine Zx hfr O Z Z Z (.bool hg)
theorem Ztk (x y:List Int):FnP prog 143 [.sl Zo x,.sl Zo y] (.bool (decide (x=y))):=by
 refine FnP.mk func143 Z ntmps143 Z fun B a w F V hfr O=>Ya ?_
 refine rZ O qB V J0 [0] fun O=>Ya ?_
 refine rZ O (qR rr (qR rr (qf (oP (ZpX x y) func93 (Args.two .t .t)) r2 qz (qO rr qZ)))) V [4] [0] fun O=>Yh ?_
 refine Zx hfr O Z Z Z .refl
theorem Zuk (x y:List Int) (hx:x.length≤1000000) (hy:y.length≤1000000):FnP prog 37 [.sl Zo x,.sl Zo y] (.bool (decide (x.Perm y))):=by
 refine FnP.mk func37 Z ntmps37 Z fun B a w F V hfr O=>Ya ?_
 refine rZ O qB V J0 [0] fun O=>Ya ?_
 replace O:=O.fresh 101 rfl
 replace O:=O.fresh 102 rfl
 refine rS O (qR rr (qf (Zdq 101 (Zmf x hx) func91 Z kr (Args.one .t) Zf1) r1 r1 (qR rr (qf (Zdq 102 (Zmf y hy) func91 Z kr (Args.one .t) Zf1) r1 r1 (qO rr (qO rr qZ)))))) V Xas QI fun τ O=>?_
 have O:=XN
 generalize τ 8=v8,τ 10=v10 at O
 refine Za (Ya (rZ O (qR rr (qf (ZY 101 (Zmv _ x hx) func92 Z kr (Args.one .t)) r1 r1 qZ)) V Xas QI fun O=>Ya ?_))
 refine rZ O (qR rr (qf (ZY 102 (Zmv _ y hy) func92 Z kr (Args.one .t)) r1 r1 qZ)) V Xas QI fun O=>Ya ?_
 refine rZ O (qR rr (qR rr (qf (OpC.lendRow 102 [16] (OpC.lendRow 101 [15] (oP (ZpX _ _) func93 (Args.two .t .t)) ⟨rfl,tv,tv⟩ (.pv (fun _ _ _ _ h=>h)) trivial Wd) ⟨tv,rfl,tv⟩ (.pv (fun _ _ _ _ h=>h)) trivial Wd) r2 r2 (qO rr qZ)))) V [4] QI fun O=>Yh ?_
 refine Zx hfr O Z Z Z (.bool (by rw [decide_eq_decide];exact Zqu))
theorem ZsQ {u v:OrdD} : (decide (u.key=v.key) && decide (u.txs=v.txs))=decide (u=v):=by
 cases u;cases v
 rw [Yaa]
 simp
def zeroT:TxD:=⟨0,false,[]⟩
def Za3 (l:List TxD):Prop:=l.length≤1000 ∧ ∀ t ∈ l,t.ops.length≤1000
def ZbS (l:List OrdD):Prop:=l.length≤1000 ∧ ∀ o ∈ l,o.txs.length≤1000
def Za8 (h:Zw):Prop:=Za3 h.txs∧ZbS h.orders
theorem Za3.at {l:List TxD} (h:Za3 l) {i:Nat} (hi:i<l.length):(Nn l i).ops.length≤1000:=h.2 _ (ZP hi)
theorem ZbS.at {l:List OrdD} (h:ZbS l) {i:Nat} (hi:i<l.length):(Nn l i).txs.length≤1000:=h.2 _ (ZP hi)
def ZaV (l:List TxD) (id:Int):Option TxD:=l.find? fun t=>decide (t.id=id)
theorem Zm6 {l:List TxD} {id:Int} {i:Nat} (hi:i<l.length) (h:(Nn l i).id=id) (hq:∀ k,k<i→(Nn l k).id≠id):ZaV l id=some (Nn l i):=by
 unfold ZaV
 rw [Ya6]
 refine ⟨by simpa using h,i,hi,(Zu hi).symm,fun j hj=>?_⟩
 have:=hq j hj
 rw [Zu ow] at this
 simpa using this
theorem Zh4 {l:List TxD} {id:Int} (hq:∀ k,k<l.length→(Nn l k).id≠id):ZaV l id=none:=by
 unfold ZaV
 rw [YaV]
 intro x hx
 obtain ⟨k,hk,e⟩:=YL hx
 have:=hq k hk
 rw [Zu hk,e] at this
 simpa using this
theorem findT_mem {l:List TxD} {id:Int} {t:TxD} (h:ZaV l id=some t):t ∈ l∧t.id=id:=⟨List.mem_of_find?_eq_some h,by have:=List.find?_some h;simpa using this⟩
def Zgx (h:Zw) (v:ZcM):Bool:=if v.tx=0∧v.nth=0 then decide (1≤v.key∧v.key≤1048575) else (ZaV h.txs v.tx).isSome && (decide (1≤v.nth) && decide (v.nth≤(wcnt ((ZaV h.txs v.tx).getD zeroT).ops v.key:Int)))
def Zbb (h:Zw) (t:TxD):Bool:=(ZaC t).all (Zgx h)
theorem ZlR {h:Zw} {t:TxD} (hq:∀ k,k<(ZaC t).length→Zgx h (Nn (ZaC t) k)=true):Zbb h t=true:=by
 unfold Zbb
 rw [Yam]
 intro x hx
 obtain ⟨k,hk,e⟩:=YL hx
 have:=hq k hk
 rwa [Zu hk,e] at this
theorem ZkO {h:Zw} {t:TxD} {i:Nat} (hi:i<(ZaC t).length) (hn:Zgx h (Nn (ZaC t) i)=false):Zbb h t=false:=by
 unfold Zbb
 rw [Ybx]
 exact ⟨_,ZP hi,by simp [hn]⟩
def Zai (t:TxD):List Int:=ZbE ((t.ops.filter fun o=>!o.read).map OpD.key)
theorem Zc9 {t:TxD} {k:Int} : k ∈ Zai t ↔ 0<wcnt t.ops k:=by
 unfold Zai
 rw [(Zbl _).2,YG]
 unfold wcnt
 rw [List.length_pos_iff_exists_mem]
 constructor
 ·rintro ⟨o,ho,e⟩
  rw [YV] at ho
  exact ⟨o,by rw [YV];exact ⟨ho.1,by simp [e];simpa using ho.2⟩⟩
 ·rintro ⟨o,ho⟩
  rw [YV] at ho
  simp at ho
  exact ⟨o,by rw [YV];simp [ho.1,ho.2.1],ho.2.2⟩
theorem ZdD (t:TxD):(Zai t).length≤t.ops.length:=YT (Zfr _) (by rw [YO];exact YJ _ _)
def Zac (l:List TxD) (k:Int):List Int:=(l.filter fun t=>t.done && decide (0<wcnt t.ops k)).map TxD.id
theorem ZcN (l:List TxD) (k:Int):(Zac l k).length≤l.length:=by unfold Zac;rw [YO];exact YJ _ _
theorem Zcq {l:List TxD} {i:Nat} (hi:i<l.length) (k:Int):Zac (l.take (i+1)) k=Zac (l.take i) k++if (Nn l i).done=true∧0<wcnt (Nn l i).ops k then [(Nn l i).id] else []:=by
 unfold Zac
 rw [ZN hi,Y5,YZ]
 congr 1
 by_cases h:(Nn l i).done=true∧0<wcnt (Nn l i).ops k
 ·rw [Yg h,Yac (by simp [h.1,h.2])];rfl
 ·rw [Yb h,Yad (by simp;intro e;exact Nat.eq_zero_of_not_pos fun e2=>h ⟨e,e2⟩)];rfl
def Za4 (l:List TxD):List Int:=ZbE ((l.filter fun t=>t.done).flatMap Zai)
theorem Zis {l:List TxD} {i:Nat} (hi:i<l.length):Za4 (l.take (i+1))=if (Nn l i).done=true then (Zai (Nn l i)).foldl Zdv (Za4 (l.take i)) else Za4 (l.take i):=by
 unfold Za4
 rw [ZN hi,Y5,Ya9]
 split
 ·rename_i h
  rw [Yac W4]
  unfold ZbE
  rw [YaC]
  simp
 ·rename_i h
  rw [Yad W4]
  simp
theorem Zms {l:List TxD} (h:Za3 l) (i:Nat):(Za4 (l.take i)).length≤1000*i:=by
 unfold Za4
 refine YT (Zfr _) ?_
 have key:∀ l:List TxD,(∀ t ∈ l,t.ops.length≤1000)→((l.filter fun t=>t.done).flatMap Zai).length≤1000*l.length:=by
  intro l
  induction l with
  | nil=>intro _;simp
  | cons t l ih=>
   intro h
   have h1:=ih fun x hx=>h x W7
   have h2:=h t W5
   have h3:=ZdD t
   by_cases hd:t.done=true
   ·rw [Yac (by simpa using hd),YaI,Yc,Yl]
    omega
   ·rw [Yad (by simpa using hd),Yl]
    omega
 have h1:=key (l.take i) fun t ht=>h.2 t (Yax ht)
 have h2:(l.take i).length≤i:=WF
 exact YT h1 (Nat.mul_le_mul_left _ h2)
theorem Zkh {l:List TxD} (h:Za3 l):(Za4 l).length≤1000000:=by
 have h1:=Zms h l.length
 rw [Yy] at h1
 have:=h.1
 omega
theorem ZeW (a:List Int):∀ b:List Int,(b.foldl Zdv a).length≤a.length+b.length:=by
 intro b
 induction b generalizing a with
 | nil=>simp
 | cons x b ih=>
  have h1:=ih (Zdv a x)
  have h2:(Zdv a x).length≤a.length+1:=Ze9 a false
  rw [Yas,Yl];omega
theorem ZdK {l:List TxD} {k:Int} : k ∈ Za4 l ↔ Zac l k≠[]:=by
 unfold Za4
 rw [(Zbl _).2,List.mem_flatMap]
 unfold Zac
 rw [ne_eq,List.map_eq_nil_iff,List.filter_eq_nil_iff]
 constructor
 ·rintro ⟨t,ht,hk⟩ hn
  rw [YV] at ht
  have:=hn t ht.1
  simp [ht.2] at this
  have:=Zc9.1 hk
  simp_all
 ·intro hn
  simp only [Classical.not_forall] at hn
  obtain ⟨t,ht,h2⟩:=hn
  simp at h2
  exact ⟨t,by rw [YV];exact ⟨ht,by simpa using h2.1⟩,Zc9.2 (Nat.pos_of_ne_zero h2.2)⟩
def ZmD (h:Zw) (i:Nat):Prop:=(0<i→(Nn h.txs (i - 1)).id<(Nn h.txs i).id)∧Zag (Nn h.txs i)=0∧Zbb h (Nn h.txs i)=true
instance (h:Zw) (i:Nat):Decidable (ZmD h i):=by unfold ZmD;exact inferInstance
def ZiT (h:Zw) (i:Nat):Prop:=(Nn h.orders i).key=Nn (Za4 h.txs) i∧(Nn h.orders i).txs.Perm (Zac h.txs (Nn h.orders i).key)
instance (h:Zw) (i:Nat):Decidable (ZiT h i):=by unfold ZiT;exact inferInstance
def ZG (h:Zw):Prop:=h.txs.length≤4096∧(∀ i,i<h.txs.length→ZmD h i)∧h.orders.length=(Za4 h.txs).length ∧ ∀ i,i<h.orders.length→ZiT h i
instance (h:Zw):Decidable (ZG h):=by unfold ZG;exact inferInstance
def ZhB (h:Zw) (i:Nat):Prop:=(0<i→(Nn h.orders (i - 1)).key<(Nn h.orders i).key)∧(Nn h.orders i).txs≠[]∧(Nn h.orders i).txs.Perm (Zac h.txs (Nn h.orders i).key)
theorem Zi4:∀ {l:List Int},(∀ i,i<l.length→0<i→Nn l (i - 1)<Nn l i)→ZjS l
 | [],_=>List.Pairwise.nil
 | [x],_=>by simp
 | x :: y :: l,h=>by
  have ih:=Zi4 (l:=y :: l) fun i hi h0=>by
   have:=h (i+1) W8 ow
   obtain ⟨j,rfl⟩:∃ j,i=j+1:=⟨i - 1,ow⟩
   have hj:j<l.length:=W8
   rw [Zu (l:=x :: y :: l) Wb,Zu (l:=x :: y :: l) Wb] at this
   rw [Zu (l:=y :: l) Wb,Zu (l:=y :: l) Wb]
   exact this
  have h1:=h 1 W5 ow
  rw [Zu W5,Zu W5] at h1
  simp at h1
  have ih2:=YB.1 ih
  refine YB.2 ⟨fun z hz=>?_,ih⟩
  rcases Yp.1 hz with rfl | hz
  ·exact h1
  ·have:=ih2.1 z hz;omega
theorem ZsH {l:List Int} (h:ZjS l) {i:Nat} (hi:i<l.length) (h0:0<i):Nn l (i - 1)<Nn l i:=by
 rw [Zu hi,Zu ow]
 exact Y9.1 h (i - 1) i ow hi ow
theorem Zl4:∀ {b a:List Int},ZjS a→ZjS b→(∀ x ∈ a,x ∈ b)→a.length≤b.length∧(a.length=b.length→a=b)
 | [],a,_,_,h=>by
  have:a = []:=List.eq_nil_iff_forall_not_mem.2 fun x hx=>by cases h x hx
  subst this;simp
 | y :: b,[],_,_,_=>⟨by simp,fun h=>by simp at h⟩
 | y :: b,x :: a,ha,hb,h=>by
  have ha':=YB.1 ha
  have hb':=YB.1 hb
  by_cases e:x=y
  ·subst e
   have ih:=Zl4 (b:=b) (a:=a) ha'.2 hb'.2 fun z hz=>by
    rcases Yp.1 (h z WK) with e | e
    ·have:=ha'.1 z hz;omega
    ·exact e
   exact ⟨by simp;exact ih.1,fun hl=>by rw [ih.2 (by simpa using hl)]⟩
  ·have hx:y<x:=by
    rcases Yp.1 (h x W5) with e2 | e2
    ·exact absurd e2 e
    ·exact hb'.1 x e2
   have ih:=Zl4 (b:=b) (a:=x :: a) ha hb'.2 fun z hz=>by
    rcases Yp.1 (h z hz) with e2 | e2
    ·rcases Yp.1 hz with e3 | e3
     ·omega
     ·have:=ha'.1 z e3;omega
    ·exact e2
   exact ⟨by have:=ih.1;simp at this ⊢;omega,fun hl=>by have:=ih.1;simp at this hl;omega⟩
theorem ZdB {α β:Type} [Inhabited α] [Inhabited β] {f:α→β} {l:List α} {i:Nat} (h:i<l.length):Nn (l.map f) i=f (Nn l i):=by
 rw [Zu W4,Zu h];simp
theorem Zdk (h:Zw):(h.orders.length=(Za4 h.txs).length ∧ ∀ i,i<h.orders.length→ZhB h i) ↔ (h.orders.length=(Za4 h.txs).length ∧ ∀ i,i<h.orders.length→ZiT h i):=by
 have hK:ZjS (Za4 h.txs):=(Zbl _).1
 constructor
 ·rintro ⟨hl,hq⟩
  refine ⟨hl,?_⟩
  have hO:ZjS (h.orders.map OrdD.key):=Zi4 fun i hi h0=>by
   have hi':i<h.orders.length:=W8
   rw [ZdB ow,ZdB hi']
   exact (hq i hi').1 h0
  have hsub:∀ x ∈ h.orders.map OrdD.key,x ∈ Za4 h.txs:=fun x hx=>by
   obtain ⟨o,ho,rfl⟩:=YG.1 hx
   obtain ⟨k,hk,e⟩:=YL ho
   have:=hq k hk
   unfold ZhB at this
   rw [Zu hk,e] at this
   rw [ZdK]
   intro e2
   rw [e2] at this
   exact this.2.1 (List.Perm.eq_nil this.2.2)
  have he:=(Zl4 hO hK hsub).2 (by simpa using hl)
  intro i hi
  refine ⟨?_,(hq i hi).2.2⟩
  rw [← he,ZdB hi]
 ·rintro ⟨hl,hq⟩
  refine ⟨hl,fun i hi=>?_⟩
  have hin:(Nn h.orders i).key ∈ Za4 h.txs:=by rw [(hq i hi).1];exact ZP ow
  refine ⟨fun h0=>?_,fun e=>?_,(hq i hi).2⟩
  ·rw [(hq i hi).1,(hq (i - 1) ow).1]
   exact ZsH hK ow h0
  ·have:=(hq i hi).2
   rw [e] at this
   exact ZdK.1 hin this.symm.eq_nil
theorem Zep {h:Zw} (hb:4096<h.txs.length):false=decide (ZG h):=(Yq fun hr=>by have:=hr.1;omega).symm
theorem Zgd {h:Zw} {i:Nat} (hi:i<h.txs.length) (hb:¬ ZmD h i):false=decide (ZG h):=(Yq fun hr=>hb (hr.2.1 i hi)).symm
theorem ZeK {h:Zw} (hb:h.orders.length≠(Za4 h.txs).length):false=decide (ZG h):=(Yq fun hr=>hb hr.2.2.1).symm
theorem ZjI {h:Zw} {i:Nat} (hi:i<h.orders.length) (hb:¬ ZiT h i):false=decide (ZG h):=(Yq fun hr=>hb (hr.2.2.2 i hi)).symm
theorem ZhZ {h:Zw} {i:Nat} (hi:i<h.orders.length) (hb:¬ ZhB h i):false=decide (ZG h):=(Yq fun hr=>hb (((Zdk h).2 hr.2.2).2 i hi)).symm
theorem Zof {h:Zw} (h1:h.txs.length≤4096) (h2:∀ i,i<h.txs.length→ZmD h i) (h3:h.orders.length=(Za4 h.txs).length) (h4:∀ i,i<h.orders.length→ZiT h i):true=decide (ZG h):=(YA ⟨h1,h2,h3,h4⟩).symm
theorem Zln {h:Zw} (h1:h.txs.length≤4096) (h2:∀ i,i<h.txs.length→ZmD h i) (h3:h.orders.length=(Za4 h.txs).length) (h4:∀ i,i<h.orders.length→ZhB h i):true=decide (ZG h):=(YA ⟨h1,h2,(Zdk h).1 ⟨h3,h4⟩⟩).symm
def ZsV (l:List Int):Option (List Int):=if l = [] then none else some l
theorem Zmb (l:List Int):(ZsV l).getD [] = l:=by
 unfold ZsV
 split
 ·rename_i h;rw [h];rfl
 ·rfl
def WrL (es:List (GE Int (List Int))) (l:List TxD):Prop:=GNd es ∧ ∀ k,gGet k es=ZsV (Zac l k)
def WrV (es:List (GE Int (Value×List Int))) (l:List TxD) (id:Int) (ks:List Int):Prop:=GNd es ∧ ∀ k,(gGet k es).map (·.2)=ZsV (Zac l k++if k ∈ ks then [id] else [])
theorem Ztw {id:Int} : WrV [] [] id []:=⟨by simp [GNd],fun k=>by simp [gGet,Zac,ZsV]⟩
theorem ZrZ {es:List (GE Int (Value×List Int))} {l:List TxD} {id:Int} (h:WrV es l id []):WrL (Zf5 es) l:=⟨by unfold GNd;rw [Zlw];exact h.1,fun k=>by rw [ZiA,h.2];simp⟩
theorem Zra {es:List (GE Int (Value×List Int))} {l:List TxD} {id id':Int} (h:WrV es l id []):WrV es l id' []:=⟨h.1,fun k=>by rw [h.2];simp⟩
theorem Ztp {es:List (GE Int (Value×List Int))} {l:List TxD} {i:Nat} {id:Int} (h:WrV es (l.take i) id []) (hi:i<l.length) (hd:(Nn l i).done=false):WrV es (l.take (i+1)) id []:=⟨h.1,fun k=>by rw [h.2,Zcq hi];simp [hd]⟩
theorem Ztg {es:List (GE Int (Value×List Int))} {l:List TxD} {i:Nat} {id:Int} (h:WrV es (l.take i) (Nn l i).id (Zai (Nn l i))) (hi:i<l.length) (hd:(Nn l i).done=true):WrV es (l.take (i+1)) id []:=⟨h.1,fun k=>by
 rw [h.2,Zcq hi]
 congr 1
 simp only [YaF,Yu,YF]
 congr 1
 by_cases hk:k ∈ Zai (Nn l i)
 ·rw [Yg hk,Yg ⟨hd,Zc9.1 hk⟩]
 ·rw [Yb hk,Yb fun h9=>hk (Zc9.2 h9.2)]⟩
theorem Zso {es:List (GE Int (Value×List Int))} {l:List TxD} {id:Int} {ks:List Int} {j:Nat} (h:WrV es l id (ks.take j)) (hn:ks.Nodup) (hj:j<ks.length):((gGet (Nn ks j) es).getD ZiN).2=Zac l (Nn ks j):=by
 have h1:=h.2 (Nn ks j)
 have hni:Nn ks j ∉ ks.take j:=fun hm=>by
  rw [Zu hj] at hm
  obtain ⟨k,hk,e⟩:=YL hm
  rw [Yk] at hk
  rw [Ybi] at e
  have h3:=Y9.1 hn k j ow hj ow
  exact h3 e
 rw [Yb hni,YF] at h1
 have h2:=Zmb (Zac l (Nn ks j))
 rw [← h1] at h2
 rw [← h2]
 cases gGet (Nn ks j) es <;> rfl
theorem ZsT {es:List (GE Int (Value×List Int))} {l:List TxD} {id:Int} {ks:List Int} {j ck:Nat} {v:Value} (h:WrV es l id (ks.take j)) (hn:ks.Nodup) (hj:j<ks.length):WrV (gPut (Nn ks j) (v,((gGet (Nn ks j) es).getD ZiN).2 ++ [id]) (es,ck)).1 l id (ks.take (j+1)):=⟨GNd.put h.1,fun k=>by
 rw [Zfh,Zso h hn hj,ZN hj]
 by_cases e:k=Nn ks j
 ·subst e
  rw [Yg rfl,Yg W5]
  simp [ZsV]
 ·rw [Yb e,h.2]
  simp [e]⟩
theorem Zuh {es:List (GE Int (List Int))} {l:List TxD} (h:WrL es l) (k:Int):(gGet k es).getD [] = Zac l k:=by rw [h.2,Zmb]
theorem Zur {es:List (GE Int (List Int))} {l:List TxD} (h:WrL es l):es.length=(Za4 l).length:=by
 have h1:(es.map (·.key)).Perm (Za4 l):=by
  refine (List.perm_ext_iff_of_nodup h.1 ((Zbl _).1.imp fun h=>Int.ne_of_lt h)).2 fun k=>?_
  rw [← Zdp,h.2,show (k ∈ ZbE ((l.filter fun t=>t.done).flatMap Zai)) ↔ Zac l k≠[] from ZdK]
  unfold ZsV
  split <;> simp_all
 simpa using h1.length_eq
theorem ZgN (t:TxD):(Zai t).Nodup:=(Zbl _).1.imp fun h=>Int.ne_of_lt h
theorem ZtI {α:Type} {R:α→List PV} {w:World} {y:Ys} : (PV.sl R ([]:List α)).p (.slice none 0 0) w y:=⟨none,0,rfl,YE _,by unfold maxLen;omega,.inl rfl⟩
def Zdx (x y:Int):Int:=if x<y then -1 else if y<x then 1 else 0
theorem Zbi {x y:Int} : Zdx x y<0 ↔ x<y:=by unfold Zdx;split <;> (try split) <;> omega
theorem ZuK {x:Int} (h:0≤x∧x≤18446744073709551615):IntKind.wrap .u64 x=x:=Zi2 ⟨by simp [IntKind.min,IntKind.signed,IntKind.bits];omega,by simp [IntKind.max,IntKind.signed,IntKind.bits];omega⟩
theorem ZdA {i j:Nat} (h:i+j≤2000000):IntKind.wrap .i64 ((IntKind.wrap .u64 (IntKind.wrap .i64 ((i:Int)+(j:Int)))).fdiv (2 ^ min (1:Int).toNat (IntKind.bits .u64)))=(((i+j) / 2:Nat):Int):=by
 rw [Zj (x:=(i:Int)+(j:Int)) ow,ZuK ow,show (2:Int) ^ min (1:Int).toNat (IntKind.bits .u64)=2 by decide,Int.fdiv_eq_ediv_of_nonneg _ We,Zj ow]
 omega
def ZeH {α:Type} [Inhabited α] (κ:α→Int) (l:List α):Prop:=∀ a b,a<b→b<l.length→κ (Nn l a)<κ (Nn l b)
def lowK {α:Type} (κ:α→Int) (k:Int) (l:List α):Nat:=(l.takeWhile fun x=>decide (κ x<k)).length
def isK {α:Type} (κ:α→Int) (k:Int) (l:List α):Bool:=l.any fun x=>decide (κ x=k)
theorem Zpd {α:Type} [Inhabited α] {κ:α→Int} {k:Int} : ∀ {l:List α} {i:Nat},i≤l.length→(∀ q,q<i→κ (Nn l q)<k)→(∀ q,i≤q→q<l.length→k≤κ (Nn l q))→lowK κ k l=i
 | [],i,hi,_,_=>by simp at hi;subst hi;rfl
 | x :: l,0,_,_,h2=>by
  have:=h2 0 (YE _) W5
  rw [Zu W5] at this
  unfold lowK
  rw [List.takeWhile_cons_of_neg (by simpa using this)];rfl
 | x :: l,i+1,hi,h1,h2=>by
  have hx:=h1 0 ow
  rw [Zu W5] at hx
  have ih:=Zpd (κ:=κ) (k:=k) (l:=l) (i:=i) W8 (fun q hq=>by
   have:=h1 (q+1) ow
   rw [Zu (by simp at hi ⊢;omega)] at this
   rw [Zu (by simp at hi;omega)];simpa using this) (fun q hq hq2=>by
   have:=h2 (q+1) ow Wb
   rw [Zu Wb] at this
   rw [Zu hq2];simpa using this)
  unfold lowK at ih ⊢
  rw [List.takeWhile_cons_of_pos Wl,Yl,ih]
theorem Zs5 {α:Type} [Inhabited α] {κ:α→Int} {l:List α} (hs:ZeH κ l) {a b:Nat} (h:a≤b) (hb:b<l.length):κ (Nn l a)≤κ (Nn l b):=by
 rcases Yw h with h | h
 ·exact Ybs (hs a b h hb)
 ·subst h;exact Yau _
theorem Zml (x:Int):FnP prog 175 [.int .i64 x] (.bool false):=by
 refine FnP.mk func175 Z ntmps175 Z fun B a w F V hfr O=>Ya ?_
 refine rZ O qB V Ju [0] fun O=>Ya ?_
 refine rZ O (qR rr (qR rr (qf (o_neq .t .t) r2 qz (qO rr qZ)))) V [2] [0] fun O=>Yh ?_
 refine Zx hfr O Z Z Z (.bool W5)
theorem Zsw (x y:Int):FnP prog 108 [.int .i64 x,.int .i64 y] (.int .i64 (Zdx x y)):=by
 refine FnP.mk func108 Z ntmps108 Z fun B a w F V hfr O=>Ya ?_
 refine rZ O (qI qZ) V J0 [0] fun O=>Ya ?_
 refine rZ O (qR rr (qf (oP (Zml x) func175 (Args.one .t)) r1 qz (qO rr qZ))) V J6 [0] fun O=>Ya ?_
 refine rZ O (qR rr (qf (oP (Zml y) func175 (Args.one .t)) r1 qz (qO rr qZ))) V Xa4 [0] fun O=>(Ya (Ya ?_))
 refine rZ O (qR rr qZ) V [11,6,4,1,0] [0] fun O=>?_
 refine Zb O Z (fun hc0=>?_) (fun hc0=>?_)
 ·simp at hc0
 refine Yd (Za (Ya (Ya (rZ O (qR rr qZ) V [13,4,1,0] [0] fun O=>?_))))
 refine Zb O Z (fun hc1=>?_) (fun hc1=>?_)
 ·simp at hc1
 refine Yd (Za (Ya (Ya (rZ O (qR rr (qR rr (qL r2))) V [16,4,1,0] [0] fun O=>?_))))
 refine Zb O Z (fun hc2=>?_) (fun hc2=>?_)
 ·have hg:(-1:Int)=Zdx x y:=by unfold Zdx;rw [Yg WD]
  refine Ya (rZ O (qI qZ) V J0 [0] fun O=>(Yh (Zd ?_)))
  refine Zx hfr O Z Z Z (.int hg)
 have h1:¬ x<y:=WD
 refine Yd (Za (Ya (Ya (rZ O (qR rr (qR rr (qf (o_gtr .t .t) r2 qz qZ))) V [19,4] [0] fun O=>?_))))
 refine Zb O Z (fun hc3=>?_) (fun hc3=>?_)
 ·have hg:(1:Int)=Zdx x y:=by unfold Zdx;rw [Yb h1,Yg WS]
  refine Ya (rZ O (qI qZ) V [4] [0] fun O=>(Yh (Zd ?_)))
  refine Zx hfr O Z Z Z (.int hg)
 have hg:(0:Int)=Zdx x y:=by unfold Zdx;rw [Yb h1,Yb WS]
 refine Yd (Za (Ya (rZ O (qI qZ) V [4] [0] fun O=>Yh ?_)))
 refine Zx hfr O Z Z Z (.int hg)
end Go.Proofs.YtfecljadegkmdaaGreat
