/- Laws and walks. No condition beyond what each says. -/
import Derived.Test.YtfecljadegkmdaaGreatJ0
namespace Go.Proofs.YtfecljadegkmdaaGreat
open Go Go.Gm Tryz
set_option linter.unusedVariables false
set_option linter.unusedSimpArgs false
set_option maxHeartbeats 4000000
set_option maxRecDepth 8000
def Zam (T:Nat) (v:Value) (o:Option Nat) (root why room:Int) (q:List Cell):HP:=.star [.pt (.val v) T [.pv (.is (arV o)),.pv (.int .i64 root),.pv (.int .i64 why)],RS.hp (arH o room q)]
def Zcu (q:List Cell) (l r x:Int):Cell:=⟨l,r,0,x,IntKind.wrap .i64 (IntKind.wrap .i64 ((getC q l).size+(getC q r).size)+1),IntKind.wrap .i64 (1+if (getC q l).high<(getC q r).high then (getC q r).high else (getC q l).high)⟩
theorem Zm1 (q:List Cell) (l r x:Int):Zcu q l r x=Za7 q l r ⟨0,x⟩:=by unfold Zcu Za7;rw [Int.add_comm 1 _]
theorem Zcs (c:Cell):FnP prog 247 [.agg (ZW c)] (.agg (Zx (ZD id c))):=by
 refine FnP.mk func247 Z ntmps247 Z fun B a w F V hfr O=>Ya ?_
 refine Zb O (qx 101 r1 (qf (oH [.int .i64 0,.int .i64 0] 102) trivial qz qZ)) V [2,1] [102,101,0] (fun _=>rfl) (fun _=>rfl) fun τ a w F O=>?_
 try dsimp only [RS.sub,SF.sub,CF.sub,csub,Anc.sub,List.map,zCF,ZW,Zx,ZD] at O
 generalize τ 1=v1,τ 2=v2 at O
 refine Za (Ya (rZ O (qg 2 101 r1 r1 (qa 101 r1 r1 (qg 3 101 r1 r1 (qa 101 r1 r1 (qf (oB [(0,.tmp 4),(1,.tmp 6)] [.int .i64 0,.int .i64 0] [(0,1),(1,1)] (.one Z .t one_int kr (.one Z .t one_int kr .nil))) r2 qz (qs 2 102 r2 r1 qZ)))))) V [2] [102,0] fun O=>Yi ?_))
 refine Za4 hfr O Z (.cl 102 true 2 Z Z .nil) (.one (.aggU Z Z))
theorem Za8 (b:Nat) (o:Option Nat) (root why room:Int) (q:List Cell) (l r:Int) (p:Zz):FnG prog 249 1 [.is (.pointer (some ⟨b,0,none⟩)),.int .i64 l,.int .i64 r,.agg (Zx p)] [Zam 242 (.pointer (some ⟨b,0,none⟩)) o root why room q] (.int .i64 (madeS room q why l r p).2.2) (fun _=>[Zam 242 (.pointer (some ⟨b,0,none⟩)) o root (madeS room q why l r p).2.1 room (madeS room q why l r p).1]):=by
 refine FnG.mk func249 Z ntmps249 Z kr fun B F0 a w F V hG O=>?_
 obtain ⟨F,O⟩:=O.peel 1 4 Z rfl
 obtain ⟨F,O⟩:=O.peel 1 5 Z rfl
 obtain ⟨F,O⟩:=O.nM [3,2,1,0] [5,4,0]
 refine Ya (Zb O (qx 101 r1 (qI qZ)) V [8,7,2,1,0] [101,5,4,0] (fun _=>rfl) (fun _=>rfl) fun τ a w F O=>?_)
 try dsimp only [RS.sub,SF.sub,CF.sub,csub,Anc.sub,List.map,zCF,ZW,Zx,Za7,Zcu] at O
 generalize τ 7=v7 at O
 refine Za (Ya (Ya (rZ O (qR rr (qf (o_nilCheck 4 .is (by rfl)) r1 r1 (qf (oF 2 4 .adr) r1 r1 (qa 4 r1 r1 (qf (o_neq .t qi) r1 qz qZ))))) V [18,8,7,2,1,0] [101,5,4,0] fun O=>?_)))
 refine Zd O Z (fun hc0=>?_) (fun hc0=>?_)
 ·have hg:(madeS room q why l r p)=(q,why,0):=Zaj (by simpa using hc0)
  refine Ya (rZ O (qI qZ) V [8,7,2,1,0] [101,5,4,0] fun O=>(Yi (Zk ?_)))
  have O:=O.fresh 1 rfl
  obtain ⟨F,O⟩:=O.push 1 5 Z Z Z kr
  obtain ⟨F,O⟩:=O.push 1 4 Z Z Z kr
  have O:=O.turn 1 Z (r':=RS.hp (Zam 242 (.pointer (some ⟨b,0,none⟩)) o root (madeS room q why l r p).2.1 room (madeS room q why l r p).1)) (fun _ _ _ _ h=>by rw [hg];exact h)
  refine ZA hG O Z (.tmp Z .nil) (.one (.int (by first | (rw [hg];done) | (rw [hg];rfl)))) rfl
 have hg:(madeS room q why l r p)=((ZaW room q (Za7 q l r p)).1,(ZaW room q (Za7 q l r p)).2.2,(ZaW room q (Za7 q l r p)).2.1):=by exact Yc (by simpa using hc0)
 refine Yf (Za (Ya (Zau O (qR rr (qf (o_nilCheck 4 .is (by rfl)) r1 r1 (qf (oF 0 4 .adr) r1 r1 (qf (oL true 2 4 .adr) r1 r1 (qR rr (qf (o_callG1 5 (Za6 o room q root l) func107 Z kr (Args.two (.pagg .t) .t)) r2 r1 (qR rr (qf (o_nilCheck 4 .is (by rfl)) r1 r1 (qf (oF 0 4 .adr) r1 r1 (qf (oL true 2 4 .adr) r1 r1 (qR rr (qf (o_callG1 5 (Za6 o room q root r) func107 Z kr (Args.two (.pagg .t) .t)) r2 r1 (qf (oH [.int .i64 0,.int .i64 0,.int .i64 0,.int .i64 0,.int .i64 0,.int .i64 0] 102) trivial qz (qf (oH [.int .i64 0,.int .i64 0,.int .i64 0,.int .i64 0,.int .i64 0,.int .i64 0] 103) trivial qz (qf (oA 6 102 .same (.conv .t .agg)) r2 r1 (qf (oA 6 103 .same (.conv .t .agg)) r2 r1 qZ)))))))))))))))) V [10,9,8,7,2,1,0] [103,102,101,5,4,0] (fun _=>rfl) (fun _=>rfl) fun τ a w F O=>?_)))
 try dsimp only [RS.sub,SF.sub,CF.sub,csub,Anc.sub,List.map,Ze,xL,xM,Nat.reduceAdd,xD,xE,xT,xU,xC,xN,zCF,ldSF,ZW,Zx,Za7,Zcu] at O
 generalize τ 9=v9,τ 10=v10 at O
 refine Za (Ya (Zb O (qR rr (qR rr (qg 0 101 r1 r1 (qa 101 r1 r1 (qg 1 101 r1 r1 (qa 101 r1 r1 (qg 4 102 r1 r1 (qa 102 r1 r1 (qg 4 103 r1 r1 (qa 103 r1 r1 (qf (o_add .t .t) r2 qz (qp r1 (qg 5 102 r1 r1 (qa 102 r1 r1 (qg 5 103 r1 r1 (qa 103 r1 r1 (qf (Zo3 .t .t) r2 qz (qp r1 (qf (oB [(0,.tmp 31),(1,.tmp 32),(2,.tmp 34),(3,.tmp 36),(4,.tmp 42),(5,.tmp 48)] [.int .i64 0,.int .i64 0,.int .i64 0,.int .i64 0,.int .i64 0,.int .i64 0] [(0,1),(1,1),(2,1),(3,1),(4,1),(5,1)] (.one Z .t one_int kr (.one Z .t one_int kr (.one Z .t one_int kr (.one Z .t one_int kr (.one Z .t one_int kr (.one Z .t one_int kr .nil))))))) r6 qz (qf (oH [.int .i64 0,.int .i64 0,.int .i64 0,.int .i64 0,.int .i64 0,.int .i64 0] 104) trivial qz (qS 6 104 r2 r1 qZ))))))))))))))))))))) V [11,8,0] [104,5,4,0] (fun _=>rfl) (fun _=>rfl) fun τ a w F O=>?_))
 try dsimp only [RS.sub,SF.sub,CF.sub,csub,Anc.sub,List.map,Ze,xL,xM,Nat.reduceAdd,xD,xE,xT,xU,xC,xN,zCF,ldSF,ZW,Zx,Za7,Zcu] at O
 generalize τ 11=v11 at O
 refine Za (Ya (Zq O (qR rr (qf (o_nilCheck 4 .is (by rfl)) r1 r1 (qf (oF 0 4 .adr) r1 r1 (qf (oF 0 4 .adr) r1 r1 (qa 4 r1 r1 (qe 6 104 r1 r1 (qf (o_callG1 5 (Zoj o room q (Za7 q l r p)) func251 Z kr (Args.two .t (.pagg .t))) r2 r1 (qR rr (qf (o_extract .t Z) r1 qz (qf (o_extract .t Z) r1 qz (qO rr (qO rr qZ)))))))))))) V [13,12,8,0] [5,4,0] Z Z fun a w F O=>?_))
 try dsimp only [List.map,xD,xE,xT,xU,ldSF,ZW,Zx,Za7,Zcu] at O
 refine Za (Ya (rZ O (qR rr (qR rr (qf (o_nilCheck 4 .is (by rfl)) r1 r1 (qf (oF 2 4 .adr) r1 r1 (qf (Zc2 4 .adr .t one_int kr kr) r2 r1 qZ))))) V [12,8] [5,4,0] fun O=>Ya ?_))
 refine rZ O (qR rr (qO rr qZ)) V [8] [5,4,0] fun O=>Yi ?_
 have O:=O.fresh 1 rfl
 obtain ⟨F,O⟩:=O.push 1 5 Z Z Z kr
 obtain ⟨F,O⟩:=O.push 1 4 Z Z Z kr
 have O:=O.turn 1 Z (r':=RS.hp (Zam 242 (.pointer (some ⟨b,0,none⟩)) o root (madeS room q why l r p).2.1 room (madeS room q why l r p).1)) (fun _ _ _ _ h=>by rw [hg];exact h)
 refine ZA hG O Z (.tmp Z .nil) (.one (.int (by first | (rw [hg];done) | (rw [hg];rfl)))) rfl
theorem Zef (b:Nat) (o:Option Nat) (root why room:Int) (q:List Cell) (l r:Int) (p:Zz):FnG prog 246 1 [.is (.pointer (some ⟨b,0,none⟩)),.int .i64 l,.int .i64 r,.agg (Zx p)] [Zam 242 (.pointer (some ⟨b,0,none⟩)) o root why room q] (.int .i64 (ZaC id room q why l r p).2.2) (fun _=>[Zam 242 (.pointer (some ⟨b,0,none⟩)) o root (ZaC id room q why l r p).2.1 room (ZaC id room q why l r p).1]):=by
 refine FnG.mk func246 Z ntmps246 Z kr fun B F0 a w F V hG O=>?_
 obtain ⟨F,O⟩:=O.peel 1 4 Z rfl
 obtain ⟨F,O⟩:=O.peel 1 5 Z rfl
 obtain ⟨F,O⟩:=O.nM [3,2,1,0] [5,4,0]
 refine Ya (Zb O (qx 101 r1 (qI qZ)) V [8,7,2,1,0] [101,5,4,0] (fun _=>rfl) (fun _=>rfl) fun τ a w F O=>?_)
 try dsimp only [RS.sub,SF.sub,CF.sub,csub,Anc.sub,List.map,zCF,ZW,Zx,Za7,ZD] at O
 generalize τ 7=v7 at O
 refine Za (Ya (Zau O (qR rr (qf (o_nilCheck 4 .is (by rfl)) r1 r1 (qf (oF 0 4 .adr) r1 r1 (qf (oL true 2 4 .adr) r1 r1 (qR rr (qf (o_callG1 5 (Za6 o room q root l) func107 Z kr (Args.two (.pagg .t) .t)) r2 r1 (qR rr (qf (o_nilCheck 4 .is (by rfl)) r1 r1 (qf (oF 0 4 .adr) r1 r1 (qf (oL true 2 4 .adr) r1 r1 (qR rr (qf (o_callG1 5 (Za6 o room q root r) func107 Z kr (Args.two (.pagg .t) .t)) r2 r1 (qf (oH [.int .i64 0,.int .i64 0,.int .i64 0,.int .i64 0,.int .i64 0,.int .i64 0] 102) trivial qz (qf (oH [.int .i64 0,.int .i64 0,.int .i64 0,.int .i64 0,.int .i64 0,.int .i64 0] 103) trivial qz (qf (oA 6 102 .same (.conv .t .agg)) r2 r1 (qf (oA 6 103 .same (.conv .t .agg)) r2 r1 qZ)))))))))))))))) V [10,9,8,7,2,1,0] [103,102,101,5,4,0] (fun _=>rfl) (fun _=>rfl) fun τ a w F O=>?_))
 try dsimp only [RS.sub,SF.sub,CF.sub,csub,Anc.sub,List.map,Ze,xL,xM,Nat.reduceAdd,xD,xE,xT,xU,xC,xN,zCF,ldSF,ZW,Zx,Za7,ZD] at O
 generalize τ 9=v9,τ 10=v10 at O
 refine Za (Ya (Ye (Ya (rZ O (qg 5 102 r1 r1 (qa 102 r1 r1 (qg 5 103 r1 r1 (qa 103 r1 r1 (qp r1 (qf (Zas .t .t) r2 qz (qO rr qZ))))))) V [25,10,9,8,7,2,1,0] [103,102,101,5,4,0] fun O=>?_))))
 refine Zd O Z (fun hc0=>?_) (fun hc0=>?_)
 ·have h1:(IntKind.wrap .i64 ((getC q r).high+1)<(getC q l).high):=by simp only [Yj,Yh] at hc0;omega
  refine Ya (Zau O (qR rr (qf (o_nilCheck 4 .is (by rfl)) r1 r1 (qf (oF 0 4 .adr) r1 r1 (qf (oL true 2 4 .adr) r1 r1 (qg 1 102 r1 r1 (qa 102 r1 r1 (qf (o_callG1 5 (Za6 o room q root (getC q l).right) func107 Z kr (Args.two (.pagg .t) .t)) r2 r1 (qf (oH [.int .i64 0,.int .i64 0,.int .i64 0,.int .i64 0,.int .i64 0,.int .i64 0] 104) trivial qz (qf (oA 6 104 .same (.conv .t .agg)) r2 r1 qZ))))))))) V [11,9,8,7,2,1,0] [104,102,101,5,4,0] (fun _=>rfl) (fun _=>rfl) fun τ a w F O=>?_)
  try dsimp only [RS.sub,SF.sub,CF.sub,csub,Anc.sub,List.map,Ze,xL,xM,Nat.reduceAdd,xD,xE,xT,xU,xC,xN,zCF,ldSF,ZW,Zx,Za7,ZD] at O
  generalize τ 11=v11 at O
  refine Za (Ya (Ya (Zq O (qR rr (qf (o_nilCheck 4 .is (by rfl)) r1 r1 (qf (oF 0 4 .adr) r1 r1 (qf (oL true 2 4 .adr) r1 r1 (qg 0 102 r1 r1 (qa 102 r1 r1 (qf (o_callG1 5 (Za6 o room q root (getC q l).left) func107 Z kr (Args.two (.pagg .t) .t)) r2 r1 (qf (ZdO (ft:=3) (off:=5) kr kr .t Z) r1 qz (qg 5 104 r1 r1 (qa 104 r1 r1 (qf (ZeG .t .t) r2 qz qZ))))))))))) V [49,11,9,8,7,2,1,0] [104,102,101,5,4,0] Z Z fun a w F O=>?_)))
  try dsimp only [List.map,xD,xE,xT,xU,ldSF,ZW,Zx,Za7,ZD] at O
  refine Za (Zd O Z (fun hc1=>?_) (fun hc1=>?_))
  ·have h3:((getC q (getC q l).right).high≤(getC q (getC q l).left).high):=by simp only [Yj,Yh] at hc1;omega
   have hg:(ZaC id room q why l r p)=(madeS room (madeS room q why (getC q l).right r p).1 (madeS room q why (getC q l).right r p).2.1 (getC q l).left (madeS room q why (getC q l).right r p).2.2 (ZD id (getC q l))):=by unfold ZaC;rw [Yd h1,Yd h3] <;> rfl
   refine Ya ?_
   have O:=O.fresh 1 rfl
   obtain ⟨F,O⟩:=O.push 1 5 Z Z Z kr
   obtain ⟨F,O⟩:=O.push 1 4 Z Z Z kr
   have O:=O.turn 1 Z (r':=RS.hp (Zam 242 (.pointer (some ⟨b,0,none⟩)) o root why room q)) (fun _ _ _ _ h=>h)
   obtain ⟨F,O⟩:=O.nM [49,11,9,8,7,2,1,0] [104,102,101,1,0]
   refine Zq O (qR rr (qg 0 102 r1 r1 (qa 102 r1 r1 (qR rr (qg 1 102 r1 r1 (qa 102 r1 r1 (qR rr (qe 2 101 r1 r1 (qf (o_callG1 1 (Za8 b o root why room q (getC q l).right r p) func249 Z kr (Args.four .t .t .t (.pagg .t))) r4 r1 (qe 6 102 r1 r1 (qf (oP (Zcs (getC q l)) func247 (Args.one (.pagg .t))) r1 qz (qf (o_callG1 1 (Za8 b o root (madeS room q why (getC q l).right r p).2.1 room (madeS room q why (getC q l).right r p).1 (getC q l).left (madeS room q why (getC q l).right r p).2.2 (ZD id (getC q l))) func249 Z kr (Args.four .t .t .t .t)) r4 r1 (qO rr qZ))))))))))))) V [11,9,8,7,2,1,0] [104,102,101,1,0] Z Z fun a w F O=>?_
   try dsimp only [List.map,xD,xE,xT,xU,ldSF,ZW,Zx,Za7,ZD] at O
   refine Za (Yi (Zk (ZC (Zk ?_))))
   have O:=O.turn 1 Z (r':=RS.hp (Zam 242 (.pointer (some ⟨b,0,none⟩)) o root (ZaC id room q why l r p).2.1 room (ZaC id room q why l r p).1)) (fun _ _ _ _ h=>by rw [hg];exact h)
   refine ZA hG O Z (.tmp Z .nil) (.one (.int (by first | (rw [hg];done) | (rw [hg];rfl)))) rfl
  have h3:¬ ((getC q (getC q l).right).high≤(getC q (getC q l).left).high):=by simp only [Yj,Yh] at hc1;omega
  have hg:(ZaC id room q why l r p)=(madeS room (madeS room (madeS room q why (getC q l).left (getC q (getC q l).right).left (ZD id (getC q l))).1 (madeS room q why (getC q l).left (getC q (getC q l).right).left (ZD id (getC q l))).2.1 (getC q (getC q l).right).right r p).1 (madeS room (madeS room q why (getC q l).left (getC q (getC q l).right).left (ZD id (getC q l))).1 (madeS room q why (getC q l).left (getC q (getC q l).right).left (ZD id (getC q l))).2.1 (getC q (getC q l).right).right r p).2.1 (madeS room q why (getC q l).left (getC q (getC q l).right).left (ZD id (getC q l))).2.2 (madeS room (madeS room q why (getC q l).left (getC q (getC q l).right).left (ZD id (getC q l))).1 (madeS room q why (getC q l).left (getC q (getC q l).right).left (ZD id (getC q l))).2.1 (getC q (getC q l).right).right r p).2.2 (ZD id (getC q (getC q l).right))):=by unfold ZaC;rw [Yd h1,Yc h3] <;> rfl
  refine Yf (Za (Ya ?_))
  have O:=O.fresh 1 rfl
  obtain ⟨F,O⟩:=O.push 1 5 Z Z Z kr
  obtain ⟨F,O⟩:=O.push 1 4 Z Z Z kr
  have O:=O.turn 1 Z (r':=RS.hp (Zam 242 (.pointer (some ⟨b,0,none⟩)) o root why room q)) (fun _ _ _ _ h=>h)
  obtain ⟨F,O⟩:=O.nM [49,11,9,8,7,2,1,0] [104,102,101,1,0]
  refine Zq O (qR rr (qR rr (qg 0 102 r1 r1 (qa 102 r1 r1 (qg 0 104 r1 r1 (qa 104 r1 r1 (qe 6 102 r1 r1 (qf (oP (Zcs (getC q l)) func247 (Args.one (.pagg .t))) r1 qz (qf (o_callG1 1 (Za8 b o root why room q (getC q l).left (getC q (getC q l).right).left (ZD id (getC q l))) func249 Z kr (Args.four .t .t .t .t)) r4 r1 (qR rr (qg 1 104 r1 r1 (qa 104 r1 r1 (qR rr (qe 2 101 r1 r1 (qf (o_callG1 1 (Za8 b o root (madeS room q why (getC q l).left (getC q (getC q l).right).left (ZD id (getC q l))).2.1 room (madeS room q why (getC q l).left (getC q (getC q l).right).left (ZD id (getC q l))).1 (getC q (getC q l).right).right r p) func249 Z kr (Args.four .t .t .t (.pagg .t))) r4 r1 (qe 6 104 r1 r1 (qf (oP (Zcs (getC q (getC q l).right)) func247 (Args.one (.pagg .t))) r1 qz (qf (o_callG1 1 (Za8 b o root (madeS room (madeS room q why (getC q l).left (getC q (getC q l).right).left (ZD id (getC q l))).1 (madeS room q why (getC q l).left (getC q (getC q l).right).left (ZD id (getC q l))).2.1 (getC q (getC q l).right).right r p).2.1 room (madeS room (madeS room q why (getC q l).left (getC q (getC q l).right).left (ZD id (getC q l))).1 (madeS room q why (getC q l).left (getC q (getC q l).right).left (ZD id (getC q l))).2.1 (getC q (getC q l).right).right r p).1 (madeS room q why (getC q l).left (getC q (getC q l).right).left (ZD id (getC q l))).2.2 (madeS room (madeS room q why (getC q l).left (getC q (getC q l).right).left (ZD id (getC q l))).1 (madeS room q why (getC q l).left (getC q (getC q l).right).left (ZD id (getC q l))).2.1 (getC q (getC q l).right).right r p).2.2 (ZD id (getC q (getC q l).right))) func249 Z kr (Args.four .t .t .t .t)) r4 r1 (qO rr qZ))))))))))))))))))) V [8,7,2,1,0] [101,1,0] Z Z fun a w F O=>?_
  try dsimp only [List.map,xD,xE,xT,xU,ldSF,ZW,Zx,Za7,ZD] at O
  refine Za (Yi (ZC (Zk ?_)))
  have O:=O.turn 1 Z (r':=RS.hp (Zam 242 (.pointer (some ⟨b,0,none⟩)) o root (ZaC id room q why l r p).2.1 room (ZaC id room q why l r p).1)) (fun _ _ _ _ h=>by rw [hg];exact h)
  refine ZA hG O Z (.tmp Z .nil) (.one (.int (by first | (rw [hg];done) | (rw [hg];rfl)))) rfl
 have h1:¬ (IntKind.wrap .i64 ((getC q r).high+1)<(getC q l).high):=by simp only [Yj,Yh] at hc0;omega
 refine Ya (rZ O (qg 5 103 r1 r1 (qa 103 r1 r1 (qg 5 102 r1 r1 (qa 102 r1 r1 (qp r1 (qf (Zas .t .t) r2 qz (qO rr qZ))))))) V [80,10,8,7,2,1,0] [103,101,5,4,0] fun O=>?_)
 refine Zd O Z (fun hc2=>?_) (fun hc2=>?_)
 ·have h2:(IntKind.wrap .i64 ((getC q l).high+1)<(getC q r).high):=by simp only [Yj,Yh] at hc2;omega
  refine Ya (Zau O (qR rr (qf (o_nilCheck 4 .is (by rfl)) r1 r1 (qf (oF 0 4 .adr) r1 r1 (qf (oL true 2 4 .adr) r1 r1 (qg 0 103 r1 r1 (qa 103 r1 r1 (qf (o_callG1 5 (Za6 o room q root (getC q r).left) func107 Z kr (Args.two (.pagg .t) .t)) r2 r1 (qf (oH [.int .i64 0,.int .i64 0,.int .i64 0,.int .i64 0,.int .i64 0,.int .i64 0] 105) trivial qz (qf (oA 6 105 .same (.conv .t .agg)) r2 r1 qZ))))))))) V [12,10,8,7,2,1,0] [105,103,101,5,4,0] (fun _=>rfl) (fun _=>rfl) fun τ a w F O=>?_)
  try dsimp only [RS.sub,SF.sub,CF.sub,csub,Anc.sub,List.map,Ze,xL,xM,Nat.reduceAdd,xD,xE,xT,xU,xC,xN,zCF,ldSF,ZW,Zx,Za7,ZD] at O
  generalize τ 12=v12 at O
  refine Za (Ya (Ya (Zq O (qR rr (qf (o_nilCheck 4 .is (by rfl)) r1 r1 (qf (oF 0 4 .adr) r1 r1 (qf (oL true 2 4 .adr) r1 r1 (qg 1 103 r1 r1 (qa 103 r1 r1 (qf (o_callG1 5 (Za6 o room q root (getC q r).right) func107 Z kr (Args.two (.pagg .t) .t)) r2 r1 (qf (ZdO (ft:=3) (off:=5) kr kr .t Z) r1 qz (qg 5 105 r1 r1 (qa 105 r1 r1 (qf (ZeG .t .t) r2 qz qZ))))))))))) V [104,12,10,8,7,2,1,0] [105,103,101,5,4,0] Z Z fun a w F O=>?_)))
  try dsimp only [List.map,xD,xE,xT,xU,ldSF,ZW,Zx,Za7,ZD] at O
  refine Za (Zd O Z (fun hc3=>?_) (fun hc3=>?_))
  ·have h3:((getC q (getC q r).left).high≤(getC q (getC q r).right).high):=by simp only [Yj,Yh] at hc3;omega
   have hg:(ZaC id room q why l r p)=(madeS room (madeS room q why l (getC q r).left p).1 (madeS room q why l (getC q r).left p).2.1 (madeS room q why l (getC q r).left p).2.2 (getC q r).right (ZD id (getC q r))):=by unfold ZaC;rw [Yc h1,Yd h2,Yd h3] <;> rfl
   refine Ya ?_
   have O:=O.fresh 1 rfl
   obtain ⟨F,O⟩:=O.push 1 5 Z Z Z kr
   obtain ⟨F,O⟩:=O.push 1 4 Z Z Z kr
   have O:=O.turn 1 Z (r':=RS.hp (Zam 242 (.pointer (some ⟨b,0,none⟩)) o root why room q)) (fun _ _ _ _ h=>h)
   obtain ⟨F,O⟩:=O.nM [104,12,10,8,7,2,1,0] [105,103,101,1,0]
   refine Zq O (qR rr (qR rr (qR rr (qg 0 103 r1 r1 (qa 103 r1 r1 (qe 2 101 r1 r1 (qf (o_callG1 1 (Za8 b o root why room q l (getC q r).left p) func249 Z kr (Args.four .t .t .t (.pagg .t))) r4 r1 (qg 1 103 r1 r1 (qa 103 r1 r1 (qe 6 103 r1 r1 (qf (oP (Zcs (getC q r)) func247 (Args.one (.pagg .t))) r1 qz (qf (o_callG1 1 (Za8 b o root (madeS room q why l (getC q r).left p).2.1 room (madeS room q why l (getC q r).left p).1 (madeS room q why l (getC q r).left p).2.2 (getC q r).right (ZD id (getC q r))) func249 Z kr (Args.four .t .t .t .t)) r4 r1 (qO rr qZ))))))))))))) V [12,10,8,7,2,1,0] [105,103,101,1,0] Z Z fun a w F O=>?_
   try dsimp only [List.map,xD,xE,xT,xU,ldSF,ZW,Zx,Za7,ZD] at O
   refine Za (Yi (Zk (ZC (Zk ?_))))
   have O:=O.turn 1 Z (r':=RS.hp (Zam 242 (.pointer (some ⟨b,0,none⟩)) o root (ZaC id room q why l r p).2.1 room (ZaC id room q why l r p).1)) (fun _ _ _ _ h=>by rw [hg];exact h)
   refine ZA hG O Z (.tmp Z .nil) (.one (.int (by first | (rw [hg];done) | (rw [hg];rfl)))) rfl
  have h3:¬ ((getC q (getC q r).left).high≤(getC q (getC q r).right).high):=by simp only [Yj,Yh] at hc3;omega
  have hg:(ZaC id room q why l r p)=(madeS room (madeS room (madeS room q why l (getC q (getC q r).left).left p).1 (madeS room q why l (getC q (getC q r).left).left p).2.1 (getC q (getC q r).left).right (getC q r).right (ZD id (getC q r))).1 (madeS room (madeS room q why l (getC q (getC q r).left).left p).1 (madeS room q why l (getC q (getC q r).left).left p).2.1 (getC q (getC q r).left).right (getC q r).right (ZD id (getC q r))).2.1 (madeS room q why l (getC q (getC q r).left).left p).2.2 (madeS room (madeS room q why l (getC q (getC q r).left).left p).1 (madeS room q why l (getC q (getC q r).left).left p).2.1 (getC q (getC q r).left).right (getC q r).right (ZD id (getC q r))).2.2 (ZD id (getC q (getC q r).left))):=by unfold ZaC;rw [Yc h1,Yd h2,Yc h3] <;> rfl
  refine Yf (Za (Ya ?_))
  have O:=O.fresh 1 rfl
  obtain ⟨F,O⟩:=O.push 1 5 Z Z Z kr
  obtain ⟨F,O⟩:=O.push 1 4 Z Z Z kr
  have O:=O.turn 1 Z (r':=RS.hp (Zam 242 (.pointer (some ⟨b,0,none⟩)) o root why room q)) (fun _ _ _ _ h=>h)
  obtain ⟨F,O⟩:=O.nM [104,12,10,8,7,2,1,0] [105,103,101,1,0]
  refine Zq O (qR rr (qR rr (qR rr (qg 0 105 r1 r1 (qa 105 r1 r1 (qe 2 101 r1 r1 (qf (o_callG1 1 (Za8 b o root why room q l (getC q (getC q r).left).left p) func249 Z kr (Args.four .t .t .t (.pagg .t))) r4 r1 (qR rr (qg 1 105 r1 r1 (qa 105 r1 r1 (qg 1 103 r1 r1 (qa 103 r1 r1 (qe 6 103 r1 r1 (qf (oP (Zcs (getC q r)) func247 (Args.one (.pagg .t))) r1 qz (qf (o_callG1 1 (Za8 b o root (madeS room q why l (getC q (getC q r).left).left p).2.1 room (madeS room q why l (getC q (getC q r).left).left p).1 (getC q (getC q r).left).right (getC q r).right (ZD id (getC q r))) func249 Z kr (Args.four .t .t .t .t)) r4 r1 (qe 6 105 r1 r1 (qf (oP (Zcs (getC q (getC q r).left)) func247 (Args.one (.pagg .t))) r1 qz (qf (o_callG1 1 (Za8 b o root (madeS room (madeS room q why l (getC q (getC q r).left).left p).1 (madeS room q why l (getC q (getC q r).left).left p).2.1 (getC q (getC q r).left).right (getC q r).right (ZD id (getC q r))).2.1 room (madeS room (madeS room q why l (getC q (getC q r).left).left p).1 (madeS room q why l (getC q (getC q r).left).left p).2.1 (getC q (getC q r).left).right (getC q r).right (ZD id (getC q r))).1 (madeS room q why l (getC q (getC q r).left).left p).2.2 (madeS room (madeS room q why l (getC q (getC q r).left).left p).1 (madeS room q why l (getC q (getC q r).left).left p).2.1 (getC q (getC q r).left).right (getC q r).right (ZD id (getC q r))).2.2 (ZD id (getC q (getC q r).left))) func249 Z kr (Args.four .t .t .t .t)) r4 r1 (qO rr qZ))))))))))))))))))) V [8,7,2,1,0] [101,1,0] Z Z fun a w F O=>?_
  try dsimp only [List.map,xD,xE,xT,xU,ldSF,ZW,Zx,Za7,ZD] at O
  refine Za (Yi (ZC (Zk ?_)))
  have O:=O.turn 1 Z (r':=RS.hp (Zam 242 (.pointer (some ⟨b,0,none⟩)) o root (ZaC id room q why l r p).2.1 room (ZaC id room q why l r p).1)) (fun _ _ _ _ h=>by rw [hg];exact h)
  refine ZA hG O Z (.tmp Z .nil) (.one (.int (by first | (rw [hg];done) | (rw [hg];rfl)))) rfl
 have h2:¬ (IntKind.wrap .i64 ((getC q l).high+1)<(getC q r).high):=by simp only [Yj,Yh] at hc2;omega
 have hg:(ZaC id room q why l r p)=(madeS room q why l r p):=by unfold ZaC;rw [Yc h1,Yc h2] <;> rfl
 refine Yf (Zm (Za (Ya ?_)))
 have O:=O.fresh 1 rfl
 obtain ⟨F,O⟩:=O.push 1 5 Z Z Z kr
 obtain ⟨F,O⟩:=O.push 1 4 Z Z Z kr
 have O:=O.turn 1 Z (r':=RS.hp (Zam 242 (.pointer (some ⟨b,0,none⟩)) o root why room q)) (fun _ _ _ _ h=>h)
 obtain ⟨F,O⟩:=O.nM [80,10,8,7,2,1,0] [103,101,1,0]
 refine rZ O (qR rr (qR rr (qR rr (qe 2 101 r1 r1 (qf (o_callG1 1 (Za8 b o root why room q l r p) func249 Z kr (Args.four .t .t .t (.pagg .t))) r4 r1 (qO rr qZ)))))) V [8] [1,0] fun O=>Yi ?_
 have O:=O.turn 1 Z (r':=RS.hp (Zam 242 (.pointer (some ⟨b,0,none⟩)) o root (ZaC id room q why l r p).2.1 room (ZaC id room q why l r p).1)) (fun _ _ _ _ h=>by rw [hg];exact h)
 refine ZA hG O Z (.tmp Z .nil) (.one (.int (by first | (rw [hg];done) | (rw [hg];rfl)))) rfl
theorem Zo5 (b:Nat) (o:Option Nat) (root why room:Int) (q:List Cell) (l r:Int) (x:Int):FnG prog 190 1 [.is (.pointer (some ⟨b,0,none⟩)),.int .i64 l,.int .i64 r,.int .i64 x] [Zam 247 (.pointer (some ⟨b,0,none⟩)) o root why room q] (.int .i64 (madeS room q why l r ⟨0,x⟩).2.2) (fun _=>[Zam 247 (.pointer (some ⟨b,0,none⟩)) o root (madeS room q why l r ⟨0,x⟩).2.1 room (madeS room q why l r ⟨0,x⟩).1]):=by
 refine FnG.mk func190 Z ntmps190 Z kr fun B F0 a w F V hG O=>?_
 obtain ⟨F,O⟩:=O.peel 1 4 Z rfl
 obtain ⟨F,O⟩:=O.peel 1 5 Z rfl
 obtain ⟨F,O⟩:=O.nM [3,2,1,0] [5,4,0]
 refine Ya (rZ O (qI qZ) V [8,3,2,1,0] [5,4,0] fun O=>(Ya (Ya ?_)))
 refine rZ O (qR rr (qf (o_nilCheck 4 .is (by rfl)) r1 r1 (qf (oF 2 4 .adr) r1 r1 (qa 4 r1 r1 (qf (o_neq .t qi) r1 qz qZ))))) V [17,8,3,2,1,0] [5,4,0] fun O=>?_
 refine Zd O Z (fun hc0=>?_) (fun hc0=>?_)
 ·have hg:(madeS room q why l r ⟨0,x⟩)=(q,why,0):=Zaj (by simpa using hc0)
  refine Ya (rZ O (qI qZ) V [8,3,2,1,0] [5,4,0] fun O=>(Yi (Zk ?_)))
  have O:=O.fresh 1 rfl
  obtain ⟨F,O⟩:=O.push 1 5 Z Z Z kr
  obtain ⟨F,O⟩:=O.push 1 4 Z Z Z kr
  have O:=O.turn 1 Z (r':=RS.hp (Zam 247 (.pointer (some ⟨b,0,none⟩)) o root (madeS room q why l r ⟨0,x⟩).2.1 room (madeS room q why l r ⟨0,x⟩).1)) (fun _ _ _ _ h=>by rw [hg];exact h)
  refine ZA hG O Z (.tmp Z .nil) (.one (.int (by first | (rw [hg];done) | (rw [hg];rfl)))) rfl
 have hg:(madeS room q why l r ⟨0,x⟩)=((ZaW room q (Zcu q l r x)).1,(ZaW room q (Zcu q l r x)).2.2,(ZaW room q (Zcu q l r x)).2.1):=by rw [Zm1];exact Yc (by simpa using hc0)
 refine Yf (Za (Ya (Zau O (qR rr (qf (o_nilCheck 4 .is (by rfl)) r1 r1 (qf (oF 0 4 .adr) r1 r1 (qf (oL true 2 4 .adr) r1 r1 (qR rr (qf (o_callG1 5 (scell_c o room q root l) func109 Z kr (Args.two (.pagg .t) .t)) r2 r1 (qR rr (qf (o_nilCheck 4 .is (by rfl)) r1 r1 (qf (oF 0 4 .adr) r1 r1 (qf (oL true 2 4 .adr) r1 r1 (qR rr (qf (o_callG1 5 (scell_c o room q root r) func109 Z kr (Args.two (.pagg .t) .t)) r2 r1 (qf (oH [.int .i64 0,.int .i64 0,.int .i64 0,.int .i64 0,.int .i64 0,.int .i64 0] 101) trivial qz (qf (oH [.int .i64 0,.int .i64 0,.int .i64 0,.int .i64 0,.int .i64 0,.int .i64 0] 102) trivial qz (qf (oA 6 101 .same (.conv .t .agg)) r2 r1 (qf (oA 6 102 .same (.conv .t .agg)) r2 r1 qZ)))))))))))))))) V [10,9,8,3,2,1,0] [102,101,5,4,0] (fun _=>rfl) (fun _=>rfl) fun τ a w F O=>?_)))
 try dsimp only [RS.sub,SF.sub,CF.sub,csub,Anc.sub,List.map,Ze,xL,xM,Nat.reduceAdd,xD,xE,xT,xU,xC,xN,zCF,ldSF,ZW,Zx,Za7,Zcu] at O
 generalize τ 9=v9,τ 10=v10 at O
 refine Za (Ya (Zq O (qR rr (qf (o_nilCheck 4 .is (by rfl)) r1 r1 (qf (oF 0 4 .adr) r1 r1 (qf (oF 0 4 .adr) r1 r1 (qa 4 r1 r1 (qR rr (qR rr (qR rr (qg 4 101 r1 r1 (qa 101 r1 r1 (qg 4 102 r1 r1 (qa 102 r1 r1 (qf (o_add .t .t) r2 qz (qp r1 (qg 5 101 r1 r1 (qa 101 r1 r1 (qg 5 102 r1 r1 (qa 102 r1 r1 (qf (Zo3 .t .t) r2 qz (qf (o_add qi .t) r1 qz (qf (oB [(0,.tmp 36),(1,.tmp 37),(3,.tmp 38),(4,.tmp 44),(5,.tmp 50)] [.int .i64 0,.int .i64 0,.int .i64 0,.int .i64 0,.int .i64 0,.int .i64 0] [(0,1),(1,1),(2,1),(3,1),(4,1),(5,1)] (.one Z .t one_int kr (.one Z .t one_int kr (.one Z .t one_int kr (.one Z .t one_int kr (.one Z .t one_int kr .nil)))))) r5 qz (qf (o_callG1 5 (Zoj o room q (Zcu q l r x)) func251 Z kr (Args.two .t (.pagg .t))) r2 r1 (qR rr (qf (o_extract .t Z) r1 qz (qf (o_extract .t Z) r1 qz (qO rr (qO rr qZ))))))))))))))))))))))))))) V [12,11,8,0] [5,4,0] Z Z fun a w F O=>?_))
 try dsimp only [List.map,Ze,xL,xM,Nat.reduceAdd,xD,xE,xT,xU,xC,xN,zCF,ldSF,ZW,Zx,Za7,Zcu] at O
 refine Za (Ya (rZ O (qR rr (qR rr (qf (o_nilCheck 4 .is (by rfl)) r1 r1 (qf (oF 2 4 .adr) r1 r1 (qf (Zc2 4 .adr .t one_int kr kr) r2 r1 qZ))))) V [11,8] [5,4,0] fun O=>Ya ?_))
 refine rZ O (qR rr (qO rr qZ)) V [8] [5,4,0] fun O=>Yi ?_
 have O:=O.fresh 1 rfl
 obtain ⟨F,O⟩:=O.push 1 5 Z Z Z kr
 obtain ⟨F,O⟩:=O.push 1 4 Z Z Z kr
 have O:=O.turn 1 Z (r':=RS.hp (Zam 247 (.pointer (some ⟨b,0,none⟩)) o root (madeS room q why l r ⟨0,x⟩).2.1 room (madeS room q why l r ⟨0,x⟩).1)) (fun _ _ _ _ h=>by rw [hg];exact h)
 refine ZA hG O Z (.tmp Z .nil) (.one (.int (by first | (rw [hg];done) | (rw [hg];rfl)))) rfl
theorem Zqt {P:Z5→Prop} (h:∀ t,(∀ t',Zw t' < Zw t→P t')→P t) (t:Z5):P t:=by
 have h0:∀ (n:Nat) (t:Z5),Zw t<n→P t:=by
  intro n
  induction n with
  | zero=>intro t ht;have:=ZI t;omega
  | succ n ih=>intro t ht;exact h t fun t' ht'=>ih t' ow
 have:=ZI t
 exact h0 ((Zw t).toNat+1) t ow
theorem Zjd {l r:Z5} {p:Zz} : Zw l<Zw (.node l p r):=by have:=ZI r;show _<Zw l+Zw r+1;omega
theorem Zl2 {l r:Z5} {p:Zz} : Zw r<Zw (.node l p r):=by have:=ZI l;show _<Zw l+Zw r+1;omega
theorem Ziw {l l' r:Z5} {p:Zz} (h1:Bal l') (h2:Bal r) (h3:Zg l≤Zg r+1) (h4:Zg r≤Zg l+1) (a:Zg l - 1≤Zg l') (b:Zg l' ≤ Zg l):Bal (ZaX l' p r)∧max (Zg l) (Zg r)≤Zg (ZaX l' p r)∧Zg (ZaX l' p r)≤max (Zg l) (Zg r)+1:=by
 have hb:=Zec p h1 h2 ow ow
 refine ⟨hb.1,?_,by omega⟩
 by_cases e2:Zg l' + 1<Zg r
 ·omega
 ·have e:ZaX l' p r = .node l' p r:=by unfold ZaX;rw [Yc ow,Yc ow]
  rw [e]
  show _≤max (Zg l') (Zg r)+1
  omega
theorem ZhF {l r r':Z5} {p:Zz} (h1:Bal l) (h2:Bal r') (h3:Zg l≤Zg r+1) (h4:Zg r≤Zg l+1) (a:Zg r - 1≤Zg r') (b:Zg r' ≤ Zg r):Bal (ZaX l p r')∧max (Zg l) (Zg r)≤Zg (ZaX l p r')∧Zg (ZaX l p r')≤max (Zg l) (Zg r)+1:=by
 have hb:=Zec p h1 h2 ow ow
 refine ⟨hb.1,?_,by omega⟩
 by_cases e2:Zg r' + 1<Zg l
 ·omega
 ·have e:ZaX l p r' = .node l p r':=by unfold ZaX;rw [Yc ow,Yc ow]
  rw [e]
  show _≤max (Zg l) (Zg r')+1
  omega
theorem Zd1 (p:Zz):∀ t:Z5,Zw t≤Zw (putT p t)∧Zw (putT p t)≤Zw t+1
 | .nil=>⟨by show (0:Int)≤0+0+1;omega,by show (0:Int)+0+1≤0+1;omega⟩
 | .node l x r=>by
  have hl:=Zd1 p l
  have hr:=Zd1 p r
  have e:Zw (.node l x r)=Zw l+Zw r+1:=rfl
  unfold putT
  split
  ·rw [Zb9];omega
  ·split
   ·rw [Zb9];omega
   ·show _≤Zw l+Zw r+1∧Zw l+Zw r+1≤_;omega
def Zbp (kf:Int→Int) (room:Int) (q:List Cell) (why:Int) (p:Zz):Z5→Int→St
 | .nil,_=>madeS room q why 0 0 p
 | .node l _ r,i=>
  if p.key<(getC q i).key then ZaC kf room (Zbp kf room q why p l (getC q i).left).1 (Zbp kf room q why p l (getC q i).left).2.1 (Zbp kf room q why p l (getC q i).left).2.2 (getC q i).right (ZD kf (getC q i))
  else if (getC q i).key<p.key then ZaC kf room (Zbp kf room q why p r (getC q i).right).1 (Zbp kf room q why p r (getC q i).right).2.1 (getC q i).left (Zbp kf room q why p r (getC q i).right).2.2 (ZD kf (getC q i))
  else madeS room q why (getC q i).left (getC q i).right p
theorem ZcY.lo {kf:Int→Int} {room:Int} {q:List Cell} {lo n:Int} {x:St} {t:Z5} (h:ZcY kf room q lo n x t):0≤n:=by
 obtain ⟨e,_,e2,_⟩:=h
 omega
theorem ZfG {kf:Int→Int} {room:Int} {q:List Cell} {p:Zz} (hp:kf p.key=p.key):∀ {t:Z5} {i:Int},Rep kf q t i→Zw t<1000000→ZcY kf room q 1 (3*(Zg t+1)) (Zbp kf room q 0 p t i) (putT p t)
 | .nil,i,h,hs=>(Zag (l:=.nil) (r:=.nil) rfl rfl hp (by show (0:Int)+0≤_;omega)).weak ow (by show (1:Int)≤3*(0+1);omega)
 | .node l x r,i,h,hs=>by
  have hk:=h.pair
  obtain ⟨h1,h2,h3,h4,h5,h6,_⟩:=h
  have e:Zw (.node l x r)=Zw l+Zw r+1:=rfl
  have e2:Zg (.node l x r)=max (Zg l) (Zg r)+1:=rfl
  have sl:=ZI l
  have sr:=ZI r
  have tl:=Zd1 p l
  have tr:=Zd1 p r
  have gl:=Z4 l
  have gr:=Z4 r
  have il:=ZfG (room:=room) hp h2 ow
  have ir:=ZfG (room:=room) hp h3 ow
  unfold Zbp putT
  rw [h4,hk]
  split
  ·refine (ZcY.bind (lo':=1) (m:=3) il ow (fun e' e1 e3 e4=>?_) fun hw=>Zb0 hw).weak ow ow
   rw [e3]
   exact ZbF e4 (by rw [e1];exact h3.app e') h5 ow
  ·split
   ·refine (ZcY.bind (lo':=1) (m:=3) ir ow (fun e' e1 e3 e4=>?_) fun hw=>Zb0 hw).weak ow ow
    rw [e3]
    exact ZbF (by rw [e1];exact h2.app e') e4 h5 ow
   ·exact (Zag h2 h3 hp ow).weak ow ow
def Zbl:Z5→Zz×Z5
 | .nil=>(default,.nil)
 | .node .nil p r=>(p,r)
 | .node (.node a b c) p r=>((Zbl (.node a b c)).1,ZaX (Zbl (.node a b c)).2 p r)
theorem Zch:∀ {t:Z5},t ≠ .nil→tList t=(Zbl t).1 :: tList (Zbl t).2
 | .nil,h=>absurd rfl h
 | .node .nil p r,_=>rfl
 | .node (.node a b c) p r,_=>by
  have:=Zch (t:=.node a b c) (by simp)
  unfold Zbl
  simp only
  rw [Zbe]
  show tList (.node a b c)++p :: tList r=_
  rw [this]
  rfl
theorem Zdo {t:Z5} (h:t ≠ .nil):Zw (Zbl t).2=Zw t - 1:=by
 rw [ZM,ZM,Zch h]
 simp only [Yp]
 omega
theorem Zgk:∀ {t:Z5},Bal t→Bal (Zbl t).2∧Zg t - 1≤Zg (Zbl t).2∧Zg (Zbl t).2≤Zg t
 | .nil,_=>⟨tv,by show (0:Int) - 1≤0;omega,Yak _⟩
 | .node .nil p r,h=>by
  have:=Z4 r
  have h4:=h.2.2.2
  have e:Zg (.node .nil p r)=max 0 (Zg r)+1:=rfl
  have e1:Zg Z5.nil=0:=rfl
  exact ⟨h.2.1,by show _≤Zg r;omega,by show Zg r≤_;omega⟩
 | .node (.node a b c) p r,h=>by
  obtain ⟨h1,h2,h3,h4⟩:=h
  have il:=Zgk h1
  have e:Zg (.node (.node a b c) p r)=max (Zg (.node a b c)) (Zg r)+1:=rfl
  have:=Ziw (p:=p) il.1 h2 h3 h4 il.2.1 il.2.2
  unfold Zbl
  simp only
  exact ⟨this.1,by omega,by omega⟩
def ZZ (kf:Int→Int) (room:Int) (q:List Cell) (why:Int):Z5→Int→Zz×St
 | .nil,i=>(ZD kf (getC q i),q,why,(getC q i).right)
 | .node l _ _,i=>
  if (getC q i).left=0 then (ZD kf (getC q i),q,why,(getC q i).right)
  else ((ZZ kf room q why l (getC q i).left).1,ZaC kf room (ZZ kf room q why l (getC q i).left).2.1 (ZZ kf room q why l (getC q i).left).2.2.1 (ZZ kf room q why l (getC q i).left).2.2.2 (getC q i).right (ZD kf (getC q i)))
theorem Zfh {kf:Int→Int} {room:Int} {q:List Cell} : ∀ {t:Z5} {i:Int},Rep kf q t i→t ≠ .nil→Zw t≤1000000→(ZZ kf room q 0 t i).1=(Zbl t).1∧ZcY kf room q 0 (3*Zg t) (ZZ kf room q 0 t i).2 (Zbl t).2
 | .nil,i,h,hn,hs=>absurd rfl hn
 | .node .nil x r,i,h,hn,hs=>by
  have hk:=h.pair
  have h2:(getC q i).left=0:=h.2.1
  have e2:Zg (.node .nil x r)=max 0 (Zg r)+1:=rfl
  unfold ZZ Zbl
  rw [Yd h2]
  exact ⟨hk,[],(YD q).symm,by simp only [Yx];omega,.inl ⟨rfl,h.2.2.1,by simp⟩⟩
 | .node (.node a b c) x r,i,h,hn,hs=>by
  have hk:=h.pair
  obtain ⟨h1,h2,h3,h4,h5,h6,_⟩:=h
  have hz:(getC q i).left≠0:=fun hz=>by rw [hz] at h2;exact absurd h2.zero (by simp)
  have e:Zw (.node (.node a b c) x r)=Zw (.node a b c)+Zw r+1:=rfl
  have e2:Zg (.node (.node a b c) x r)=max (Zg (.node a b c)) (Zg r)+1:=rfl
  have sr:=ZI r
  have gr:=Z4 r
  have gl:=Z4 (.node a b c)
  have il:=Zfh (room:=room) h2 (by simp) ow
  have ts:=Zdo (t:=.node a b c) (by simp)
  unfold ZZ Zbl
  rw [Yc hz,hk]
  refine ⟨il.1,(ZcY.bind (lo':=1) (m:=3) il.2 ow (fun e' e1 e3 e4=>?_) fun hw=>Zb0 hw).weak ow ow⟩
  rw [e3]
  exact ZbF e4 (by rw [e1];exact h3.app e') h5 ow
def delT (k:Int):Z5→Z5
 | .nil=>.nil
 | .node l p r=>if k<p.key then ZaX (delT k l) p r else if p.key<k then ZaX l p (delT k r) else
  match l with
  | .nil=>r
  | .node _ _ _=>match r with
   | .nil=>l
   | .node _ _ _=>ZaX l (Zbl r).1 (Zbl r).2
def Zig (k:Int):Z5→Prop
 | .nil=>False
 | .node l p r=>if k<p.key then Zig k l else if p.key<k then Zig k r else True
theorem ZgS (k:Int):∀ {t:Z5},Bal t→Bal (delT k t)∧Zg t - 1≤Zg (delT k t)∧Zg (delT k t)≤Zg t
 | .nil,_=>⟨tv,by show (0:Int) - 1≤0;omega,Yak _⟩
 | .node l p r,h=>by
  obtain ⟨h1,h2,h3,h4⟩:=h
  have il:=ZgS k h1
  have ir:=ZgS k h2
  have e:Zg (.node l p r)=max (Zg l) (Zg r)+1:=rfl
  have gl:=Z4 l
  have gr:=Z4 r
  unfold delT
  split
  ·have:=Ziw (p:=p) il.1 h2 h3 h4 il.2.1 il.2.2
   exact ⟨this.1,by omega,by omega⟩
  ·split
   ·have:=ZhF (p:=p) h1 ir.1 h3 h4 ir.2.1 ir.2.2
    exact ⟨this.1,by omega,by omega⟩
   ·have e1:Zg Z5.nil=0:=rfl
    split
    ·exact ⟨h2,by omega,by omega⟩
    ·split
     ·exact ⟨h1,by omega,by omega⟩
     ·rename_i ra rb rc
      have fb:=Zgk h2
      have:=ZhF (p:=(Zbl (.node ra rb rc)).1) h1 fb.1 h3 h4 fb.2.1 fb.2.2
      exact ⟨this.1,by omega,by omega⟩
theorem Znt (k:Int) (l m:List Zz):delP (l++m) k=delP l k++delP m k:=by unfold delP;rw [YaJ]
theorem ZdH {k:Int} {l:List Zz} (h:∀ p ∈ l,p.key≠k):delP l k=l:=by
 unfold delP
 rw [Ya4]
 intro p hp
 simpa using h p hp
theorem Zew {k:Int} {x:Zz} {l:List Zz} (h:x.key≠k):delP (x :: l) k=x :: delP l k:=by
 unfold delP
 rw [YaH (by simpa using h)]
theorem ZhX {k:Int} {x:Zz} {l:List Zz} (h:x.key=k):delP (x :: l) k=delP l k:=by
 unfold delP
 rw [YaI (by simpa using h)]
theorem Zd0 (k:Int):∀ {t:Z5},Inc (tList t)→tList (delT k t)=delP (tList t) k
 | .nil,_=>rfl
 | .node l p r,h=>by
  obtain ⟨h1,h2,h3,h4⟩:=Inc.parts h
  have il:=Zd0 k h1
  have ir:=Zd0 k h2
  show _=delP (tList l++p :: tList r) k
  rw [Znt]
  unfold delT
  split
  ·rename_i hk
   rw [Zbe,il,Zew ow,ZdH (l:=tList r) fun x hx=>by have:=h4 x hx;omega]
  ·split
   ·rename_i hk
    rw [Zbe,ir,Zew ow,ZdH (l:=tList l) fun x hx=>by have:=h3 x hx;omega]
   ·have e:p.key=k:=by omega
    rw [ZhX e,ZdH (l:=tList l) fun x hx=>by have:=h3 x hx;omega,ZdH (l:=tList r) fun x hx=>by have:=h4 x hx;omega]
    split
    ·rfl
    ·split
     ·simp [tList]
     ·rename_i a b c
      rw [Zbe,← Zch (t:=.node _ _ _) (by simp)]
def Za9 (kf:Int→Int) (room:Int) (q:List Cell) (why k:Int):Z5→Int→St
 | .nil,_=>(q,why,0)
 | .node l _ r,i=>
  if k<(getC q i).key then ZaC kf room (Za9 kf room q why k l (getC q i).left).1 (Za9 kf room q why k l (getC q i).left).2.1 (Za9 kf room q why k l (getC q i).left).2.2 (getC q i).right (ZD kf (getC q i))
  else if (getC q i).key<k then ZaC kf room (Za9 kf room q why k r (getC q i).right).1 (Za9 kf room q why k r (getC q i).right).2.1 (getC q i).left (Za9 kf room q why k r (getC q i).right).2.2 (ZD kf (getC q i))
  else if (getC q i).left=0 then (q,why,(getC q i).right)
  else if (getC q i).right=0 then (q,why,(getC q i).left)
  else ZaC kf room (ZZ kf room q why r (getC q i).right).2.1 (ZZ kf room q why r (getC q i).right).2.2.1 (getC q i).left (ZZ kf room q why r (getC q i).right).2.2.2 (ZZ kf room q why r (getC q i).right).1
theorem ZdK {k:Int} : ∀ {t:Z5},Zig k t→Zw (delT k t)=Zw t - 1
 | .nil,h=>h.elim
 | .node l p r,h=>by
  have e:Zw (.node l p r)=Zw l+Zw r+1:=rfl
  unfold Zig at h
  unfold delT
  split
  ·rename_i hk
   rw [Yd hk] at h
   rw [Zb9,ZdK h];omega
  ·rename_i hk
   rw [Yc hk] at h
   split
   ·rename_i hk2
    rw [Yd hk2] at h
    rw [Zb9,ZdK h];omega
   ·split
    ·have:Zw Z5.nil=0:=rfl
     omega
    ·split
     ·have:Zw Z5.nil=0:=rfl
      omega
     ·rw [Zb9,Zdo (by simp)];omega
theorem Zfj {kf:Int→Int} {room:Int} {q:List Cell} {k:Int} : ∀ {t:Z5} {i:Int},Rep kf q t i→Zig k t→Zw t≤1000000→(∀ p ∈ tList t,kf p.key=p.key)→ZcY kf room q 0 (3*(Zg t+1)) (Za9 kf room q 0 k t i) (delT k t)
 | .nil,i,h,hn,hs,_=>hn.elim
 | .node l x r,i,h,hn,hs,hkf=>by
  have hk:=h.pair
  obtain ⟨h1,h2,h3,h4,h5,h6,_⟩:=h
  have e:Zw (.node l x r)=Zw l+Zw r+1:=rfl
  have e2:Zg (.node l x r)=max (Zg l) (Zg r)+1:=rfl
  have sl:=ZI l
  have sr:=ZI r
  have gl:=Z4 l
  have gr:=Z4 r
  have kl:∀ p ∈ tList l,kf p.key=p.key:=fun p hp=>hkf p (by simp [tList,hp])
  have kr:∀ p ∈ tList r,kf p.key=p.key:=fun p hp=>hkf p (by simp [tList,hp])
  unfold Zig at hn
  unfold Za9 delT
  rw [h4,hk]
  split
  ·rename_i hc
   rw [Yd hc] at hn
   have:=ZdK hn
   refine (ZcY.bind (lo':=1) (m:=3) (Zfj h2 hn ow kl) ow (fun e' e1 e3 e4=>?_) fun hw=>Zb0 hw).weak ow ow
   rw [e3]
   exact ZbF e4 (by rw [e1];exact h3.app e') h5 ow
  ·rename_i hc
   rw [Yc hc] at hn
   split
   ·rename_i hc2
    rw [Yd hc2] at hn
    have:=ZdK hn
    refine (ZcY.bind (lo':=1) (m:=3) (Zfj h3 hn ow kr) ow (fun e' e1 e3 e4=>?_) fun hw=>Zb0 hw).weak ow ow
    rw [e3]
    exact ZbF (by rw [e1];exact h2.app e') e4 h5 ow
   ·match l,h2 with
    | .nil,h2=>
     rw [Yd (show (getC q i).left=0 from h2)]
     exact ⟨[],(YD q).symm,by simp only [Yx];omega,.inl ⟨rfl,h3,by simp⟩⟩
    | .node la lb lc,h2=>
     have hz:(getC q i).left≠0:=fun hz=>by rw [hz] at h2;exact absurd h2.zero (by simp)
     rw [Yc hz]
     match r,h3 with
     | .nil,h3=>
      rw [Yd (show (getC q i).right=0 from h3)]
      exact ⟨[],(YD q).symm,by simp only [Yx];omega,.inl ⟨rfl,h2,by simp⟩⟩
     | .node ra rb rc,h3=>
      have hz:(getC q i).right≠0:=fun hz=>by rw [hz] at h3;exact absurd h3.zero (by simp)
      rw [Yc hz]
      have fg:=Zfh (room:=room) h3 (by simp) ow
      have fs:=Zdo (t:=.node ra rb rc) (by simp)
      have fl:=Zch (t:=.node ra rb rc) (by simp)
      refine (ZcY.bind (lo':=1) (m:=3) fg.2 ow (fun e' e1 e3 e4=>?_) fun hw=>Zb0 hw).weak ow ow
      rw [e3,fg.1]
      exact ZbF (by rw [e1];exact h2.app e') e4 (kr _ (by rw [fl];simp)) ow
theorem Zp4 (b:Nat) (o:Option Nat) (root why room:Int) (q:List Cell) (p:Zz) (t:Z5) (ih:∀ t',Zw t' < Zw t → ∀ i,Rep id q t' i→FnG prog 185 1 [.is (.pointer (some ⟨b,0,none⟩)),.int .i64 i,.agg (Zx p)] [Zam 242 (.pointer (some ⟨b,0,none⟩)) o root why room q] (.int .i64 (Zbp id room q why p t' i).2.2) (fun _=>[Zam 242 (.pointer (some ⟨b,0,none⟩)) o root (Zbp id room q why p t' i).2.1 room (Zbp id room q why p t' i).1])) (i:Int) (hr:Rep id q t i):FnG prog 185 1 [.is (.pointer (some ⟨b,0,none⟩)),.int .i64 i,.agg (Zx p)] [Zam 242 (.pointer (some ⟨b,0,none⟩)) o root why room q] (.int .i64 (Zbp id room q why p t i).2.2) (fun _=>[Zam 242 (.pointer (some ⟨b,0,none⟩)) o root (Zbp id room q why p t i).2.1 room (Zbp id room q why p t i).1]):=by
 refine FnG.mk func185 Z ntmps185 Z kr fun B F0 a w F V hG O=>?_
 obtain ⟨F,O⟩:=O.peel 1 4 Z rfl
 obtain ⟨F,O⟩:=O.peel 1 5 Z rfl
 obtain ⟨F,O⟩:=O.nM [2,1,0] [5,4,0]
 refine Ya (Zb O (qx 101 r1 (qI qZ)) V [6,5,1,0] [101,5,4,0] (fun _=>rfl) (fun _=>rfl) fun τ a w F O=>?_)
 try dsimp only [RS.sub,SF.sub,CF.sub,csub,Anc.sub,List.map,zCF,ZW,Zx,ZD] at O
 generalize τ 5=v5 at O
 refine Za (Ya (Zb O (qR rr (qf (o_nilCheck 4 .is (by rfl)) r1 r1 (qf (oF 0 4 .adr) r1 r1 (qf (oL true 2 4 .adr) r1 r1 (qR rr (qf (o_callG1 5 (Za6 o room q root i) func107 Z kr (Args.two (.pagg .t) .t)) r2 r1 (qf (oH [.int .i64 0,.int .i64 0,.int .i64 0,.int .i64 0,.int .i64 0,.int .i64 0] 102) trivial qz (qf (oA 6 102 .same (.conv .t .agg)) r2 r1 qZ)))))))) V [7,6,5,1,0] [102,101,5,4,0] (fun _=>rfl) (fun _=>rfl) fun τ a w F O=>?_))
 try dsimp only [RS.sub,SF.sub,CF.sub,csub,Anc.sub,List.map,Ze,xL,xM,Nat.reduceAdd,xD,xE,xT,xU,xC,xN,zCF,ldSF,ZW,Zx,ZD] at O
 generalize τ 7=v7 at O
 refine Za (Ya (Ye (Ya (rZ O (qR rr (qf (o_eql .t qi) r1 qz (qO rr qZ))) V [14,7,6,5,0] [102,101,5,4,0] fun O=>?_))))
 refine Zd O Z (fun hc0=>?_) (fun hc0=>?_)
 ·have hi0:i=0:=by simpa using hc0
  have ht:t = .nil:=by rw [hi0] at hr;exact hr.zero
  have hg:(Zbp id room q why p t i)=(madeS room q why 0 0 p):=by rw [ht];rfl
  refine Ya ?_
  have O:=O.fresh 1 rfl
  obtain ⟨F,O⟩:=O.push 1 5 Z Z Z kr
  obtain ⟨F,O⟩:=O.push 1 4 Z Z Z kr
  have O:=O.turn 1 Z (r':=RS.hp (Zam 242 (.pointer (some ⟨b,0,none⟩)) o root why room q)) (fun _ _ _ _ h=>h)
  obtain ⟨F,O⟩:=O.nM [14,7,6,5,0] [102,101,1,0]
  refine rZ O (qR rr (qe 2 101 r1 r1 (qf (o_callG1 1 (Za8 b o root why room q 0 0 p) func249 Z kr (Args.four .t qi qi (.pagg .t))) r2 r1 (qO rr qZ)))) V [7,6,5,0] [102,101,1,0] fun O=>(Yi (ZC (Zk ?_)))
  have O:=O.turn 1 Z (r':=RS.hp (Zam 242 (.pointer (some ⟨b,0,none⟩)) o root (Zbp id room q why p t i).2.1 room (Zbp id room q why p t i).1)) (fun _ _ _ _ h=>by rw [hg];exact h)
  refine ZA hG O Z (.tmp Z .nil) (.one (.int (by first | (rw [hg];done) | (rw [hg];rfl)))) rfl
 have hi0:i≠0:=by simpa using hc0
 obtain ⟨l,x,r,ht⟩:=hr.node hi0
 have hn:Rep id q (.node l x r) i:=by rw [← ht];exact hr
 have hkx:=hn.2.2.2.1
 refine Ya (rZ O (qg 0 101 r1 r1 (qa 101 r1 r1 (qg 2 102 r1 r1 (qa 102 r1 r1 (qf (ZaG .t .t) r2 qz (qO rr qZ)))))) V [20,7,6,5,0] [102,101,5,4,0] fun O=>?_)
 refine Zd O Z (fun hc1=>?_) (fun hc1=>?_)
 ·have h1:(p.key<(getC q i).key):=by simp only [Yj,Yh] at hc1;omega
  have hg:(Zbp id room q why p t i)=(ZaC id room (Zbp id room q why p l ((getC q i).left)).1 (Zbp id room q why p l ((getC q i).left)).2.1 (Zbp id room q why p l ((getC q i).left)).2.2 (getC q i).right (ZD id (getC q i))):=by rw [ht]; (conv=>lhs;unfold Zbp);rw [Yd h1] <;> rfl
  refine Ya ?_
  have O:=O.fresh 1 rfl
  obtain ⟨F,O⟩:=O.push 1 5 Z Z Z kr
  obtain ⟨F,O⟩:=O.push 1 4 Z Z Z kr
  have O:=O.turn 1 Z (r':=RS.hp (Zam 242 (.pointer (some ⟨b,0,none⟩)) o root why room q)) (fun _ _ _ _ h=>h)
  obtain ⟨F,O⟩:=O.nM [20,7,6,5,0] [102,101,1,0]
  refine Zq O (qR rr (qR rr (qg 0 102 r1 r1 (qa 102 r1 r1 (qe 2 101 r1 r1 (qf (o_callG1 1 (ih l (by rw [ht];exact Zjd) (getC q i).left hn.2.1) func185 Z kr (Args.three .t .t (.pagg .t))) r3 r1 (qg 1 102 r1 r1 (qa 102 r1 r1 (qe 6 102 r1 r1 (qf (oP (Zcs (getC q i)) func247 (Args.one (.pagg .t))) r1 qz (qf (o_callG1 1 (Zef b o root (Zbp id room q why p l ((getC q i).left)).2.1 room (Zbp id room q why p l ((getC q i).left)).1 (Zbp id room q why p l ((getC q i).left)).2.2 (getC q i).right (ZD id (getC q i))) func246 Z kr (Args.four .t .t .t .t)) r4 r1 (qO rr qZ)))))))))))) V [7,6,5,0] [102,101,1,0] Z Z fun a w F O=>?_
  try dsimp only [List.map,xD,xE,xT,xU,ldSF,ZW,Zx,ZD] at O
  refine Za (Yi (ZC (Zk ?_)))
  have O:=O.turn 1 Z (r':=RS.hp (Zam 242 (.pointer (some ⟨b,0,none⟩)) o root (Zbp id room q why p t i).2.1 room (Zbp id room q why p t i).1)) (fun _ _ _ _ h=>by rw [hg];exact h)
  refine ZA hG O Z (.tmp Z .nil) (.one (.int (by first | (rw [hg];done) | (rw [hg];rfl)))) rfl
 have h1:¬ (p.key<(getC q i).key):=by simp only [Yj,Yh] at hc1;omega
 refine Ya (rZ O (qg 0 101 r1 r1 (qa 101 r1 r1 (qg 2 102 r1 r1 (qa 102 r1 r1 (qf (Zas .t .t) r2 qz (qO rr qZ)))))) V [37,7,6,5,0] [102,101,5,4,0] fun O=>?_)
 refine Zd O Z (fun hc2=>?_) (fun hc2=>?_)
 ·have h2:((getC q i).key<p.key):=by simp only [Yj,Yh] at hc2;omega
  have hg:(Zbp id room q why p t i)=(ZaC id room (Zbp id room q why p r ((getC q i).right)).1 (Zbp id room q why p r ((getC q i).right)).2.1 (getC q i).left (Zbp id room q why p r ((getC q i).right)).2.2 (ZD id (getC q i))):=by rw [ht]; (conv=>lhs;unfold Zbp);rw [Yc h1,Yd h2] <;> rfl
  refine Ya ?_
  have O:=O.fresh 1 rfl
  obtain ⟨F,O⟩:=O.push 1 5 Z Z Z kr
  obtain ⟨F,O⟩:=O.push 1 4 Z Z Z kr
  have O:=O.turn 1 Z (r':=RS.hp (Zam 242 (.pointer (some ⟨b,0,none⟩)) o root why room q)) (fun _ _ _ _ h=>h)
  obtain ⟨F,O⟩:=O.nM [37,7,6,5,0] [102,101,1,0]
  refine Zq O (qR rr (qg 0 102 r1 r1 (qa 102 r1 r1 (qR rr (qg 1 102 r1 r1 (qa 102 r1 r1 (qe 2 101 r1 r1 (qf (o_callG1 1 (ih r (by rw [ht];exact Zl2) (getC q i).right hn.2.2.1) func185 Z kr (Args.three .t .t (.pagg .t))) r3 r1 (qe 6 102 r1 r1 (qf (oP (Zcs (getC q i)) func247 (Args.one (.pagg .t))) r1 qz (qf (o_callG1 1 (Zef b o root (Zbp id room q why p r ((getC q i).right)).2.1 room (Zbp id room q why p r ((getC q i).right)).1 (getC q i).left (Zbp id room q why p r ((getC q i).right)).2.2 (ZD id (getC q i))) func246 Z kr (Args.four .t .t .t .t)) r4 r1 (qO rr qZ)))))))))))) V [7,6,5,0] [102,101,1,0] Z Z fun a w F O=>?_
  try dsimp only [List.map,xD,xE,xT,xU,ldSF,ZW,Zx,ZD] at O
  refine Za (Yi (ZC (Zk ?_)))
  have O:=O.turn 1 Z (r':=RS.hp (Zam 242 (.pointer (some ⟨b,0,none⟩)) o root (Zbp id room q why p t i).2.1 room (Zbp id room q why p t i).1)) (fun _ _ _ _ h=>by rw [hg];exact h)
  refine ZA hG O Z (.tmp Z .nil) (.one (.int (by first | (rw [hg];done) | (rw [hg];rfl)))) rfl
 have h2:¬ ((getC q i).key<p.key):=by simp only [Yj,Yh] at hc2;omega
 have hg:(Zbp id room q why p t i)=(madeS room q why (getC q i).left (getC q i).right p):=by rw [ht]; (conv=>lhs;unfold Zbp);rw [Yc h1,Yc h2] <;> rfl
 refine Yf (Zm (Za (Ya ?_)))
 have O:=O.fresh 1 rfl
 obtain ⟨F,O⟩:=O.push 1 5 Z Z Z kr
 obtain ⟨F,O⟩:=O.push 1 4 Z Z Z kr
 have O:=O.turn 1 Z (r':=RS.hp (Zam 242 (.pointer (some ⟨b,0,none⟩)) o root why room q)) (fun _ _ _ _ h=>h)
 obtain ⟨F,O⟩:=O.nM [37,7,6,5,0] [102,101,1,0]
 refine rZ O (qR rr (qg 0 102 r1 r1 (qa 102 r1 r1 (qg 1 102 r1 r1 (qa 102 r1 r1 (qe 2 101 r1 r1 (qf (o_callG1 1 (Za8 b o root why room q (getC q i).left (getC q i).right p) func249 Z kr (Args.four .t .t .t (.pagg .t))) r4 r1 (qO rr qZ)))))))) V [6] [1,0] fun O=>Yi ?_
 have O:=O.turn 1 Z (r':=RS.hp (Zam 242 (.pointer (some ⟨b,0,none⟩)) o root (Zbp id room q why p t i).2.1 room (Zbp id room q why p t i).1)) (fun _ _ _ _ h=>by rw [hg];exact h)
 refine ZA hG O Z (.tmp Z .nil) (.one (.int (by first | (rw [hg];done) | (rw [hg];rfl)))) rfl
theorem Zp7 (b:Nat) (o:Option Nat) (root why room:Int) (q:List Cell) (p:Zz) (t:Z5) (i:Int) (hr:Rep id q t i):FnG prog 185 1 [.is (.pointer (some ⟨b,0,none⟩)),.int .i64 i,.agg (Zx p)] [Zam 242 (.pointer (some ⟨b,0,none⟩)) o root why room q] (.int .i64 (Zbp id room q why p t i).2.2) (fun _=>[Zam 242 (.pointer (some ⟨b,0,none⟩)) o root (Zbp id room q why p t i).2.1 room (Zbp id room q why p t i).1]):=Zqt (P:=fun t=>∀ i,Rep id q t i→FnG prog 185 1 [.is (.pointer (some ⟨b,0,none⟩)),.int .i64 i,.agg (Zx p)] [Zam 242 (.pointer (some ⟨b,0,none⟩)) o root why room q] (.int .i64 (Zbp id room q why p t i).2.2) (fun _=>[Zam 242 (.pointer (some ⟨b,0,none⟩)) o root (Zbp id room q why p t i).2.1 room (Zbp id room q why p t i).1])) (fun t ih i hr=>Zp4 b o root why room q p t ih i hr) t i hr
theorem ZnD (b:Nat) (o:Option Nat) (root why room:Int) (q:List Cell) (t:Z5) (ih:∀ t',Zw t' < Zw t → ∀ i,Rep id q t' i→FnG prog 248 1 [.is (.pointer (some ⟨b,0,none⟩)),.int .i64 i] [Zam 242 (.pointer (some ⟨b,0,none⟩)) o root why room q] (.tup [.agg (Zx (ZZ id room q why t' i).1),.int .i64 (ZZ id room q why t' i).2.2.2]) (fun _=>[Zam 242 (.pointer (some ⟨b,0,none⟩)) o root (ZZ id room q why t' i).2.2.1 room (ZZ id room q why t' i).2.1])) (i:Int) (hr:Rep id q t i):FnG prog 248 1 [.is (.pointer (some ⟨b,0,none⟩)),.int .i64 i] [Zam 242 (.pointer (some ⟨b,0,none⟩)) o root why room q] (.tup [.agg (Zx (ZZ id room q why t i).1),.int .i64 (ZZ id room q why t i).2.2.2]) (fun _=>[Zam 242 (.pointer (some ⟨b,0,none⟩)) o root (ZZ id room q why t i).2.2.1 room (ZZ id room q why t i).2.1]):=by
 refine FnG.mk func248 Z ntmps248 Z kr fun B F0 a w F V hG O=>?_
 obtain ⟨F,O⟩:=O.peel 1 4 Z rfl
 obtain ⟨F,O⟩:=O.peel 1 5 Z rfl
 obtain ⟨F,O⟩:=O.nM [1,0] [5,4,0]
 refine Ya (Zb O (qf (oH [.int .i64 0,.int .i64 0] 101) trivial qz (qI qZ)) V [5,4,1,0] [101,5,4,0] (fun _=>rfl) (fun _=>rfl) fun τ a w F O=>?_)
 try dsimp only [RS.sub,SF.sub,CF.sub,csub,Anc.sub,List.map,zCF,ZW,Zx,ZD] at O
 generalize τ 4=v4 at O
 refine Za (Ya (Zb O (qR rr (qf (o_nilCheck 4 .is (by rfl)) r1 r1 (qf (oF 0 4 .adr) r1 r1 (qf (oL true 2 4 .adr) r1 r1 (qR rr (qf (o_callG1 5 (Za6 o room q root i) func107 Z kr (Args.two (.pagg .t) .t)) r2 r1 (qf (oH [.int .i64 0,.int .i64 0,.int .i64 0,.int .i64 0,.int .i64 0,.int .i64 0] 102) trivial qz (qf (oA 6 102 .same (.conv .t .agg)) r2 r1 qZ)))))))) V [6,5,4,0] [102,101,5,4,0] (fun _=>rfl) (fun _=>rfl) fun τ a w F O=>?_))
 try dsimp only [RS.sub,SF.sub,CF.sub,csub,Anc.sub,List.map,Ze,xL,xM,Nat.reduceAdd,xD,xE,xT,xU,xC,xN,zCF,ldSF,ZW,Zx,ZD] at O
 generalize τ 6=v6 at O
 refine Za (Ya (Ya (rZ O (qg 0 102 r1 r1 (qa 102 r1 r1 (qf (o_eql .t qi) r1 qz qZ))) V [17,6,5,4,0] [102,101,5,4,0] fun O=>?_)))
 refine Zd O Z (fun hc0=>?_) (fun hc0=>?_)
 ·have hz:(getC q i).left=0:=by simpa using hc0
  have hg:(ZZ id room q why t i)=(ZD id (getC q i),q,why,(getC q i).right):=by cases t with | nil=>rfl | node l x r=>exact Yd hz
  refine Ya (Zq O (qe 6 102 r1 r1 (qf (oP (Zcs (getC q i)) func247 (Args.one (.pagg .t))) r1 qz (qg 1 102 r1 r1 (qa 102 r1 r1 (qf (oA 2 101 .is (.conv .t .agg)) r2 r1 (qO rr qZ)))))) V [6,5,4,0] [102,101,5,4,0] Z Z fun a w F O=>?_)
  try dsimp only [List.map,Ze,xL,xM,Nat.reduceAdd,xD,xE,xT,xU,xC,xN,zCF,ldSF,ZW,Zx,ZD] at O
  refine Za (Yi (Zk ?_))
  have O:=O.fresh 1 rfl
  obtain ⟨F,O⟩:=O.push 1 5 Z Z Z kr
  obtain ⟨F,O⟩:=O.push 1 4 Z Z Z kr
  have O:=O.turn 1 Z (r':=RS.hp (Zam 242 (.pointer (some ⟨b,0,none⟩)) o root (ZZ id room q why t i).2.2.1 room (ZZ id room q why t i).2.1)) (fun _ _ _ _ h=>by rw [hg];exact h)
  refine ZA hG O Z (.cl 101 true 2 Z Z (.tmp Z .nil)) (.two (.aggU Z (by rw [hg];rfl)) (.int (by first | (rw [hg];done) | (rw [hg];rfl)))) rfl
 have hz:¬ (getC q i).left=0:=by simpa using hc0
 obtain ⟨l,x,r,ht⟩:=hr.node (fun h=>hz (by rw [h,Ze4];rfl))
 have hn:Rep id q (.node l x r) i:=by rw [← ht];exact hr
 have hkx:=hn.2.2.2.1
 have hg:(ZZ id room q why t i)=((ZZ id room q why l (getC q i).left).1,ZaC id room (ZZ id room q why l (getC q i).left).2.1 (ZZ id room q why l (getC q i).left).2.2.1 (ZZ id room q why l (getC q i).left).2.2.2 (getC q i).right (ZD id (getC q i))):=by rw [ht];exact Yc hz
 refine Yf (Za (Ya ?_))
 have O:=O.fresh 1 rfl
 obtain ⟨F,O⟩:=O.push 1 5 Z Z Z kr
 obtain ⟨F,O⟩:=O.push 1 4 Z Z Z kr
 have O:=O.turn 1 Z (r':=RS.hp (Zam 242 (.pointer (some ⟨b,0,none⟩)) o root why room q)) (fun _ _ _ _ h=>h)
 obtain ⟨F,O⟩:=O.nM [17,6,5,4,0] [102,101,1,0]
 refine Zb O (qR rr (qg 0 102 r1 r1 (qa 102 r1 r1 (qf (o_callG1 1 (ih l (by rw [ht];exact Zjd) (getC q i).left hn.2.1) func248 Z kr (Args.two .t .t)) r2 r1 (qR rr (qf (o_extract .t Z) r1 qz (qf (o_extract .t Z) r1 qz (qf (oH [.int .i64 0,.int .i64 0] 103) trivial qz (qf (oA 2 103 .same (.conv .t .agg)) r2 r1 (qO rr qZ)))))))))) V [8,7,6,5,4,0] [103,102,101,1,0] (fun _=>rfl) (fun _=>rfl) fun τ a w F O=>?_
 try dsimp only [RS.sub,SF.sub,CF.sub,csub,Anc.sub,List.map,Ze,xL,xM,Nat.reduceAdd,xD,xE,xT,xU,xC,xN,zCF,ldSF,ZW,Zx,ZD] at O
 generalize τ 7=v7 at O
 refine Za (Ya (Zq O (qe 2 103 r1 r1 (qR rr (qR rr (qg 1 102 r1 r1 (qa 102 r1 r1 (qe 6 102 r1 r1 (qf (oP (Zcs (getC q i)) func247 (Args.one (.pagg .t))) r1 qz (qf (o_callG1 1 (Zef b o root (ZZ id room q why l (getC q i).left).2.2.1 room (ZZ id room q why l (getC q i).left).2.1 (ZZ id room q why l (getC q i).left).2.2.2 (getC q i).right (ZD id (getC q i))) func246 Z kr (Args.four .t .t .t .t)) r4 r1 (qs 2 101 r2 r1 (qO rr qZ)))))))))) V [5,4] [101,1,0] Z Z fun a w F O=>?_))
 try dsimp only [List.map,Ze,xL,xM,Nat.reduceAdd,xD,xE,xT,xU,xC,xN,zCF,ldSF,ZW,Zx,ZD] at O
 refine Za (Yi ?_)
 have O:=O.turn 1 Z (r':=RS.hp (Zam 242 (.pointer (some ⟨b,0,none⟩)) o root (ZZ id room q why t i).2.2.1 room (ZZ id room q why t i).2.1)) (fun _ _ _ _ h=>by rw [hg];exact h)
 refine ZA hG O Z (.cl 101 true 2 Z Z (.tmp Z .nil)) (.two (.aggU Z (by rw [hg];rfl)) (.int (by first | (rw [hg];done) | (rw [hg];rfl)))) rfl
theorem Znj (b:Nat) (o:Option Nat) (root why room:Int) (q:List Cell) (t:Z5) (i:Int) (hr:Rep id q t i):FnG prog 248 1 [.is (.pointer (some ⟨b,0,none⟩)),.int .i64 i] [Zam 242 (.pointer (some ⟨b,0,none⟩)) o root why room q] (.tup [.agg (Zx (ZZ id room q why t i).1),.int .i64 (ZZ id room q why t i).2.2.2]) (fun _=>[Zam 242 (.pointer (some ⟨b,0,none⟩)) o root (ZZ id room q why t i).2.2.1 room (ZZ id room q why t i).2.1]):=Zqt (P:=fun t=>∀ i,Rep id q t i→FnG prog 248 1 [.is (.pointer (some ⟨b,0,none⟩)),.int .i64 i] [Zam 242 (.pointer (some ⟨b,0,none⟩)) o root why room q] (.tup [.agg (Zx (ZZ id room q why t i).1),.int .i64 (ZZ id room q why t i).2.2.2]) (fun _=>[Zam 242 (.pointer (some ⟨b,0,none⟩)) o root (ZZ id room q why t i).2.2.1 room (ZZ id room q why t i).2.1])) (fun t ih i hr=>ZnD b o root why room q t ih i hr) t i hr
theorem ZpS (b:Nat) (o:Option Nat) (root why room:Int) (q:List Cell) (k:Int) (t:Z5) (ih:∀ t',Zw t' < Zw t → ∀ i,Rep id q t' i→Zig k t' → FnG prog 184 1 [.is (.pointer (some ⟨b,0,none⟩)),.int .i64 i,.int .i64 k] [Zam 242 (.pointer (some ⟨b,0,none⟩)) o root why room q] (.int .i64 (Za9 id room q why k t' i).2.2) (fun _=>[Zam 242 (.pointer (some ⟨b,0,none⟩)) o root (Za9 id room q why k t' i).2.1 room (Za9 id room q why k t' i).1])) (i:Int) (hr:Rep id q t i) (hh:Zig k t):FnG prog 184 1 [.is (.pointer (some ⟨b,0,none⟩)),.int .i64 i,.int .i64 k] [Zam 242 (.pointer (some ⟨b,0,none⟩)) o root why room q] (.int .i64 (Za9 id room q why k t i).2.2) (fun _=>[Zam 242 (.pointer (some ⟨b,0,none⟩)) o root (Za9 id room q why k t i).2.1 room (Za9 id room q why k t i).1]):=by
 refine FnG.mk func184 Z ntmps184 Z kr fun B F0 a w F V hG O=>?_
 obtain ⟨l,x,r,ht⟩:∃ l x r,t = .node l x r:=by cases t with | nil=>exact hh.elim | node l x r=>exact ⟨l,x,r,rfl⟩
 have hn:Rep id q (.node l x r) i:=by rw [← ht];exact hr
 have hkx:=hn.2.2.2.1
 obtain ⟨F,O⟩:=O.peel 1 4 Z rfl
 obtain ⟨F,O⟩:=O.peel 1 5 Z rfl
 obtain ⟨F,O⟩:=O.nM [2,1,0] [5,4,0]
 refine Ya (rZ O (qI qZ) V [6,2,1,0] [5,4,0] fun O=>Ya ?_)
 refine Zb O (qR rr (qf (o_nilCheck 4 .is (by rfl)) r1 r1 (qf (oF 0 4 .adr) r1 r1 (qf (oL true 2 4 .adr) r1 r1 (qR rr (qf (o_callG1 5 (Za6 o room q root i) func107 Z kr (Args.two (.pagg .t) .t)) r2 r1 (qf (oH [.int .i64 0,.int .i64 0,.int .i64 0,.int .i64 0,.int .i64 0,.int .i64 0] 101) trivial qz (qf (oA 6 101 .same (.conv .t .agg)) r2 r1 qZ)))))))) V [7,6,2,0] [101,5,4,0] (fun _=>rfl) (fun _=>rfl) fun τ a w F O=>?_
 try dsimp only [RS.sub,SF.sub,CF.sub,csub,Anc.sub,List.map,Ze,xL,xM,Nat.reduceAdd,xD,xE,xT,xU,xC,xN,zCF,ldSF,ZW,Zx,ZD] at O
 generalize τ 7=v7 at O
 refine Za (Ya (Ye (Ya (rZ O (qR rr (qg 2 101 r1 r1 (qa 101 r1 r1 (qf (ZaG .t .t) r2 qz (qO rr qZ))))) V [16,7,6,2,0] [101,5,4,0] fun O=>?_))))
 refine Zd O Z (fun hc0=>?_) (fun hc0=>?_)
 ·have h1:(k<(getC q i).key):=by simp only [Yj,Yh] at hc0;omega
  have h9:Zig k l:=by rw [ht] at hh;unfold Zig at hh;rwa [Yd ow] at hh
  have hg:(Za9 id room q why k t i)=(ZaC id room (Za9 id room q why k l (getC q i).left).1 (Za9 id room q why k l (getC q i).left).2.1 (Za9 id room q why k l (getC q i).left).2.2 (getC q i).right (ZD id (getC q i))):=by rw [ht]; (conv=>lhs;unfold Za9);rw [Yd h1] <;> rfl
  refine Ya ?_
  have O:=O.fresh 1 rfl
  obtain ⟨F,O⟩:=O.push 1 5 Z Z Z kr
  obtain ⟨F,O⟩:=O.push 1 4 Z Z Z kr
  have O:=O.turn 1 Z (r':=RS.hp (Zam 242 (.pointer (some ⟨b,0,none⟩)) o root why room q)) (fun _ _ _ _ h=>h)
  obtain ⟨F,O⟩:=O.nM [16,7,6,2,0] [101,1,0]
  refine Zq O (qR rr (qR rr (qg 0 101 r1 r1 (qa 101 r1 r1 (qR rr (qf (o_callG1 1 (ih l (by rw [ht];exact Zjd) (getC q i).left hn.2.1 h9) func184 Z kr (Args.three .t .t .t)) r3 r1 (qg 1 101 r1 r1 (qa 101 r1 r1 (qe 6 101 r1 r1 (qf (oP (Zcs (getC q i)) func247 (Args.one (.pagg .t))) r1 qz (qf (o_callG1 1 (Zef b o root (Za9 id room q why k l (getC q i).left).2.1 room (Za9 id room q why k l (getC q i).left).1 (Za9 id room q why k l (getC q i).left).2.2 (getC q i).right (ZD id (getC q i))) func246 Z kr (Args.four .t .t .t .t)) r4 r1 (qO rr qZ)))))))))))) V [7,6,0] [101,1,0] Z Z fun a w F O=>?_
  try dsimp only [List.map,xD,xE,xT,xU,ldSF,ZW,Zx,ZD] at O
  refine Za (Yi (ZC (Zk ?_)))
  have O:=O.turn 1 Z (r':=RS.hp (Zam 242 (.pointer (some ⟨b,0,none⟩)) o root (Za9 id room q why k t i).2.1 room (Za9 id room q why k t i).1)) (fun _ _ _ _ h=>by rw [hg];exact h)
  refine ZA hG O Z (.tmp Z .nil) (.one (.int (by first | (rw [hg];done) | (rw [hg];rfl)))) rfl
 have h1:¬ (k<(getC q i).key):=by simp only [Yj,Yh] at hc0;omega
 refine Ya (rZ O (qR rr (qg 2 101 r1 r1 (qa 101 r1 r1 (qf (Zas .t .t) r2 qz (qO rr qZ))))) V [32,7,6,2,0] [101,5,4,0] fun O=>?_)
 refine Zd O Z (fun hc1=>?_) (fun hc1=>?_)
 ·have h2:((getC q i).key<k):=by simp only [Yj,Yh] at hc1;omega
  have h9:Zig k r:=by rw [ht] at hh;unfold Zig at hh;rwa [Yc ow,Yd ow] at hh
  have hg:(Za9 id room q why k t i)=(ZaC id room (Za9 id room q why k r (getC q i).right).1 (Za9 id room q why k r (getC q i).right).2.1 (getC q i).left (Za9 id room q why k r (getC q i).right).2.2 (ZD id (getC q i))):=by rw [ht]; (conv=>lhs;unfold Za9);rw [Yc h1,Yd h2] <;> rfl
  refine Ya ?_
  have O:=O.fresh 1 rfl
  obtain ⟨F,O⟩:=O.push 1 5 Z Z Z kr
  obtain ⟨F,O⟩:=O.push 1 4 Z Z Z kr
  have O:=O.turn 1 Z (r':=RS.hp (Zam 242 (.pointer (some ⟨b,0,none⟩)) o root why room q)) (fun _ _ _ _ h=>h)
  obtain ⟨F,O⟩:=O.nM [32,7,6,2,0] [101,1,0]
  refine Zq O (qR rr (qg 0 101 r1 r1 (qa 101 r1 r1 (qR rr (qg 1 101 r1 r1 (qa 101 r1 r1 (qR rr (qf (o_callG1 1 (ih r (by rw [ht];exact Zl2) (getC q i).right hn.2.2.1 h9) func184 Z kr (Args.three .t .t .t)) r3 r1 (qe 6 101 r1 r1 (qf (oP (Zcs (getC q i)) func247 (Args.one (.pagg .t))) r1 qz (qf (o_callG1 1 (Zef b o root (Za9 id room q why k r (getC q i).right).2.1 room (Za9 id room q why k r (getC q i).right).1 (getC q i).left (Za9 id room q why k r (getC q i).right).2.2 (ZD id (getC q i))) func246 Z kr (Args.four .t .t .t .t)) r4 r1 (qO rr qZ)))))))))))) V [7,6,0] [101,1,0] Z Z fun a w F O=>?_
  try dsimp only [List.map,xD,xE,xT,xU,ldSF,ZW,Zx,ZD] at O
  refine Za (Yi (ZC (Zk ?_)))
  have O:=O.turn 1 Z (r':=RS.hp (Zam 242 (.pointer (some ⟨b,0,none⟩)) o root (Za9 id room q why k t i).2.1 room (Za9 id room q why k t i).1)) (fun _ _ _ _ h=>by rw [hg];exact h)
  refine ZA hG O Z (.tmp Z .nil) (.one (.int (by first | (rw [hg];done) | (rw [hg];rfl)))) rfl
 have h2:¬ ((getC q i).key<k):=by simp only [Yj,Yh] at hc1;omega
 refine Ya (rZ O (qg 0 101 r1 r1 (qa 101 r1 r1 (qf (o_eql .t qi) r1 qz (qO rr qZ)))) V [48,7,6,0] [101,5,4,0] fun O=>?_)
 refine Zd O Z (fun hc2=>?_) (fun hc2=>?_)
 ·have hz:(getC q i).left=0:=by simpa using hc2
  have hg:(Za9 id room q why k t i)=(q,why,(getC q i).right):=by rw [ht]; (conv=>lhs;unfold Za9);rw [Yc h1,Yc h2,Yd hz] <;> rfl
  refine Ya (rZ O (qg 1 101 r1 r1 (qa 101 r1 r1 (qO rr qZ))) V [7,6,0] [101,5,4,0] fun O=>(Yi (ZC (Zk ?_))))
  have O:=O.fresh 1 rfl
  obtain ⟨F,O⟩:=O.push 1 5 Z Z Z kr
  obtain ⟨F,O⟩:=O.push 1 4 Z Z Z kr
  have O:=O.turn 1 Z (r':=RS.hp (Zam 242 (.pointer (some ⟨b,0,none⟩)) o root (Za9 id room q why k t i).2.1 room (Za9 id room q why k t i).1)) (fun _ _ _ _ h=>by rw [hg];exact h)
  refine ZA hG O Z (.tmp Z .nil) (.one (.int (by first | (rw [hg];done) | (rw [hg];rfl)))) rfl
 have hz:¬ (getC q i).left=0:=by simpa using hc2
 refine Ya (rZ O (qg 1 101 r1 r1 (qa 101 r1 r1 (qf (o_eql .t qi) r1 qz (qO rr qZ)))) V [54,7,6,0] [101,5,4,0] fun O=>?_)
 refine Zd O Z (fun hc3=>?_) (fun hc3=>?_)
 ·have hz2:(getC q i).right=0:=by simpa using hc3
  have hg:(Za9 id room q why k t i)=(q,why,(getC q i).left):=by rw [ht]; (conv=>lhs;unfold Za9);rw [Yc h1,Yc h2,Yc hz,Yd hz2] <;> rfl
  refine Ya (rZ O (qg 0 101 r1 r1 (qa 101 r1 r1 (qO rr qZ))) V [7,6,0] [101,5,4,0] fun O=>(Yi (ZC (Zk ?_))))
  have O:=O.fresh 1 rfl
  obtain ⟨F,O⟩:=O.push 1 5 Z Z Z kr
  obtain ⟨F,O⟩:=O.push 1 4 Z Z Z kr
  have O:=O.turn 1 Z (r':=RS.hp (Zam 242 (.pointer (some ⟨b,0,none⟩)) o root (Za9 id room q why k t i).2.1 room (Za9 id room q why k t i).1)) (fun _ _ _ _ h=>by rw [hg];exact h)
  refine ZA hG O Z (.tmp Z .nil) (.one (.int (by first | (rw [hg];done) | (rw [hg];rfl)))) rfl
 have hz2:¬ (getC q i).right=0:=by simpa using hc3
 have hg:(Za9 id room q why k t i)=(ZaC id room (ZZ id room q why r (getC q i).right).2.1 (ZZ id room q why r (getC q i).right).2.2.1 (getC q i).left (ZZ id room q why r (getC q i).right).2.2.2 (ZZ id room q why r (getC q i).right).1):=by rw [ht]; (conv=>lhs;unfold Za9);rw [Yc h1,Yc h2,Yc hz,Yc hz2] <;> rfl
 refine Yf (Zm (Za (Ya ?_)))
 have O:=O.fresh 1 rfl
 obtain ⟨F,O⟩:=O.push 1 5 Z Z Z kr
 obtain ⟨F,O⟩:=O.push 1 4 Z Z Z kr
 have O:=O.turn 1 Z (r':=RS.hp (Zam 242 (.pointer (some ⟨b,0,none⟩)) o root why room q)) (fun _ _ _ _ h=>h)
 obtain ⟨F,O⟩:=O.nM [54,7,6,0] [101,1,0]
 refine Zb O (qR rr (qg 1 101 r1 r1 (qa 101 r1 r1 (qf (o_callG1 1 (Znj b o root why room q r (getC q i).right hn.2.2.1) func248 Z kr (Args.two .t .t)) r2 r1 (qR rr (qf (o_extract .t Z) r1 qz (qf (o_extract .t Z) r1 qz (qf (oH [.int .i64 0,.int .i64 0] 102) trivial qz (qf (oA 2 102 .same (.conv .t .agg)) r2 r1 (qO rr qZ)))))))))) V [9,8,7,6,0] [102,101,1,0] (fun _=>rfl) (fun _=>rfl) fun τ a w F O=>?_
 try dsimp only [RS.sub,SF.sub,CF.sub,csub,Anc.sub,List.map,Ze,xL,xM,Nat.reduceAdd,xD,xE,xT,xU,xC,xN,zCF,ldSF,ZW,Zx,ZD] at O
 generalize τ 8=v8 at O
 refine Za (Ya (rZ O (qR rr (qg 0 101 r1 r1 (qa 101 r1 r1 (qR rr (qe 2 102 r1 r1 (qf (o_callG1 1 (Zef b o root (ZZ id room q why r (getC q i).right).2.2.1 room (ZZ id room q why r (getC q i).right).2.1 (getC q i).left (ZZ id room q why r (getC q i).right).2.2.2 (ZZ id room q why r (getC q i).right).1) func246 Z kr (Args.four .t .t .t (.pagg .t))) r4 r1 (qO rr qZ))))))) V [6] [1,0] fun O=>Yi ?_))
 have O:=O.turn 1 Z (r':=RS.hp (Zam 242 (.pointer (some ⟨b,0,none⟩)) o root (Za9 id room q why k t i).2.1 room (Za9 id room q why k t i).1)) (fun _ _ _ _ h=>by rw [hg];exact h)
 refine ZA hG O Z (.tmp Z .nil) (.one (.int (by first | (rw [hg];done) | (rw [hg];rfl)))) rfl
theorem Zp2 (b:Nat) (o:Option Nat) (root why room:Int) (q:List Cell) (k:Int) (t:Z5) (i:Int) (hr:Rep id q t i) (hh:Zig k t):FnG prog 184 1 [.is (.pointer (some ⟨b,0,none⟩)),.int .i64 i,.int .i64 k] [Zam 242 (.pointer (some ⟨b,0,none⟩)) o root why room q] (.int .i64 (Za9 id room q why k t i).2.2) (fun _=>[Zam 242 (.pointer (some ⟨b,0,none⟩)) o root (Za9 id room q why k t i).2.1 room (Za9 id room q why k t i).1]):=Zqt (P:=fun t=>∀ i,Rep id q t i→Zig k t→FnG prog 184 1 [.is (.pointer (some ⟨b,0,none⟩)),.int .i64 i,.int .i64 k] [Zam 242 (.pointer (some ⟨b,0,none⟩)) o root why room q] (.int .i64 (Za9 id room q why k t i).2.2) (fun _=>[Zam 242 (.pointer (some ⟨b,0,none⟩)) o root (Za9 id room q why k t i).2.1 room (Za9 id room q why k t i).1])) (fun t ih i hr=>ZpS b o root why room q k t ih i hr) t i hr hh
def Zm7 (a b:Int):Int:=if a<b then -1 else if b<a then 1 else 0
theorem cmpI_zero {a b:Int} : Zm7 a b=0 ↔ a=b:=by unfold Zm7;split;omega;split <;> omega
theorem cmpI_neg {a b:Int} : Zm7 a b = -1 ↔ a<b:=by unfold Zm7;split;omega;split <;> omega
def Zby (k:Int):Z5→Int×Bool
 | .nil=>(0,false)
 | .node l p r=>if k<p.key then Zby k l else if p.key<k then Zby k r else (p.val,true)
theorem Zly (x:Int):FnP prog 175 [.int .i64 x] (.bool false):=by
 refine FnP.mk func175 Z ntmps175 Z fun B a w F V hfr O=>Ya ?_
 refine rZ O qB V [2,0] [0] fun O=>Ya ?_
 refine rZ O (qR rr (qR rr (qf (o_neq .t .t) r2 qz (qO rr qZ)))) V [2] [0] fun O=>Yi ?_
 refine ZP hfr O Z Z Z (.bool (by simp))
theorem Zqn (x y:Int):FnP prog 108 [.int .i64 x,.int .i64 y] (.int .i64 (Zm7 x y)):=by
 refine FnP.mk func108 Z ntmps108 Z fun B a w F V hfr O=>Ya ?_
 refine rZ O (qI qZ) V [4,1,0] [0] fun O=>Ya ?_
 refine rZ O (qR rr (qf (oP (Zly x) func175 (Args.one .t)) r1 qz (qO rr qZ))) V [5,4,1,0] [0] fun O=>Ya ?_
 refine rZ O (qR rr (qf (oP (Zly y) func175 (Args.one .t)) r1 qz (qO rr qZ))) V [6,5,4,1,0] [0] fun O=>(Ya (Ya ?_))
 refine rZ O (qR rr qZ) V [11,6,4,1,0] [0] fun O=>?_
 refine Zd O Z (fun hc0=>?_) (fun hc0=>?_)
 ·simp at hc0
 refine Yf (Za (Ya (Ya (rZ O (qR rr qZ) V [13,4,1,0] [0] fun O=>?_))))
 refine Zd O Z (fun hc1=>?_) (fun hc1=>?_)
 ·simp at hc1
 refine Yf (Za (Ya (Ya (rZ O (qR rr (qR rr (qL r2))) V [16,4,1,0] [0] fun O=>?_))))
 refine Zd O Z (fun hc2=>?_) (fun hc2=>?_)
 ·have hg:(-1:Int)=Zm7 x y:=(cmpI_neg.2 (by simpa using hc2)).symm
  refine Ya (rZ O (qI qZ) V [4,1,0] [0] fun O=>(Yi (Zk ?_)))
  refine ZP hfr O Z Z Z (.int hg)
 have h1:¬ x<y:=by simpa using hc2
 refine Yf (Za (Ya (Ya (rZ O (qR rr (qR rr (qf (Zas .t .t) r2 qz qZ))) V [19,4] [0] fun O=>?_))))
 refine Zd O Z (fun hc3=>?_) (fun hc3=>?_)
 ·have h2:y<x:=by simpa using hc3
  have hg:(1:Int)=Zm7 x y:=by unfold Zm7;rw [Yc h1,Yd h2]
  refine Ya (rZ O (qI qZ) V [4] [0] fun O=>(Yi (Zk ?_)))
  refine ZP hfr O Z Z Z (.int hg)
 have h2:¬ y<x:=by simpa using hc3
 have hg:(0:Int)=Zm7 x y:=by unfold Zm7;rw [Yc h1,Yc h2]
 refine Yf (Za (Ya (rZ O (qI qZ) V [4] [0] fun O=>Yi ?_)))
 refine ZP hfr O Z Z Z (.int hg)
theorem Zpl (o:Option Nat) (room:Int) (q:List Cell) (root:Int):FnG prog 117 1 [.agg [.is (arV o),.int .i64 root]] [arH o room q] (.int .i64 (getC q root).high) (fun _=>[arH o room q]):=by
 refine FnG.mk func117 Z ntmps117 Z kr fun B F0 a w F V hG O=>Ya ?_
 refine Zb O (qx 101 r1 (qI qZ)) V [2,1] [101,1,0] (fun _=>rfl) (fun _=>rfl) fun τ a w F O=>?_
 try dsimp only [RS.sub,SF.sub,CF.sub,csub,Anc.sub,List.map,zCF,ZW,Zx] at O
 generalize τ 1=v1 at O
 refine Za (Ya (rZ O (qe 2 101 r1 r1 (qg 1 101 r1 r1 (qa 101 r1 r1 (qf (o_callG1 1 (Za6 o room q root root) func107 Z kr (Args.two (.pagg .t) .t)) r2 r1 (qf (ZdO (ft:=3) (off:=5) kr kr .t Z) r1 qz (qO rr qZ)))))) V [2] [1,0] fun O=>Yi ?_))
 refine ZA hG O Z (.tmp Z .nil) (.one (.int Z)) rfl
theorem Zoh (o:Option Nat) (room:Int) (q:List Cell) (root:Int) (k:Int) (t0:Z5) (hr0:Rep id q t0 root):FnG prog 53 1 [.agg [.is (arV o),.int .i64 root],.int .i64 k] [arH o room q] (.tup [.int .i64 (Zby k t0).1,.bool (Zby k t0).2]) (fun _=>[arH o room q]):=by
 refine FnG.mk func53 Z ntmps53 Z kr fun B F0 a w F V hG O=>Ya ?_
 refine Zb O (qx 101 r1 (qI qB)) V [5,4,2,1] [101,1,0] (fun _=>rfl) (fun _=>rfl) fun τ a w F O=>?_
 try dsimp only [RS.sub,SF.sub,CF.sub,csub,Anc.sub,List.map,zCF,ZW,Zx] at O
 generalize τ 2=v2 at O
 refine Za (Ya (Ya (rZ O (qg 1 101 r1 r1 (qa 101 r1 r1 (qO rr qZ))) V [6,5,4,2,1] [101,1,0] fun O=>Ye ?_)))
 refine Zo (σ:=Int×Z5) [1,2,4,5] [0,1,101] (fun s=>[(6,.pv (.int .i64 s.1))]) (fun s=>[]) (fun s=>Rep id q s.2 s.1∧Zby k s.2=Zby k t0) (fun s=>(Zw s.2).toNat) ((root),(t0)) O ⟨rfl,rfl,rfl,rfl,rfl,tv⟩ ⟨rfl,rfl,rfl,tv⟩ ⟨hr0,rfl⟩ ?_
 clear O;intro s a w F hC O
 obtain ⟨i,t⟩:=s
 try dsimp only at hC
 obtain ⟨F,O⟩:=O.nM [6,5,4,2,1] [101,1,0]
 try dsimp only at O
 obtain ⟨hr,hk⟩:=hC
 refine Ya (Ya (rZ O (qR rr (qf (Zas .t qi) r1 qz qZ)) V [11,6,5,4,2,1] [101,1,0] fun O=>?_))
 refine Zd O Z (fun hc0=>?_) (fun hc0=>?_)
 ·have hi:0<i:=by simpa using hc0
  obtain ⟨l,x,r,ht⟩:=hr.node (show i≠0 by omega)
  rw [ht] at hr hk
  have hkx:=hr.2.2.2.1
  refine Yf (Za (Ye (Ya (Zb O (qe 2 101 r1 r1 (qR rr (qf (o_callG1 1 (Za6 o room q root i) func107 Z kr (Args.two (.pagg .t) .t)) r2 r1 (qf (oH [.int .i64 0,.int .i64 0,.int .i64 0,.int .i64 0,.int .i64 0,.int .i64 0] 102) trivial qz (qf (oA 6 102 .same (.conv .t .agg)) r2 r1 qZ))))) V [7,6,5,4,2,1] [102,101,1,0] (fun _=>rfl) (fun _=>rfl) fun τ a w F O=>?_))))
  try dsimp only [RS.sub,SF.sub,CF.sub,csub,Anc.sub,List.map,Ze,xL,xM,Nat.reduceAdd,xD,xE,xT,xU,xC,xN,zCF,ldSF,ZW,Zx] at O
  generalize τ 7=v7 at O
  refine Za (Ya (rZ O (qR rr (qg 2 102 r1 r1 (qa 102 r1 r1 (qf (oP (Zqn k (getC q i).key) func108 (Args.two .t .t)) r2 qz qZ)))) V [18,7,6,5,4,2,1] [102,101,1,0] fun O=>(Ye (Ya ?_))))
  refine rZ O (qf (o_eql .t qi) r1 qz (qO rr qZ)) V [21,18,7,6,5,4,2,1] [102,101,1,0] fun O=>?_
  refine Zd O Z (fun hc1=>?_) (fun hc1=>?_)
  ·have h1:k=x.key:=by rw [← hkx];exact cmpI_zero.1 (by simpa using hc1)
   have hg:Zby k t0=((getC q i).val,true):=by rw [← hk];unfold Zby;rw [Yc ow,Yc ow,hr.2.2.2.2.2.1]
   refine Ya (rZ O (qg 3 102 r1 r1 (qa 102 r1 r1 (qO rr qB))) V [6,5,4,2,1] [101,1,0] fun O=>(Yi (ZC (ZC (Zk (ZC (Zk ?_)))))))
   refine ZA hG O Z (.tmp Z (.tmp Z .nil)) (.two (.int (by rw [hg])) (.bool (by rw [hg]))) rfl
  have h1:¬ k=x.key:=by rw [← hkx];intro hh;simp [cmpI_zero.2 hh] at hc1
  refine Ya (rZ O (qf (o_eql .t qi) r1 qz (qO rr qZ)) V [25,7,6,5,4,2,1] [102,101,1,0] fun O=>?_)
  refine Zd O Z (fun hc2=>?_) (fun hc2=>?_)
  ·have h2:k<x.key:=by rw [← hkx];exact cmpI_neg.1 (by simpa using hc2)
   obtain ⟨t2,ht2⟩:∃ t2,t2=l:=⟨_,rfl⟩
   have hC2:Rep id q t2 (getC q i).left∧Zby k t2=Zby k t0:=⟨by rw [ht2];exact hr.2.1,by rw [← hk,ht2];exact (Yd h2).symm⟩
   have hmu:(Zw t2).toNat<(Zw t).toNat:=by rw [ht];rw [ht2];have:=ZI l;have:=ZI r;show _<(Zw l+Zw r+1).toNat;omega
   refine Zf O (qg 0 102 r1 r1 (qa 102 r1 r1 (qO rr qZ))) V [6,5,4,2,1] [101,1,0] Z Z fun a w F O=>Zm (Zm (Za ?_))
   obtain ⟨F,O⟩:=O.nM [5,4,2,1,6] [101,1,0]
   exact ⟨(_,(t2)),F,hC2,O,hmu⟩
  have h2:¬ k<x.key:=by rw [← hkx];intro hh;simp [cmpI_neg.2 hh] at hc2
  obtain ⟨t2,ht2⟩:∃ t2,t2=r:=⟨_,rfl⟩
  have hC2:Rep id q t2 (getC q i).right∧Zby k t2=Zby k t0:=⟨by rw [ht2];exact hr.2.2.1,by rw [← hk,ht2];exact ((Yc h2).trans (Yd ow)).symm⟩
  have hmu:(Zw t2).toNat<(Zw t).toNat:=by rw [ht];rw [ht2];have:=ZI l;have:=ZI r;show _<(Zw l+Zw r+1).toNat;omega
  refine Zf O (qg 1 102 r1 r1 (qa 102 r1 r1 (qO rr qZ))) V [6,5,4,2,1] [101,1,0] Z Z fun a w F O=>Zm (Zm (Za ?_))
  obtain ⟨F,O⟩:=O.nM [5,4,2,1,6] [101,1,0]
  exact ⟨(_,(t2)),F,hC2,O,hmu⟩
 have hi:¬ 0<i:=by simpa using hc0
 have hi0:=hr.range
 have hi2:i=0:=by omega
 subst hi2
 have hg:Zby k t0=(0,false):=by rw [← hk,hr.zero];rfl
 refine Yr (Zj (Zj (Zv (Za (Ya (rZ O (qI qB) V [5,4] [1,0] fun O=>Yi ?_))))))
 refine ZA hG O Z (.tmp Z (.tmp Z .nil)) (.two (.int (by rw [hg])) (.bool (by rw [hg]))) rfl
theorem Zd8 {k:Int} : ∀ {t:Z5},(Zby k t).2=true ↔ Zig k t
 | .nil=>by simp [Zby,Zig]
 | .node l p r=>by
  have hl:=@Zd8 k l
  have hr:=@Zd8 k r
  unfold Zby Zig
  split
  ·exact hl
  ·split
   ·exact hr
   ·simp
def Zcn (n:Nat) (m:St):St:=(if m.2.1≠0 then Zb5 m.1 n else m.1,m.2.1,if m.2.1≠0 then 0 else m.2.2)
def Zoi (room:Int) (q:List Cell) (p:Zz) (t:Z5) (root:Int):St:=Zcn q.length (Zbp id room q 0 p t root)
def Zl0 (room:Int) (q:List Cell) (k:Int) (t:Z5) (root:Int):St:=if (Zby k t).2=true then Zcn q.length (Za9 id room q 0 k t root) else (q,3,0)
theorem Zc1 {kf:Int→Int} {room lo n:Int} {q:List Cell} {m:St} {t:Z5} (h:ZcY kf room q lo n m t):(∃ e:List Cell,(Zcn q.length m).1=q++e∧(Zcn q.length m).2.1=0∧Rep kf (q++e) t (Zcn q.length m).2.2∧lo≤e.length∧(e.length:Int)≤n)∨(Zcn q.length m=(q,2,0)∧room<q.length+n):=by
 obtain ⟨e,e1,e2,⟨e3,e4,e5⟩ | ⟨e3,e4⟩⟩:=h
 ·refine .inl ⟨e,?_⟩
  unfold Zcn
  rw [Yc ow,Yc ow]
  exact ⟨e1,e3,by rw [← e1];exact e4,e5,e2⟩
 ·refine .inr ⟨?_,e4⟩
  unfold Zcn
  rw [Yd ow,Yd ow,e3,e1]
  have:Zb5 (q++e) q.length=q:=by
   unfold Zb5
   rw [Yd (by simp only [Yb];omega),Yg,List.take_left]
  rw [this]
theorem Ziu (o:Option Nat):FnP prog 104 [.is (arV o)] (.agg [.is (arV o),.int .i64 0]):=by
 refine FnP.mk func104 Z ntmps104 Z fun B a w F V hfr O=>Ya ?_
 refine Zb O (qf (oH [.pointer none,.int .i64 0] 101) trivial qz qZ) V [2,0] [101,0] (fun _=>rfl) (fun _=>rfl) fun τ a w F O=>?_
 try dsimp only [RS.sub,SF.sub,CF.sub,csub,Anc.sub,List.map,zCF,ZW,Zx] at O
 generalize τ 2=v2 at O
 refine Za (Ya (rZ O (qR rr (qf (oB [(0,.tmp 3)] [.pointer none,.int .i64 0] [(0,1),(1,1)] (.one Z .t Zgn kr .nil)) r1 qz (qs 2 101 r2 r1 qZ))) V [2] [101,0] fun O=>Yi ?_))
 refine Za4 hfr O Z (.cl 101 true 2 Z Z .nil) (.one (.aggU Z Z))
theorem ZiU (b:Nat) (o:Option Nat) (root why room:Int) (q:List Cell) (rt mark:Int):FnG prog 183 1 [.is (.pointer (some ⟨b,0,none⟩)),.int .i64 rt,.int .i64 mark] [Zam 242 (.pointer (some ⟨b,0,none⟩)) o root why room q] (.tup [.agg [.is (arV o),.int .i64 (if why≠0 then 0 else rt)],.int .i64 why]) (fun _=>[Zam 242 (.pointer (some ⟨b,0,none⟩)) o root why room (if why≠0 then Zb5 q mark else q)]):=by
 refine FnG.mk func183 Z ntmps183 Z kr fun B F0 a w F V hG O=>?_
 obtain ⟨F,O⟩:=O.peel 1 4 Z rfl
 obtain ⟨F,O⟩:=O.peel 1 5 Z rfl
 obtain ⟨F,O⟩:=O.nM [2,1,0] [5,4,0]
 refine Ya (Zb O (qf (oH [.pointer none,.int .i64 0] 101) trivial qz (qI qZ)) V [7,6,2,1,0] [101,5,4,0] (fun _=>rfl) (fun _=>rfl) fun τ a w F O=>?_)
 try dsimp only [RS.sub,SF.sub,CF.sub,csub,Anc.sub,List.map,zCF,ZW,Zx] at O
 generalize τ 6=v6 at O
 refine Za (Ya (Ya (rZ O (qR rr (qf (o_nilCheck 4 .is (by rfl)) r1 r1 (qf (oF 2 4 .adr) r1 r1 (qa 4 r1 r1 (qf (o_neq .t qi) r1 qz qZ))))) V [12,7,6,2,1,0] [101,5,4,0] fun O=>?_)))
 refine Zd O Z (fun hc0=>?_) (fun hc0=>?_)
 ·have hg:(if why≠0 then Zb5 q mark else q)=Zb5 q mark:=Yd (by simpa using hc0)
  have hg2:(if why≠0 then 0 else rt)=0:=Yd (by simpa using hc0)
  refine Ya (rZ O (qR rr (qf (o_nilCheck 4 .is (by rfl)) r1 r1 (qf (oF 0 4 .adr) r1 r1 (qf (oF 0 4 .adr) r1 r1 (qa 4 r1 r1 (qR rr (qf (o_callG1 5 (Zoq o room q mark) func189 Z kr (Args.two .t .t)) r2 r1 qZ))))))) V [7,6,1,0] [101,5,4,0] fun O=>Ya ?_)
  refine Zq O (qR rr (qf (o_nilCheck 4 .is (by rfl)) r1 r1 (qf (oF 0 4 .adr) r1 r1 (qf (oF 0 4 .adr) r1 r1 (qa 4 r1 r1 (qf (oP (Ziu o) func104 (Args.one .t)) r1 qz (qR rr (qf (o_nilCheck 4 .is (by rfl)) r1 r1 (qf (oF 2 4 .adr) r1 r1 (qa 4 r1 r1 (qf (oA 2 101 .is (.conv .t .agg)) r2 r1 (qO rr qZ)))))))))))) V [7,6,1,0] [101,5,4,0] Z Z fun a w F O=>?_
  try dsimp only [List.map,Ze,xL,xM,Nat.reduceAdd,xD,xE,xT,xU,xC,xN,zCF,ldSF,ZW,Zx] at O
  refine Za (Yi (Zk ?_))
  have O:=O.fresh 1 rfl
  obtain ⟨F,O⟩:=O.push 1 5 Z Z Z kr
  obtain ⟨F,O⟩:=O.push 1 4 Z Z Z kr
  have O:=O.turn 1 Z (r':=RS.hp (Zam 242 (.pointer (some ⟨b,0,none⟩)) o root why room (if why≠0 then Zb5 q mark else q))) (fun _ _ _ _ h=>by rw [hg];exact h)
  refine ZA hG O Z (.cl 101 true 2 Z Z (.tmp Z .nil)) (.two (.aggU Z (by first | (rw [hg2];done) | (rw [hg2];rfl))) (.int (by first | rfl | exact hw))) rfl
 have hw:(0:Int)=why:=by simp at hc0;omega
 have hg:(if why≠0 then Zb5 q mark else q)=q:=Yc ow
 have hg2:(if why≠0 then 0 else rt)=rt:=Yc ow
 refine Yf (Za (Ya (rZ O (qR rr (qf (o_nilCheck 4 .is (by rfl)) r1 r1 (qf (oF 0 4 .adr) r1 r1 (qf (oF 0 4 .adr) r1 r1 (qa 4 r1 r1 (qR rr (qf (oB [(0,.tmp 34),(1,.tmp 35)] [.pointer none,.int .i64 0] [(0,1),(1,1)] (.one Z .t Zgn kr (.one Z .t one_int kr .nil))) r2 qz (qs 2 101 r2 r1 (qI qZ))))))))) V [7,6] [101,5,4,0] fun O=>Yi ?_)))
 have O:=O.fresh 1 rfl
 obtain ⟨F,O⟩:=O.push 1 5 Z Z Z kr
 obtain ⟨F,O⟩:=O.push 1 4 Z Z Z kr
 have O:=O.turn 1 Z (r':=RS.hp (Zam 242 (.pointer (some ⟨b,0,none⟩)) o root why room (if why≠0 then Zb5 q mark else q))) (fun _ _ _ _ h=>by rw [hg];exact h)
 refine ZA hG O Z (.cl 101 true 2 Z Z (.tmp Z .nil)) (.two (.aggU Z (by first | (rw [hg2];done) | (rw [hg2];rfl))) (.int (by first | rfl | exact hw))) rfl
theorem ZpM (o:Option Nat) (room:Int) (q:List Cell) (root:Int) (k x:Int) (t0:Z5) (hr0:Rep id q t0 root):FnG prog 119 1 [.agg [.is (arV o),.int .i64 root],.int .i64 k,.int .i64 x] [arH o room q] (.tup [.agg [.is (arV o),.int .i64 (Zoi room q ⟨k,x⟩ t0 root).2.2],.int .i64 (Zoi room q ⟨k,x⟩ t0 root).2.1]) (fun _=>[arH o room (Zoi room q ⟨k,x⟩ t0 root).1]):=by
 refine FnG.mk func119 Z ntmps119 Z kr fun B F0 a w F V hG O=>?_
 have hg:(Zoi room q ⟨k,x⟩ t0 root)=Zcn q.length (Zbp id room q 0 ⟨k,x⟩ t0 root):=rfl
 refine Ya (Zb O (qx 101 r1 (qf (oH [.pointer none,.int .i64 0] 102) trivial qz (qI qZ))) V [7,6,3,2,1] [102,101,1,0] (fun _=>rfl) (fun _=>rfl) fun τ a w F O=>?_)
 try dsimp only [RS.sub,SF.sub,CF.sub,csub,Anc.sub,List.map,zCF,ZW,Zx] at O
 generalize τ 3=v3,τ 6=v6 at O
 refine Za (Ya (Zb O (qe 2 101 r1 r1 (qf (oB [(0,.tmp 10)] [.pointer none,.int .i64 0,.int .i64 0] [(0,2),(2,1)] (.agg Z .t kr kr .nil)) r1 qz (qf (oX 103 .t) r1 qz (qO rr qZ)))) V [8,7,6,3,2,1] [103,102,101,1,0] (fun _=>rfl) (fun _=>rfl) fun τ a w F O=>?_))
 try dsimp only [RS.sub,SF.sub,CF.sub,csub,Anc.sub,List.map,Ze,xL,xM,Nat.reduceAdd,xD,xE,xT,xU,xC,xN,zCF,ldSF,ZW,Zx] at O
 generalize τ 12=v12 at O
 refine Za (Ya (rZ O (qg 0 101 r1 r1 (qa 101 r1 r1 (qf (o_callG1 1 (Zkg o room q) func182 Z kr (Args.one .t)) r1 r1 (qO rr qZ)))) V [9,8,7,6,3,2,1] [103,102,101,1,0] fun O=>Ya ?_))
 obtain ⟨b,rfl⟩:=O.shape 103 rfl
 have O:=O.fresh 4 rfl
 obtain ⟨F,O⟩:=O.push 4 1 Z Z Z kr
 obtain ⟨F,O⟩:=O.push 4 103 Z Z Z kr
 have O:=O.turn 4 Z (r':=RS.hp (Zam 242 (.pointer (some ⟨b,0,none⟩)) o root 0 room q)) (fun _ _ _ _ h=>h)
 obtain ⟨F,O⟩:=O.nM [9,8,7,6,3,2,1] [102,101,4,0]
 refine rZ O (qR rr (qR rr (qg 1 101 r1 r1 (qa 101 r1 r1 (qR rr (qR rr (qf (oB [(0,.tmp 20),(1,.tmp 21)] [.int .i64 0,.int .i64 0] [(0,1),(1,1)] (.one Z .t one_int kr (.one Z .t one_int kr .nil))) r2 qz (qf (o_callG1 4 (Zp7 b o root 0 room q ⟨k,x⟩ t0 root hr0) func185 Z kr (Args.three .t .t (.pagg .t))) r3 r1 (qR rr (qf (o_callG1 4 (ZiU b o root (Zbp id room q 0 ⟨k,x⟩ t0 root).2.1 room (Zbp id room q 0 ⟨k,x⟩ t0 root).1 (Zbp id room q 0 ⟨k,x⟩ t0 root).2.2 q.length) func183 Z kr (Args.three .t .t .t)) r3 r1 (qf (o_extract .t Z) r1 qz (qf (o_extract .t Z) r1 qz (qf (oA 2 102 .is (.conv .t .agg)) r2 r1 (qO rr qZ)))))))))))))) V [7,6] [102,4,0] fun O=>Yi ?_
 obtain ⟨F,O⟩:=O.peel 4 7 Z rfl
 obtain ⟨F,O⟩:=O.peel 4 1 Z rfl
 have O:=O.turn 1 Z (r':=RS.hp (arH o room (Zoi room q ⟨k,x⟩ t0 root).1)) (fun _ _ _ _ h=>by rw [hg];exact h)
 refine ZA hG O Z (.cl 102 true 2 Z Z (.tmp Z .nil)) (.two (.aggU Z (by first | (rw [hg];done) | (rw [hg];rfl))) (.int (by first | (rw [hg];done) | (rw [hg];rfl)))) rfl
theorem Zpw (o:Option Nat) (room:Int) (q:List Cell) (root:Int) (k:Int) (t0:Z5) (hr0:Rep id q t0 root):FnG prog 118 1 [.agg [.is (arV o),.int .i64 root],.int .i64 k] [arH o room q] (.tup [.agg [.is (arV o),.int .i64 (Zl0 room q k t0 root).2.2],.int .i64 (Zl0 room q k t0 root).2.1]) (fun _=>[arH o room (Zl0 room q k t0 root).1]):=by
 refine FnG.mk func118 Z ntmps118 Z kr fun B F0 a w F V hG O=>Ya ?_
 refine Zb O (qx 101 r1 (qf (oH [.pointer none,.int .i64 0] 102) trivial qz (qI qZ))) V [5,4,2,1] [102,101,1,0] (fun _=>rfl) (fun _=>rfl) fun τ a w F O=>?_
 try dsimp only [RS.sub,SF.sub,CF.sub,csub,Anc.sub,List.map,zCF,ZW,Zx] at O
 generalize τ 2=v2,τ 4=v4 at O
 refine Za (Ya (Ya (rZ O (qe 2 101 r1 r1 (qR rr (qf (o_callG1 1 (Zoh o room q root k t0 hr0) func53 Z kr (Args.two (.pagg .t) .t)) r2 r1 (qR rr (qf (o_extract .t Z) r1 qz (qf (o_extract .t Z) r1 qz (qO rr (qO rr qZ)))))))) V [7,5,4,2,1] [102,101,1,0] fun O=>Ya ?_)))
 refine rZ O (qR rr (qf (ZaA .t) r1 qz qZ)) V [17,5,4,2,1] [102,101,1,0] fun O=>?_
 refine Zd O Z (fun hc0=>?_) (fun hc0=>?_)
 ·have hk:¬ (Zby k t0).2=true:=by simpa using hc0
  have hg:(Zl0 room q k t0 root)=(q,3,0):=Yc hk
  refine Ya (rZ O (qg 0 101 r1 r1 (qa 101 r1 r1 (qf (oP (Ziu o) func104 (Args.one .t)) r1 qz (qf (oA 2 102 .is (.conv .t .agg)) r2 r1 (qI qZ))))) V [5,4,2,1] [102,101,1,0] fun O=>(Yi (Zk ?_)))
  have O:=O.turn 1 Z (r':=RS.hp (arH o room (Zl0 room q k t0 root).1)) (fun _ _ _ _ h=>by rw [hg];exact h)
  refine ZA hG O Z (.cl 102 true 2 Z Z (.tmp Z .nil)) (.two (.aggU Z (by first | (rw [hg];done) | (rw [hg];rfl))) (.int (by first | (rw [hg];done) | (rw [hg];rfl)))) rfl
 have hk:(Zby k t0).2=true:=by simpa using hc0
 have hh:=Zd8.1 hk
 have hg:(Zl0 room q k t0 root)=Zcn q.length (Za9 id room q 0 k t0 root):=Yd hk
 refine Yf (Za (Ya (Zb O (qe 2 101 r1 r1 (qf (oB [(0,.tmp 21)] [.pointer none,.int .i64 0,.int .i64 0] [(0,2),(2,1)] (.agg Z .t kr kr .nil)) r1 qz (qf (oX 103 .t) r1 qz (qO rr qZ)))) V [8,5,4,2,1] [103,102,101,1,0] (fun _=>rfl) (fun _=>rfl) fun τ a w F O=>?_)))
 try dsimp only [RS.sub,SF.sub,CF.sub,csub,Anc.sub,List.map,Ze,xL,xM,Nat.reduceAdd,xD,xE,xT,xU,xC,xN,zCF,ldSF,ZW,Zx] at O
 generalize τ 23=v23 at O
 refine Za (Ya (rZ O (qg 0 101 r1 r1 (qa 101 r1 r1 (qf (o_callG1 1 (Zkg o room q) func182 Z kr (Args.one .t)) r1 r1 (qO rr qZ)))) V [9,8,5,4,2,1] [103,102,101,1,0] fun O=>Ya ?_))
 obtain ⟨b,rfl⟩:=O.shape 103 rfl
 have O:=O.fresh 4 rfl
 obtain ⟨F,O⟩:=O.push 4 1 Z Z Z kr
 obtain ⟨F,O⟩:=O.push 4 103 Z Z Z kr
 have O:=O.turn 4 Z (r':=RS.hp (Zam 242 (.pointer (some ⟨b,0,none⟩)) o root 0 room q)) (fun _ _ _ _ h=>h)
 obtain ⟨F,O⟩:=O.nM [9,8,5,4,2,1] [102,101,4,0]
 refine rZ O (qR rr (qR rr (qg 1 101 r1 r1 (qa 101 r1 r1 (qR rr (qf (o_callG1 4 (Zp2 b o root 0 room q k t0 root hr0 hh) func184 Z kr (Args.three .t .t .t)) r3 r1 (qR rr (qf (o_callG1 4 (ZiU b o root (Za9 id room q 0 k t0 root).2.1 room (Za9 id room q 0 k t0 root).1 (Za9 id room q 0 k t0 root).2.2 q.length) func183 Z kr (Args.three .t .t .t)) r3 r1 (qf (o_extract .t Z) r1 qz (qf (o_extract .t Z) r1 qz (qf (oA 2 102 .is (.conv .t .agg)) r2 r1 (qO rr qZ)))))))))))) V [5,4] [102,4,0] fun O=>Yi ?_
 obtain ⟨F,O⟩:=O.peel 4 7 Z rfl
 obtain ⟨F,O⟩:=O.peel 4 1 Z rfl
 have O:=O.turn 1 Z (r':=RS.hp (arH o room (Zl0 room q k t0 root).1)) (fun _ _ _ _ h=>by rw [hg];exact h)
 refine ZA hG O Z (.cl 102 true 2 Z Z (.tmp Z .nil)) (.two (.aggU Z (by first | (rw [hg];done) | (rw [hg];rfl))) (.int (by first | (rw [hg];done) | (rw [hg];rfl)))) rfl
end Go.Proofs.YtfecljadegkmdaaGreat
