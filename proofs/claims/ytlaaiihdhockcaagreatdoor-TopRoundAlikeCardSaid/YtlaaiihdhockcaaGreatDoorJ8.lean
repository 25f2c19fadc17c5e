/- Laws and walks. No condition beyond what each says. -/
import Derived.Test.YtlaaiihdhockcaaGreatDoorJ7
namespace Go.Proofs.YtlaaiihdhockcaaGreatDoor
open Go Go.Gm Tryz
set_option linter.unusedVariables false
set_option linter.unusedSimpArgs false
set_option maxHeartbeats 4000000
set_option maxRecDepth 8000
theorem Zgk (n:Int) (l gone:List PairD):Zhi prog Zez ZfU 3 [.int .i64 n,.sl ZdZ l,.sl ZdZ gone] (.bool true):=by
 refine Zhi.mk func3 V ntmps3 V ?_
 intro B a w F J hfr G
 have hll:=Sat.lenSl G (i:=1) rfl
 have hgl:=Sat.lenSl G (i:=2) rfl
 refine Ya (rZ G qB J [6,2,1,0] [9,0] fun G=>(Ya (Ya ?_)))
 refine rZ G (qf (Zib 9 (Zjj) func4 V kr Args.nil) qz r1 (qf (o_not .t) r1 qz qZ)) J [24,6,2,1,0] [9,0] fun G=>?_
 refine Zc G V (fun hc0=>?_) (fun hc0=>?_)
 ·simp at hc0
 refine Yg (Za (Ya (Ya (rZ G (qR rr (qf (Zbg .t qi) r1 qz (qR rr (qm V V V V (qk V (fun h=>Zbq (.w h) qi) r2 qz (qf (Zaa .t .t) r2 qz (qR rr (qm V V V V (qk V (fun h=>Zbf YbP (.w h)) r2 qz (qk V (fun h=>Zbq (.w h) qi) r2 qz (qf (Zaa .t .t) r2 qz (qR rr (qm V V V V (qk V (fun h=>Zbf YbP (.w h)) r2 qz (qk V (fun h=>Zbq (.w h) qi) r2 qz (qf (Zaa .t .t) r2 qz qZ)))))))))))))))) J [40,6,2,1,0] [9,0] fun G=>?_))))
 refine Zc G V (fun hc1=>?_) (fun hc1=>?_)
 ·refine Ya (rZ G qB J [6,2,1,0] [9,0] fun G=>(Yl (Zw ?_)))
  refine Zz hfr G V V V (.bool (by first | rfl | simp))
 have hnb:1≤n∧n≤12∧l.length≤40∧gone.length≤40:=by simp at hc1;omega
 obtain ⟨N,rfl⟩:=Yz (show 0≤n by omega)
 have hNr:roomN (N:Int)=N:=ZkQ ow
 refine Yg (Za (Ya ?_))
 replace G:=G.dupG 9 61 V rfl
 replace G:=G.dupG 9 62 V rfl
 replace G:=G.fresh 101 rfl
 refine Ze G (qR rr (qf (Zak 61 (ZlN (N:Int)) func5 V kr (Args.one .t) PV.ptr_one) r1 r1 (qR rr (qf (Zak 62 (Zll (N:Int)) func6 V kr (Args.one .t) PV.ptr_one) r1 r1 (qR rr (qf (o_callN 101 (Zlt (N:Int)) func7 V kr (Args.one .t) PV.ptr_one) r1 r1 (qO rr (qO rr (qO rr qZ))))))))) J [9,8,7,6,2,1,0] [101,62,61,9,0] (fun _=>rfl) (fun _=>rfl) fun τ a w F G=>?_
 try dsimp only [RS.sub,SF.sub,CF.sub,csub,Anc.sub,List.map,ZdZ,Zk,ZbD] at G
 generalize τ 42=v42,τ 44=v44,τ 46=v46 at G
 obtain ⟨_,_,_,ho⟩:=G.obGet 61 rfl
 obtain ⟨b1,rfl⟩:=Zeb ho
 clear ho
 replace G:=G.turn 61 V (r':=RS.hp (clH (.pointer (some ⟨b1,0,none⟩)) (roomN (N:Int)) [] [])) (fun _ _ _ _ h=>h)
 obtain ⟨F,G⟩:=G.nM [9,8,7,6,2,1,0] [101,62,61,9,0]
 obtain ⟨_,_,_,ho⟩:=G.obGet 62 rfl
 obtain ⟨b2,rfl⟩:=ZlH ho
 clear ho
 replace G:=G.turn 62 V (r':=RS.hp (coH (.pointer (some ⟨b2,0,none⟩)) (roomN (N:Int)) [] [])) (fun _ _ _ _ h=>h)
 obtain ⟨F,G⟩:=G.nM [9,8,7,6,2,1,0] [101,62,61,9,0]
 obtain ⟨_,_,_,ho⟩:=G.obGet 101 rfl
 obtain ⟨b3,rfl⟩:=Zia ho
 clear ho
 replace G:=G.turn 101 V (r':=RS.hp (Zj7 (List.replicate (roomN (N:Int)) []) (List.replicate (roomN (N:Int)) []) 0 (.pointer (some ⟨b3,0,none⟩)))) (fun _ _ _ _ h=>h)
 obtain ⟨F,G⟩:=G.nM [9,8,7,6,2,1,0] [101,62,61,9,0]
 rw [hNr] at G
 refine Za (Ya (Ya (rZ G (qR rr (qf (Zai _ underlying24 V .t) r1 qz (qR rr (qm V V V V (qk V (fun h=>Zai _ YbO V (.w h)) r2 qz (qf (Zaa .t .t) r2 qz (qR rr (qm V V V V (qk V (fun h=>Zai _ underlying28 V (.w h)) r2 qz (qf (Zaa .t .t) r2 qz qZ)))))))))) J [56,9,8,7,6,2,1,0] [101,62,61,9,0] fun G=>?_)))
 refine Zc G V (fun hc2=>?_) (fun hc2=>?_)
 ·simp at hc2
 refine Yg (Za (Ya (Ya (rZ G (qR rr (qu YbP r1 (qJ qZ))) J [59,58,57,9,8,7,6,2,0] [101,62,61,9,0] fun G=>Yk ?_))))
 refine Zl (σ:=(Nat)×(List PairD)×(List Int)) [0,2,6,7,8,9,57,58] [0,9,101] (fun s=>[(59,.pv (.int .i64 (s.1:Int)))]) (fun s=>[(61,RS.hp (clH (.pointer (some ⟨b1,0,none⟩)) N s.2.1 s.2.2)),(62,RS.hp (coH (.pointer (some ⟨b2,0,none⟩)) N s.2.1 []))]) (fun s=>s.1≤l.length∧(s.2.1.length≤s.1∧InN N s.2.1)) (fun s=>l.length - s.1) ((0),([]),([])) G ⟨rfl,rfl,rfl,rfl,rfl,rfl,rfl,rfl,rfl,tv⟩ ⟨rfl,rfl,rfl,rfl,rfl,tv⟩ ⟨YA _,⟨YT 0,fun p hp=>(by cases hp)⟩⟩ ?_
 clear G;intro s a w F hC G
 obtain ⟨i,q,la⟩:=s
 try dsimp only at hC
 obtain ⟨F,G⟩:=G.nM [59,58,57,9,8,7,6,2,0] [101,62,61,9,0]
 try dsimp only at G
 obtain ⟨hi,hq⟩:=hC
 obtain ⟨hql,hqn⟩:=hq
 refine Ya (rZ G (qL r2) J [60,59,58,57,9,8,7,6,2,0] [101,62,61,9,0] fun G=>Ya ?_)
 refine Zc G V (fun hc3=>?_) (fun hc3=>?_)
 ·have hil:i<l.length:=by simp at hc3;omega
  refine Yg (Za (Ya (Yk (Ya (Ze G (qy 2 YbP r2 (qf (oR true 2 .t) r1 qz (qf (oH [.int .i64 0,.int .i64 0] 102) trivial qz (qS 2 102 r2 r1 qZ)))) J [59,58,57,11,9,8,7,6,2,0] [102,101,62,61,9,0] (fun _=>rfl) (fun _=>rfl) fun τ a w F G=>?_)))))
  try dsimp only [RS.sub,SF.sub,CF.sub,csub,Anc.sub,List.map,Zh,xL,xM,Nat.reduceAdd,xD,xE,xT,xU,xC,xN,zCF,ldSF,ZdZ,Zk,ZbD] at G
  generalize τ 11=v11 at G
  try simp only [Yb] at G
  refine Za (Ya (Zp G (qR rr (qg 0 102 r1 r1 (qa 102 r1 r1 (qg 1 102 r1 r1 (qa 102 r1 r1 (qf (o_callG1 61 (Zoa b1 N q la (Nn l i).key (Nn l i).val ow) func8 V kr (Args.three .t .t .t)) r3 r1 (qR rr (qg 0 102 r1 r1 (qa 102 r1 r1 (qg 1 102 r1 r1 (qa 102 r1 r1 (qf (o_callG1 62 (Znj b2 N q [] (Nn l i).key (Nn l i).val ow) func9 V kr (Args.three .t .t .t)) r3 r1 (qf (o_neq .t .t) r2 qz qZ))))))))))))) J [75,59,58,57,9,8,7,6,2,0] [102,101,62,61,9,0] V V fun a w F G=>?_))
  try dsimp only [List.map,xD,xE,xT,xU,ldSF,ZdZ,Zk,ZbD] at G
  obtain ⟨q2,hq2⟩:∃ z,z=(stepQ N q (⟨0,(Nn l i).key,(Nn l i).val⟩:Deed4)).1:=⟨_,rfl⟩
  rw [← hq2] at G
  have hqn2:InN N q2:=by rw [hq2];exact stepQ_in hqn
  have hql2:q2.length≤q.length+1:=by have:=stepQ_len N q (⟨0,(Nn l i).key,(Nn l i).val⟩:Deed4);rw [← hq2] at this;omega
  refine Za (Zc G V (fun hc4=>?_) (fun hc4=>?_))
  ·simp at hc4
  refine Yg (Zi (Za (rZ G (qp r1 (qR rr qZ)) J [59,58,57,9,8,7,6,2,0] [102,101,62,61,9,0] fun G=>?_)))
  replace G:=G.ent (i:=59) (s':=.pv (.int .i64 ((i+1:Nat):Int))) V (.int (Zf ow))
  obtain ⟨F,G⟩:=G.nM [58,57,9,8,7,6,2,0,59] [101,9,0,62,61]
  exact ⟨((i+1),(q2),_),F,⟨by omega,⟨by show q2.length≤i+1;omega,hqn2⟩⟩,G,by omega⟩
 have hil:i=l.length:=by simp at hc3;omega
 have hqA:q.length≤40+0:=by omega
 have hqnA:=hqn
 refine YI (Zm (Zm (Zu (Za (Ya (Ya (rZ G (qR rr (qu YbP r1 (qJ qZ))) J [79,78,77,9,8,7,6,0] [101,62,61,9,0] fun G=>Yk ?_)))))))
 refine Zl (σ:=(Nat)×(List PairD)×(List Int)) [0,6,7,8,9,77,78] [0,9,101] (fun s=>[(79,.pv (.int .i64 (s.1:Int)))]) (fun s=>[(61,RS.hp (clH (.pointer (some ⟨b1,0,none⟩)) N s.2.1 s.2.2)),(62,RS.hp (coH (.pointer (some ⟨b2,0,none⟩)) N s.2.1 []))]) (fun s=>s.1≤gone.length∧(s.2.1.length≤40+s.1∧InN N s.2.1)) (fun s=>gone.length - s.1) ((0),_,_) G ⟨rfl,rfl,rfl,rfl,rfl,rfl,rfl,rfl,tv⟩ ⟨rfl,rfl,rfl,rfl,rfl,tv⟩ ⟨YA _,⟨hqA,hqnA⟩⟩ ?_
 clear G;intro s a w F hC G
 obtain ⟨k,q,la⟩:=s
 try dsimp only at hC
 obtain ⟨F,G⟩:=G.nM [79,78,77,9,8,7,6,0] [101,62,61,9,0]
 try dsimp only at G
 obtain ⟨hi,hq⟩:=hC
 obtain ⟨hql,hqn⟩:=hq
 refine Ya (rZ G (qL r2) J [80,79,78,77,9,8,7,6,0] [101,62,61,9,0] fun G=>Ya ?_)
 refine Zc G V (fun hc5=>?_) (fun hc5=>?_)
 ·have hil:k<gone.length:=by simp at hc5;omega
  refine Yg (Za (Ya (Yk (Ya (Ze G (qy 2 YbP r2 (qf (oR true 2 .t) r1 qz (qf (oH [.int .i64 0,.int .i64 0] 103) trivial qz (qS 2 103 r2 r1 qZ)))) J [79,78,77,13,9,8,7,6,0] [103,101,62,61,9,0] (fun _=>rfl) (fun _=>rfl) fun τ a w F G=>?_)))))
  try dsimp only [RS.sub,SF.sub,CF.sub,csub,Anc.sub,List.map,Zh,xL,xM,Nat.reduceAdd,xD,xE,xT,xU,xC,xN,zCF,ldSF,ZdZ,Zk,ZbD] at G
  generalize τ 13=v13 at G
  try simp only [Yb] at G
  refine Za (Ya (Zp G (qR rr (qg 0 103 r1 r1 (qa 103 r1 r1 (qg 1 103 r1 r1 (qa 103 r1 r1 (qf (o_callG1 61 (Znv b1 N q la (Nn gone k).key (Nn gone k).val) func10 V kr (Args.three .t .t .t)) r3 r1 (qR rr (qg 0 103 r1 r1 (qa 103 r1 r1 (qg 1 103 r1 r1 (qa 103 r1 r1 (qf (o_callG1 62 (ZnY b2 N q [] (Nn gone k).key (Nn gone k).val ow) func11 V kr (Args.three .t .t .t)) r3 r1 (qf (o_neq .t .t) r2 qz qZ))))))))))))) J [95,79,78,77,9,8,7,6,0] [103,101,62,61,9,0] V V fun a w F G=>?_))
  try dsimp only [List.map,xD,xE,xT,xU,ldSF,ZdZ,Zk,ZbD] at G
  obtain ⟨q2,hq2⟩:∃ z,z=(stepQ N q (⟨1,(Nn gone k).key,(Nn gone k).val⟩:Deed4)).1:=⟨_,rfl⟩
  rw [← hq2] at G
  have hqn2:InN N q2:=by rw [hq2];exact stepQ_in hqn
  have hql2:q2.length≤q.length+1:=by have:=stepQ_len N q (⟨1,(Nn gone k).key,(Nn gone k).val⟩:Deed4);rw [← hq2] at this;omega
  refine Za (Zc G V (fun hc6=>?_) (fun hc6=>?_))
  ·simp at hc6
  refine Yg (Zi (Za (rZ G (qp r1 (qR rr qZ)) J [79,78,77,9,8,7,6,0] [103,101,62,61,9,0] fun G=>?_)))
  replace G:=G.ent (i:=79) (s':=.pv (.int .i64 ((k+1:Nat):Int))) V (.int (Zf ow))
  obtain ⟨F,G⟩:=G.nM [78,77,9,8,7,6,0,79] [101,9,0,62,61]
  exact ⟨((k+1),(q2),_),F,⟨by omega,⟨by show q2.length≤40+(k+1);omega,hqn2⟩⟩,G,by omega⟩
 have hil:k=gone.length:=by simp at hc5;omega
 have hqL:q.length≤80:=by omega
 refine YI (Zm (Zm (Zu (Za (Ya (Ya (rZ G (qI qZ) J [14,9,8,7,6,0] [101,62,61,9,0] fun G=>Yk ?_)))))))
 refine Zl (σ:=Nat×List ZT×List (List ZL)×List (List ZL)×Nat) [0,6,7,8,9] [0,9,61,62] (fun s=>[(14,.pv (.int .i64 (s.1:Int)))]) (fun s=>[(101,RS.hp (Zj7 s.2.2.1 s.2.2.2.1 s.2.2.2.2 (.pointer (some ⟨b3,0,none⟩))))]) (fun s=>s.1≤N∧ZbQ N s.2.1 s.2.2.1 s.2.2.2.1∧Zaz q s.2.1 (s.1:Int) 0∧s.2.2.2.2≤12*s.1∧s.2.1.length≤12*s.1) (fun s=>N - s.1) ((0),([]),_,_,_) G ⟨rfl,rfl,rfl,rfl,rfl,rfl,tv⟩ ⟨rfl,rfl,rfl,rfl,rfl,tv⟩ ⟨YA _,ZbQ.new N,Zaz.start hqn,YA _,YA _⟩ ?_
 clear G;intro s a w F hC G
 obtain ⟨u,E,O,I,m⟩:=s
 try dsimp only at hC
 obtain ⟨F,G⟩:=G.nM [14,9,8,7,6,0] [101,62,61,9,0]
 try dsimp only at G
 obtain ⟨hu,hDE,hUp,hm,hEl⟩:=hC
 refine Ya (Ya (rZ G (qR rr (qR rr (qL r2))) J [99,14,9,8,7,6,0] [101,62,61,9,0] fun G=>?_))
 refine Zc G V (fun hc7=>?_) (fun hc7=>?_)
 ·have hu9:u<N:=by have h9:=Yr hc7;omega
  refine Yg (Za (Ya (Yk (Ya (rZ G (qI qZ) J [15,14,9,8,7,6,0] [101,62,61,9,0] fun G=>Yk ?_)))))
  refine Zl (σ:=Nat×List ZT×List (List ZL)×List (List ZL)×Nat) [0,6,7,8,9,14] [0,9,61,62] (fun s=>[(15,.pv (.int .i64 (s.1:Int)))]) (fun s=>[(101,RS.hp (Zj7 s.2.2.1 s.2.2.2.1 s.2.2.2.2 (.pointer (some ⟨b3,0,none⟩))))]) (fun s=>s.1≤N∧ZbQ N s.2.1 s.2.2.1 s.2.2.2.1∧Zaz q s.2.1 (u:Int) (s.1:Int)∧s.2.2.2.2≤12*u+s.1∧s.2.1.length≤12*u+s.1) (fun s=>N - s.1) ((0),(E),_,_,_) G ⟨rfl,rfl,rfl,rfl,rfl,rfl,rfl,tv⟩ ⟨rfl,rfl,rfl,rfl,rfl,tv⟩ ⟨YA _,hDE,hUp,by omega,by omega⟩ ?_
  clear G;intro s a w F hC G
  obtain ⟨v,E1,O1,I1,m1⟩:=s
  try dsimp only at hC
  obtain ⟨F,G⟩:=G.nM [15,14,9,8,7,6,0] [101,62,61,9,0]
  try dsimp only at G
  obtain ⟨hv,hDE1,hUp1,hm1,hEl1⟩:=hC
  refine Ya (Ya (rZ G (qR rr (qR rr (qL r2))) J [104,15,14,9,8,7,6,0] [101,62,61,9,0] fun G=>?_))
  refine Zc G V (fun hc8=>?_) (fun hc8=>?_)
  ·have hv9:v<N:=by have h9:=Yr hc8;omega
   have hOr:ZoP O1:=hDE1.on.r ow
   have hIr:ZoP I1:=hDE1.inn.r ow
   have hol1:=hDE1.ol
   have hil1:=hDE1.il
   refine Yg (Za (Ya (Yk (Ya ?_))))
   by_cases hfk:0<Zc8 N q (u:Int) (v:Int)
   ·obtain ⟨O2,I2,hadd,hDE2⟩:=ZbQ.put (m:=m1) hDE1 ow (Zhv hu9 hv9) hUp1.new
    refine Zb G (qR rr (qR rr (qR rr (qf (o_callG1 61 (Zkt b1 N q la (u:Int) (v:Int)) func12 V kr (Args.three .t .t .t)) r3 r1 (qf (Zbq .t qi) r1 qz (qR rr (Chain.cons (Cert.run V V ((Yy hfk)) (ZW .t (by rfl))) r2 qz (Chain.cons (Cert.run V V ((Yy hfk)) (ZW .t (by rfl))) r2 qz (Chain.cons (Cert.run V V ((Yy hfk)) (ZW .t (by rfl))) r2 qz (Chain.cons (Cert.run V V ((Yy hfk)) (Zlv (r:=[(0,.tmp 114),(1,.tmp 115),(2,_)]) (zs:=[.int .i64 0,.int .i64 0,.int .i64 0,.int .i64 0]) (pl:=[(0,1),(1,1),(2,1),(3,1)]) kr kr (.one V .t one_int kr (.one V .t one_int kr (.one V qi one_int kr .nil))) (by rfl))) r3 qz (Chain.cons (Cert.run V V ((Yy hfk)) (o_callG1 101 (Zn7 b3 O1 I1 m1 (⟨(u:Int),(v:Int),1,0⟩:ZT) hOr hIr (by rw [hol1,hil1]) (by rw [hol1];omega) ow) func13 V kr (Args.two .t (.pagg .t)))) r3 r1 (Chain.cons (Cert.run V V ((Yy hfk)) (o_neq .t qi)) r2 qz (qf (ZF .t (.conv .t (Ent.sure (Yy hfk)))) r2 qz qZ))))))))))))) J [119,15,14,9,8,7,6,0] [101,62,61,9,0] V V fun a w F G=>?_
    try dsimp only [List.map,Zh,xL,xM,Nat.reduceAdd,xD,xE,xT,xU,xC,xN,zCF,ZdZ,Zk,ZbD] at G
    rw [hadd] at G
    refine Za (Zc G V (fun hc9=>?_) (fun hc9=>?_))
    ·simp [hfk] at hc9
    refine Yg (Zi (Za (rZ G (qR rr (qp r1 (qO rr qZ))) J [15,14,9,8,7,6,0] [101,62,61,9,0] fun G=>?_)))
    replace G:=G.ent (i:=15) (s':=.pv (.int .i64 ((v+1:Nat):Int))) V (.int (Zf ow))
    obtain ⟨F,G⟩:=G.nM [14,9,8,7,6,0,15] [62,61,9,0,101]
    exact ⟨((v+1),((E1 ++ [(⟨(u:Int),(v:Int),1,0⟩:ZT)])),_,_,_),F,⟨by omega,hDE2,by simpa using Zaz.put hUp1 ((ZkS hu9 hv9).1 hfk),by show m1+1≤12*u+(v+1);omega,by show (E1 ++ [(⟨(u:Int),(v:Int),1,0⟩:ZT)]).length≤12*u+(v+1);rw [Yc,Yp];omega⟩,G,(by show N - (v+1)<N - v;omega)⟩
   refine rZ G (qR rr (qR rr (qR rr (qf (o_callG1 61 (Zkt b1 N q la (u:Int) (v:Int)) func12 V kr (Args.three .t .t .t)) r3 r1 (qf (Zbq .t qi) r1 qz (qR rr (qk V (fun h=>(OpC.never (by simp [hfk] at h))) r1 qz (qk V (fun h=>(OpC.never (by simp [hfk] at h))) r1 qz (qk V (fun h=>(OpC.never (by simp [hfk] at h))) r1 qz (qk V (fun h=>(OpC.never (by simp [hfk] at h))) r1 qz (qk V (fun h=>(OpC.never (by simp [hfk] at h))) r1 qz (qk V (fun h=>(OpC.never (by simp [hfk] at h))) r1 qz (qf (ZF .t .t) r2 qz qZ))))))))))))) J [119,15,14,9,8,7,6,0] [101,62,61,9,0] fun G=>?_
   refine Zc G V (fun hc10=>?_) (fun hc10=>?_)
   ·simp [hfk] at hc10
   refine Yg (Zi (Za (rZ G (qR rr (qp r1 (qO rr qZ))) J [15,14,9,8,7,6,0] [101,62,61,9,0] fun G=>?_)))
   replace G:=G.ent (i:=15) (s':=.pv (.int .i64 ((v+1:Nat):Int))) V (.int (Zf ow))
   obtain ⟨F,G⟩:=G.nM [14,9,8,7,6,0,15] [62,61,9,0,101]
   exact ⟨((v+1),(E1),_,_,_),F,⟨by omega,hDE1,by simpa using Zaz.pass hUp1 (fun h9=>hfk ((ZkS hu9 hv9).2 h9)),by show m1≤12*u+(v+1);omega,by show E1.length≤12*u+(v+1);omega⟩,G,(by show N - (v+1)<N - v;omega)⟩
  have hvN:v=N:=by have h9:=Yag hc8;omega
  have hUp2:Zaz q E1 ((u+1:Nat):Int) 0:=by rw [hvN] at hUp1;exact (by simpa using Zaz.line hqn hUp1)
  refine YI (Zm (Zm (Zu (Zi (Za (rZ G (qR rr (qp r1 (qO rr qZ))) J [14,9,8,7,6,0] [101,62,61,9,0] fun G=>?_))))))
  replace G:=G.ent (i:=14) (s':=.pv (.int .i64 ((u+1:Nat):Int))) V (.int (Zf ow))
  obtain ⟨F,G⟩:=G.nM [9,8,7,6,0,14] [62,61,9,0,101]
  exact ⟨((u+1),(E1),_,_,_),F,⟨by omega,hDE1,hUp2,by show m1≤12*(u+1);omega,by show E1.length≤12*(u+1);omega⟩,G,(by show N - (u+1)<N - u;omega)⟩
 have huN:u=N:=by have h9:=Yag hc7;omega
 rw [huN] at hUp hm hEl
 have ha:∀ a y,y ∈ adjO O 14 a ↔ (⟨a,y⟩:PairD) ∈ q:=fun a y=>by rw [(hDE.next 14 a).2];exact hUp.all hqn
 have hp:∀ x a,a ∈ adjO I 14 x ↔ (⟨a,x⟩:PairD) ∈ q:=fun x a=>by rw [(hDE.prev 14 x).2];exact hUp.back hqn
 have hLab:=Zey ha hqn
 have hol:=hDE.ol
 have hDEo:ZbQ O.length E O I:=by rw [hol];exact hDE
 obtain ⟨F,G⟩:=Sat.giveL (p:=clF N q) G 61 7 V V ZaZ
 obtain ⟨F,G⟩:=G.nM [99,14,9,8,7,6,0] [101,62,9,0]
 obtain ⟨F,G⟩:=Sat.giveL (p:=coF N q) G 62 8 V V Zja
 obtain ⟨F,G⟩:=G.nM [99,14,9,8,7,6,0] [101,9,0]
 obtain ⟨F,G⟩:=Sat.giveL (p:=ZeF O I m) G 101 9 V V ZdB
 obtain ⟨F,G⟩:=G.nM [99,14,9,8,7,6,0] [9,0]
 refine YI (Zm (Zm (Zu (Za (Ya (rZ G (qR rr (qf (oP (ZfI N E O I m 14 hDE ow ow (Zc2 N q) hLab) func14 (Args.two .t qi)) r1 qz (qR rr (qf (oP (Zpw N E O I m 14 hDE ow ow (Zc2 N q) hLab) func15 (Args.two .t qi)) r1 qz (qO rr (qO rr qZ)))))) J [17,16,9,8,7,6,0] [9,0] fun G=>(Ya (Ya ?_))))))))
 refine rZ G (qI qZ) J [18,17,16,9,8,7,6,0] [9,0] fun G=>Yk ?_
 refine Zl (σ:=Nat) [0,6,7,8,9,16,17] [0,9] (fun s=>[(18,.pv (.int .i64 (s:Int)))]) (fun s=>[]) (fun s=>s≤N) (fun s=>N - s) (0) G ⟨rfl,rfl,rfl,rfl,rfl,rfl,rfl,rfl,tv⟩ ⟨rfl,rfl,tv⟩ (YA _) ?_
 clear G;intro v a w F hC G
 try dsimp only at hC
 obtain ⟨F,G⟩:=G.nM [18,17,16,9,8,7,6,0] [9,0]
 try dsimp only at G
 have hv:v≤N:=hC
 refine Ya (Ya (rZ G (qR rr (qR rr (qL r2))) J [126,18,17,16,9,8,7,6,0] [9,0] fun G=>?_))
 refine Zc G V (fun hc11=>?_) (fun hc11=>?_)
 ·have hvN:v<N:=by have h9:=Yr hc11;omega
  obtain ⟨D,hD⟩:=ZoB N (adjO I 14) 0 (v:Int)
  have hDo:ZfP O.length (adjO I 14) 0 (v:Int) D:=by rw [hol];exact hD
  refine Yg (Za (Ya (Yk (Ya (rZ G (qR rr (qR rr (qf (oP (ZpR E O I m 14 (v:Int) 0 hDEo ow ow ow ow ow ow D hDo) func16 (Args.four .t qi .t qi)) r2 qz (qO rr qZ)))) J [19,18,17,16,9,8,7,6,0] [9,0] fun G=>Ya ?_)))))
  refine rZ G (qR rr (qR rr (qf (oP (Zli N q (v:Int) ow hqn ow) func17 (Args.two .t .t)) r2 qz (qR rr (qf (o_extract .t V) r1 qz (qf (o_extract .t V) r1 qz (qO rr (qO rr qZ)))))))) J [21,20,19,18,17,16,9,8,7,6,0] [9,0] fun G=>(Ya (Ya ?_))
  refine ZhA G kr (nM V V (nf (Zbf YbA .t) r1 trivial (nM V V (nf (o_neq .t .t) r2 trivial (nM V V (nm V V V V (nk V (fun h=>Zbf YbA (.w h)) r2 trivial (nm V V V V (nk V (fun h=>o_neq (.w h) (.w h)) r3 trivial (nf (Zaa .t .t) r2 trivial (nM V V (nm V V V V (nk V (fun h=>o_not (.w h)) r2 trivial (nf (Zaa .t .t) r2 trivial (nM V V (nm V V V V (nm V V V V (nm V V V V (nk V (fun h=>o_indexAddr_sl (sz:=1) (.mk YbA kr) (by intro x;rfl) (.w h) (.w h) ow (by rw [labsQ_len];omega)) r3 trivial (nk V (fun h=>Zc5 (ag:=false) (sz:=1) (.w h) kr kr kr) r2 trivial (nk V (fun h=>o_neq (.w h) (.w h)) r3 trivial (nf (Zaa .t .t) r2 trivial (nM V V (nm V V V V (nn [161,160,19,18,17,16,9,8,7,6,0] [9,0] V V (nm V V V V (nk V (fun h=>oP (Zim N q (v:Int)) func18 (Args.two (.w h) (.w h))) r3 trivial (nm V V V V (nm V V V V (nk V (fun h=>oP (ZpN ((Z3 (adjO O 14) (compsL (Zc2 N q) N N)).mergeSort leI) (v:Int) (Zg9 ow)) func19 (Args.two (.w h) (.w h))) r3 trivial (nk V (fun h=>ZiW underlying4 (.w h) (.w h)) r3 trivial (nf (Zaa .t .t) r2 trivial (nM V V (nm V V V V (nm V V V V (nm V V V V (nk V (fun h=>oP (Zao N q (v:Int) (v:Int)) func20 (Args.three (.w h) (.w h) (.w h))) r4 trivial (nm V V V V (nm V V V V (nk V (fun h=>oP (Zim N q (v:Int)) func18 (Args.two (.w h) (.w h))) r3 trivial (nk V (fun h=>ZiW underlying4 (.w h) (.w h)) r3 trivial (nf (Zaa .t .t) r2 trivial ChainN.nil)))))))))))))))))))))))))))))))))))))))))) kr (by rw [J];kernel_rfl) fun a w F G=>?_
  obtain ⟨F,G⟩:=G.nM [178,19,18,17,16,9,8,7,6,0] [9,0]
  try dsimp only [List.map,xD,xE,xT,xU,ldSF,ZdZ,Zk,ZbD] at G
  try simp only [Yb] at G
  refine Za (Zc G V (fun hc12=>?_) (fun hc12=>?_))
  ·have h1:=labsQ_len N q
   have h2:=hD.1
   have h3:decide (There N (v:Int))=true:=Yy (Zav hvN)
   have h4:=Zkf (q:=q) hvN
   have h5:reachB N q (v:Int) (v:Int)=decide ((v:Int) ∈ ((Z3 (adjO O 14) (compsL (Zc2 N q) N N)).mergeSort leI)):=by rw [ZkR hvN];exact decide_eq_decide.2 (Zl1 ha hqn hvN).symm
   rw [h1,h2,h3,h4,h5] at hc12
   simp at hc12
  refine Yg (Za (Ya (rZ G (qI qZ) J [22,19,18,17,16,9,8,7,6,0] [9,0] fun G=>Yk ?_)))
  refine Zl (σ:=Nat) [0,6,7,8,9,16,17,18,19] [0,9] (fun s=>[(22,.pv (.int .i64 (s:Int)))]) (fun s=>[]) (fun s=>s≤N) (fun s=>N - s) (0) G ⟨rfl,rfl,rfl,rfl,rfl,rfl,rfl,rfl,rfl,rfl,tv⟩ ⟨rfl,rfl,tv⟩ (YA _) ?_
  clear G;intro u a w F hC G
  try dsimp only at hC
  obtain ⟨F,G⟩:=G.nM [22,19,18,17,16,9,8,7,6,0] [9,0]
  try dsimp only at G
  have hu:u≤N:=hC
  refine Ya (Ya (rZ G (qR rr (qR rr (qL r2))) J [181,22,19,18,17,16,9,8,7,6,0] [9,0] fun G=>?_))
  refine Zc G V (fun hc13=>?_) (fun hc13=>?_)
  ·have huN:u<N:=by have h9:=Yr hc13;omega
   refine Yg (Za (Ya (Yk (Ya (Zp G (qR rr (qR rr (qf (o_neq .t .t) r2 qz (qR rr (qm V V V V (qm V V V V (qk V (fun h=>o_indexAddr_sl (sz:=1) (.mk YbA kr) (by intro x;rfl) (.w h) (.w h) ow (by rw [hD.1];omega)) r3 qz (qk V (fun h=>oR false 1 (.w h)) r2 qz (qk V (fun h=>Zbq (.w h) qi) r2 qz (qm V V V V (qm V V V V (qm V V V V (qk V (fun h=>oP (Zao N q (u:Int) (v:Int)) func20 (Args.three (.w h) (.w h) (.w h))) r4 qz (qk V (fun h=>ZiW underlying4 (.w h) (.w h)) r3 qz (qf (ZF .t .t) r2 qz (qR rr (qm V V V V (qm V V V V (qk V (fun h=>o_indexAddr_sl (sz:=1) (.mk YbA kr) (by intro x;rfl) (.w h) (.w h) ow (by rw [labsQ_len];omega)) r3 qz (qk V (fun h=>oR false 1 (.w h)) r2 qz (qm V V V V (qm V V V V (qk V (fun h=>o_indexAddr_sl (sz:=1) (.mk YbA kr) (by intro x;rfl) (.w h) (.w h) ow (by rw [labsQ_len];omega)) r3 qz (qk V (fun h=>oR false 1 (.w h)) r2 qz (qk V (fun h=>o_eql (.w h) (.w h)) r3 qz (qm V V V V (qm V V V V (qk V (fun h=>o_eql (.w h) (.w h)) r3 qz (qk V (fun h=>oM (.w h)) r2 qz (Chain.cons (Cert.cond2 V V (fun h=>ZW .t (by rfl))) r2 qz (Chain.cons (Cert.cond2 V V (fun h=>ZW .t (by rfl))) r2 qz (Chain.cons (Cert.cond2 V V (fun h=>ZW .t (by rfl))) r2 qz (Chain.cons (Cert.cond2 V V (fun h=>Zed (Zao N q (u:Int) (v:Int)) func20 V kr (Args.three (.w h) (.w h) (.w h)))) r4 qz (Chain.cons (Cert.cond2 V V (fun h=>ZW (.w h) (by rfl))) r2 qz (Chain.cons (Cert.cond2 V V (fun h=>ZW .t (by rfl))) r2 qz (Chain.cons (Cert.cond2 V V (fun h=>ZW .t (by rfl))) r2 qz (Chain.cons (Cert.cond2 V V (fun h=>ZW .t (by rfl))) r2 qz (Chain.cons (Cert.cond2 V V (fun h=>Zed (Zao N q (v:Int) (u:Int)) func20 V kr (Args.three (.w h) (.w h) (.w h)))) r4 qz (Chain.cons (Cert.cond2 V V (fun h=>ZF (.w h) (.wc h))) r3 qz (qk V (fun h=>Zaa (.w h) (.wc h)) r3 qz (qk V (fun h=>ZiW underlying4 (.w h) (.w h)) r3 qz (qf (Zaa .t .t) r2 qz qZ)))))))))))))))))))))))))))))))))))))))))) J [225,22,19,18,17,16,9,8,7,6,0] [9,0] V V fun a w F G=>?_)))))
   try dsimp only [List.map,xD,xE,xT,xU,ldSF,ZdZ,Zk,ZbD] at G
   try simp only [Yb] at G
   refine Za (Zc G V (fun hc14=>?_) (fun hc14=>?_))
   ·rw [Zmt ha hqn huN hvN] at hc14
    by_cases he:(u:Int)=(v:Int)
    ·simp [he] at hc14
    ·rw [Zm7 hp hqn hD huN he] at hc14;simp [he] at hc14
   refine Yg (Zi (Za (rZ G (qR rr (qp r1 (qO rr qZ))) J [22,19,18,17,16,9,8,7,6,0] [9,0] fun G=>?_)))
   replace G:=G.ent (i:=22) (s':=.pv (.int .i64 ((u+1:Nat):Int))) V (.int (Zf ow))
   obtain ⟨F,G⟩:=G.nM [19,18,17,16,9,8,7,6,0,22] [9,0]
   exact ⟨(u+1),F,(by show u+1≤N;omega),G,(by show N - (u+1)<N - u;omega)⟩
  refine YI (Zm (Zm (Zu (Zi (Za (rZ G (qR rr (qp r1 (qO rr qZ))) J [18,17,16,9,8,7,6,0] [9,0] fun G=>?_))))))
  replace G:=G.ent (i:=18) (s':=.pv (.int .i64 ((v+1:Nat):Int))) V (.int (Zf ow))
  obtain ⟨F,G⟩:=G.nM [17,16,9,8,7,6,0,18] [9,0]
  exact ⟨(v+1),F,(by show v+1≤N;omega),G,(by show N - (v+1)<N - v;omega)⟩
 refine YI (Zm (Zm (Zu (Za (Ya (rZ G qB J [6] [9,0] fun G=>Yl ?_))))))
 refine Zz hfr G V V V (.bool (by first | rfl | simp))
end Go.Proofs.YtlaaiihdhockcaaGreatDoor
